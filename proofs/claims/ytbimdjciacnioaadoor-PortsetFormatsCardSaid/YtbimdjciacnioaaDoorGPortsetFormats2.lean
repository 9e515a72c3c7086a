/- The law PortsetFormats answers true for every input and leaves its arguments as they were. No condition. (Part 2 of 4: the kit's printed words and walks, hand-made contracts and plain laws, joined in build order, without what the theorem does not reach.) -/
import Derived.Laws.CopyRow
import Derived.Laws.OwnMore
import Derived.OwnWalk
import Derived.OneCell
import Derived.IntWalk
import Derived.Laws.RangeAny
import Derived.Test.YtbimdjciacnioaaDoorGPortsetFormats1
section
namespace Go.Proofs.YtbimdjciacnioaaDoor.Q
open Go.RowKit Go.Proofs.YtbimdjciacnioaaDoorW.PrintWords Go.Proofs.YtbimdjciacnioaaDoorW.PrintLast Go.Proofs.YtbimdjciacnioaaDoorW.PrintMore
attribute [local go_sem] max2_int min2_int max_two min_two max_three min_three max_four min_four
set_option linter.unusedVariables false
set_option linter.unusedSimpArgs false
mutual
def interval_Intersect.l0 : Nat → List (S33) → List (S33) → List (S33) → Int → Int → Option ((List (S33)))
  | 0, _, _, _, _, _ => none
  | k + 1, x5, x6, x7, x8, x9 => if x8 < (x5.length : Int) then (interval_Intersect.j1 k x5 x6 x7 x8 x9 (decide (x9 < (x6.length : Int)))) else (interval_Intersect.j1 k x5 x6 x7 x8 x9 false)
def interval_Intersect.j1 : Nat → List (S33) → List (S33) → List (S33) → Int → Int → Bool → Option ((List (S33)))
  | 0, _, _, _, _, _, _ => none
  | k + 1, x5, x6, x7, x8, x9, x25 => if x25 = true then (if 0 ≤ x8 then (if x8 < (x5.length : Int) then (if 0 ≤ x9 then (if x9 < (x6.length : Int) then (if (mx ((rd_T33 x5 x8).f0) ((rd_T33 x6 x9).f0)) ≤ (mn ((rd_T33 x5 x8).f1) ((rd_T33 x6 x9).f1)) then (if x7.length < 8796093022208 then ((some (x7 ++ [(⟨mx ((rd_T33 x5 x8).f0) ((rd_T33 x6 x9).f0), mn ((rd_T33 x5 x8).f1) ((rd_T33 x6 x9).f1)⟩ : S33)] : List (S33))).bind fun y149 => (if ((rd_T33 x5 x8).f1) < ((rd_T33 x6 x9).f1) then (interval_Intersect.l0 k x5 x6 y149 (wrap64 (x8 + 1)) x9) else (interval_Intersect.l0 k x5 x6 y149 x8 (wrap64 (x9 + 1))))) else (none)) else (if ((rd_T33 x5 x8).f1) < ((rd_T33 x6 x9).f1) then (interval_Intersect.l0 k x5 x6 x7 (wrap64 (x8 + 1)) x9) else (interval_Intersect.l0 k x5 x6 x7 x8 (wrap64 (x9 + 1))))) else (none)) else (none)) else (none)) else (none)) else (some x7)
end
def interval_Intersect.f (k : Nat) (l0 : List (S33)) (l1 : List (S33)) : Option ((List (S33))) := (interval_Normal.f k l0).bind fun t139 => ((interval_Normal.f k l1).bind fun t142 => (interval_Intersect.l0 k t139 t142 ([] : List (S33)) 0 0))
theorem interval_Intersect.mono_l : ∀ k, (∀ y0 y1 y2 y3 y4, LeO (interval_Intersect.l0 k y0 y1 y2 y3 y4) (interval_Intersect.l0 (k + 1) y0 y1 y2 y3 y4)) ∧ (∀ y0 y1 y2 y3 y4 y5, LeO (interval_Intersect.j1 k y0 y1 y2 y3 y4 y5) (interval_Intersect.j1 (k + 1) y0 y1 y2 y3 y4 y5))
  | 0 => ⟨fun _ _ _ _ _ r h => by simp [interval_Intersect.l0] at h, fun _ _ _ _ _ _ r h => by simp [interval_Intersect.j1] at h⟩
  | k + 1 => by
    obtain ⟨ih0, ih1⟩ := interval_Intersect.mono_l k
    refine ⟨?_, ?_⟩
    · intro y0 y1 y2 y3 y4
      unfold interval_Intersect.l0
      repeat' first
      | (with_reducible exact ih0 _ _ _ _ _)
      | (with_reducible exact ih1 _ _ _ _ _ _)
      | (with_reducible exact interval_Normal.mono _ _)
      | (with_reducible exact LeO.refl _)
      | (with_reducible exact LeO.none _)
      | (with_reducible refine LeO.ite ?_ ?_)
      | (with_reducible refine LeO.bind ?_ (fun _ => ?_))
      | exact ih0 _ _ _ _ _
      | exact ih1 _ _ _ _ _ _
      | exact interval_Normal.mono _ _
      | exact LeO.none _
      | refine LeO.ite ?_ ?_
      | refine LeO.bind ?_ (fun _ => ?_)
    · intro y0 y1 y2 y3 y4 y5
      unfold interval_Intersect.j1
      repeat' first
      | (with_reducible exact ih0 _ _ _ _ _)
      | (with_reducible exact ih1 _ _ _ _ _ _)
      | (with_reducible exact interval_Normal.mono _ _)
      | (with_reducible exact LeO.refl _)
      | (with_reducible exact LeO.none _)
      | (with_reducible refine LeO.ite ?_ ?_)
      | (with_reducible refine LeO.bind ?_ (fun _ => ?_))
      | exact ih0 _ _ _ _ _
      | exact ih1 _ _ _ _ _ _
      | exact interval_Normal.mono _ _
      | exact LeO.none _
      | refine LeO.ite ?_ ?_
      | refine LeO.bind ?_ (fun _ => ?_)
theorem interval_Intersect.mono : ∀ a0 a1 k, LeO (interval_Intersect.f k a0 a1) (interval_Intersect.f (k + 1) a0 a1) := by
  intro a0 a1 k
  obtain ⟨ih0, ih1⟩ := interval_Intersect.mono_l k
  unfold interval_Intersect.f
  repeat' first
      | (with_reducible exact ih0 _ _ _ _ _)
      | (with_reducible exact ih1 _ _ _ _ _ _)
      | (with_reducible exact interval_Normal.mono _ _)
      | (with_reducible exact LeO.refl _)
      | (with_reducible exact LeO.none _)
      | (with_reducible refine LeO.ite ?_ ?_)
      | (with_reducible refine LeO.bind ?_ (fun _ => ?_))
      | exact ih0 _ _ _ _ _
      | exact ih1 _ _ _ _ _ _
      | exact interval_Normal.mono _ _
      | exact LeO.none _
      | refine LeO.ite ?_ ?_
      | refine LeO.bind ?_ (fun _ => ?_)
set_option maxHeartbeats 8000000 in
set_option maxRecDepth 100000 in
theorem interval_Intersect.calls (k : Nat) (A0 : Option Addr) (c0 : Nat) (l0 : List (S33)) (A1 : Option Addr) (c1 : Nat) (l1 : List (S33)) (r : List (S33)) (w : World) (hr0 : Kd.C k33 w A0 l0.length l0) (hc0 : l0.length ≤ c0) (hr1 : Kd.C k33 w A1 l1.length l1) (hc1 : l1.length ≤ c1) (h : interval_Intersect.f k l0 l1 = some r) :
 Calls Tryd.prog 21 #[.slice A0 l0.length c0, .slice A1 l1.length c1] w fun e w' => ∃ v0_ : Value, e = .returned (v0_) ∧ Kd.R k33 33 w' w.heap.size (fun _ => True) v0_ r ∧ Below w.heap.size w w' := by
 have hu33 := Tryd.underlying33
 have HR0 := Aside0.mk hr0
 have HC0 := Aside0.mk hc0
 clear hr0 hc0
 have HR1 := Aside0.mk hr1
 have HC1 := Aside0.mk hc1
 clear hr1 hc1
 have HB := Aside0.mk (Below.refl w.heap.size w)
 unfold interval_Intersect.f at h; have H := h
 clear h
 replace H := Option.bind_eq_some_iff.mp H
 obtain ⟨t139, A30, H⟩ := H
 try dsimp only at H
 have A3 := Aside0.mk A30
 clear A30
 replace H := Option.bind_eq_some_iff.mp H
 obtain ⟨t142, A40, H⟩ := H
 try dsimp only at H
 have A4 := Aside0.mk A40
 clear A40
 have H' := Aside0.mk H
 clear H
 go_enter Tryd.func21, Tryd.ntmps21
 go_wp2_with (first | (go_at_call 37; (with_reducible refine (interval_Normal.calls k _ _ l0 t139 _ ?side1 ?side2 A3.out).mono ?_); (case side1 => repeat (first | exact HR0.out | (with_reducible refine Kd.C_alloc ?_ _) | (with_reducible refine Kd.C_drewN ?_ _) | (with_reducible refine Kd.C_drew ?_))); (case side2 => exact HC0.out); rintro e w5 ⟨v140, rfl, ho0, hb⟩; have HO141 := Aside0.mk (Kd.R_lower ho0 (below_size (zB HB))); replace HB := Aside0.mk (below_step (zB HB) hb); (try clear hb); (try clear ho0)) | (go_at_call 37; (with_reducible refine (interval_Normal.calls k _ _ l1 t142 _ ?side1 ?side2 A4.out).mono ?_); (case side1 => repeat (first | exact (Kd.C_below HR1.out HB.out) | (with_reducible refine Kd.C_alloc ?_ _) | (with_reducible refine Kd.C_drewN ?_ _) | (with_reducible refine Kd.C_drew ?_))); (case side2 => exact HC1.out); rintro e w6 ⟨v143, rfl, ho0, hb⟩; have HO144 := Aside0.mk (Kd.R_lower (Kd.R_new' ho0 (Kd.R_lt (zR HO141))) (below_size (zB HB))); replace HO141 := Aside0.mk (Kd.R_elder' (zR HO141) (Kd.R_base ho0) hb); replace HB := Aside0.mk (below_step (zB HB) hb); (try clear hb); (try clear ho0)))
 repeat (go_quiet (first | (go_at_call 37; (with_reducible refine (interval_Normal.calls k _ _ l0 t139 _ ?side1 ?side2 A3.out).mono ?_); (case side1 => repeat (first | exact HR0.out | (with_reducible refine Kd.C_alloc ?_ _) | (with_reducible refine Kd.C_drewN ?_ _) | (with_reducible refine Kd.C_drew ?_))); (case side2 => exact HC0.out); rintro e w5 ⟨v140, rfl, ho0, hb⟩; have HO141 := Aside0.mk (Kd.R_lower ho0 (below_size (zB HB))); replace HB := Aside0.mk (below_step (zB HB) hb); (try clear hb); (try clear ho0)) | (go_at_call 37; (with_reducible refine (interval_Normal.calls k _ _ l1 t142 _ ?side1 ?side2 A4.out).mono ?_); (case side1 => repeat (first | exact (Kd.C_below HR1.out HB.out) | (with_reducible refine Kd.C_alloc ?_ _) | (with_reducible refine Kd.C_drewN ?_ _) | (with_reducible refine Kd.C_drew ?_))); (case side2 => exact HC1.out); rintro e w6 ⟨v143, rfl, ho0, hb⟩; have HO144 := Aside0.mk (Kd.R_lower (Kd.R_new' ho0 (Kd.R_lt (zR HO141))) (below_size (zB HB))); replace HO141 := Aside0.mk (Kd.R_elder' (zR HO141) (Kd.R_base ho0) hb); replace HB := Aside0.mk (below_step (zB HB) hb); (try clear hb); (try clear ho0))); try go_wp2_with (first | (go_at_call 37; (with_reducible refine (interval_Normal.calls k _ _ l0 t139 _ ?side1 ?side2 A3.out).mono ?_); (case side1 => repeat (first | exact HR0.out | (with_reducible refine Kd.C_alloc ?_ _) | (with_reducible refine Kd.C_drewN ?_ _) | (with_reducible refine Kd.C_drew ?_))); (case side2 => exact HC0.out); rintro e w5 ⟨v140, rfl, ho0, hb⟩; have HO141 := Aside0.mk (Kd.R_lower ho0 (below_size (zB HB))); replace HB := Aside0.mk (below_step (zB HB) hb); (try clear hb); (try clear ho0)) | (go_at_call 37; (with_reducible refine (interval_Normal.calls k _ _ l1 t142 _ ?side1 ?side2 A4.out).mono ?_); (case side1 => repeat (first | exact (Kd.C_below HR1.out HB.out) | (with_reducible refine Kd.C_alloc ?_ _) | (with_reducible refine Kd.C_drewN ?_ _) | (with_reducible refine Kd.C_drew ?_))); (case side2 => exact HC1.out); rintro e w6 ⟨v143, rfl, ho0, hb⟩; have HO144 := Aside0.mk (Kd.R_lower (Kd.R_new' ho0 (Kd.R_lt (zR HO141))) (below_size (zB HB))); replace HO141 := Aside0.mk (Kd.R_elder' (zR HO141) (Kd.R_base ho0) hb); replace HB := Aside0.mk (below_step (zB HB) hb); (try clear hb); (try clear ho0))))
 go_loopg [7, 8, 9] k (fun kq v7 v8 v9 w' => ∃ (x7_1 : List (S33)) (x8_1 : Int) (x9_1 : Int), v8 = .int .i64 x8_1 ∧ v9 = .int .i64 x9_1 ∧ Aside0 (interval_Intersect.l0 kq t139 t142 x7_1 x8_1 x9_1 = some r) ∧ Aside0 (kq ≤ k) ∧ Aside0 (Kd.R k33 33 w' w.heap.size (fun k_ => some k_ ≠ (v143 : Value).ownBlock ∧ some k_ ≠ (v7 : Value).ownBlock) v140 t139) ∧ Aside0 (Kd.R k33 33 w' w.heap.size (fun k_ => some k_ ≠ (v140 : Value).ownBlock ∧ some k_ ≠ (v7 : Value).ownBlock) v143 t142) ∧ Aside0 (Kd.R k33 33 w' w.heap.size (fun k_ => some k_ ≠ (v140 : Value).ownBlock ∧ some k_ ≠ (v143 : Value).ownBlock) v7 x7_1) ∧ Aside0 (Below w.heap.size w w'))
 case atStart => exact ⟨(([] : List (S33))), (0), (0), (by first | rfl | (simp; done) | (simp [*]; done)), (by first | rfl | (simp; done) | (simp [*]; done)), H', ⟨Nat.le_refl _⟩, ⟨by (with_reducible repeat (first | apply Kd.R_alloc | apply Kd.R_drewN | apply Kd.R_drew)); exact Kd.R_mono HO141.out (fun _ hk => ⟨hk.2, (by simp [Value.ownBlock])⟩)⟩, ⟨by (with_reducible repeat (first | apply Kd.R_alloc | apply Kd.R_drewN | apply Kd.R_drew)); exact Kd.R_mono HO144.out (fun _ hk => ⟨hk.2, (by simp [Value.ownBlock])⟩)⟩, ⟨by first | exact Kd.R_nil _ _ _ _ _ | exact Kd.N_nil _ _ _ _ _ | exact Kd.V_nil _ _ _ _ _ | exact Kd.Q_nil _ _ _ _ _ | exact Kd.S_nil _ _ _ _ _⟩, ⟨zB HB⟩⟩
 case round =>
  clear H'
  try clear c1
  try clear c2
  try clear p2
  obtain ⟨x7_1, x8_1, x9_1, rfl, rfl, HA, HK1, HO_5, HO_6, HO_7, HB⟩ := hrel
  cases gk with
  | zero => exact absurd HA.out (by simp [interval_Intersect.l0])
  | succ k1 =>
   have H := HA.out
   clear HA
   simp only [interval_Intersect.l0] at H
   have HC7 := Aside0.mk H
   clear H
   go_upto_region 4 with (fail)
   repeat (go_quiet (fail); go_upto_region 4 with (fail))
   go_cut [25] (fun v25 wc => ∃ (kq : Nat) (x25_6 : Bool), v25 = .bool x25_6 ∧ Aside0 (interval_Intersect.j1 kq t139 t142 x7_1 x8_1 x9_1 x25_6 = some r) ∧ Aside0 (kq ≤ k1) ∧ Aside0 (Kd.R k33 33 wc w.heap.size (fun k_ => some k_ ≠ (v143 : Value).ownBlock ∧ some k_ ≠ (u7 : Value).ownBlock) v140 t139) ∧ Aside0 (Kd.R k33 33 wc w.heap.size (fun k_ => some k_ ≠ (v140 : Value).ownBlock ∧ some k_ ≠ (u7 : Value).ownBlock) v143 t142) ∧ Aside0 (Kd.R k33 33 wc w.heap.size (fun k_ => some k_ ≠ (v140 : Value).ownBlock ∧ some k_ ≠ (v143 : Value).ownBlock) u7 x7_1) ∧ Aside0 (Below w.heap.size w wc))
   case first =>
    have H := HC7.out
    clear HC7
    by_cases c8 : x8_1 < (t139.length : Int)
    · rw [if_pos c8] at H
      have c8b0 : decide (x8_1 < (t139.length : Int)) = true := decide_eq_true c8
      clear c8
      (first | rw [c8b0] | (simp only [i64_w, i32_w]; rw [c8b0]) | skip)
      have H' := Aside0.mk H
      clear H
      obtain ⟨Ao9, co9, eo9⟩ := Kd.R_slice HO_5.out
      subst eo9
      obtain ⟨Ao10, co10, eo10⟩ := Kd.R_slice HO_6.out
      subst eo10
      go_wp2
      repeat (go_quiet (fail); try go_wp2)
      go_meet
      case rel => exact ⟨_, (decide (x9_1 < (t142.length : Int))), (by first | rfl | (simp; done) | (simp [*]; done)), H', ⟨by have := HK1.out; first | omega | exact Nat.le_refl _⟩, ⟨zR HO_5⟩, ⟨zR HO_6⟩, ⟨zR HO_7⟩, ⟨zB HB⟩⟩
    · rw [if_neg c8] at H
      have c8b0 : decide (x8_1 < (t139.length : Int)) = false := decide_eq_false c8
      clear c8
      (first | rw [c8b0] | (simp only [i64_w, i32_w]; rw [c8b0]) | skip)
      have H' := Aside0.mk H
      clear H
      obtain ⟨Ao11, co11, eo11⟩ := Kd.R_slice HO_5.out
      subst eo11
      go_wp2
      repeat (go_quiet (fail); try go_wp2)
      go_meet
      case rel => exact ⟨_, (false), (by first | rfl | (simp; done) | (simp [*]; done)), H', ⟨by have := HK1.out; first | omega | exact Nat.le_refl _⟩, ⟨zR HO_5⟩, ⟨zR HO_6⟩, ⟨zR HO_7⟩, ⟨zB HB⟩⟩
   case rest =>
    clear HC7
    try clear c1
    try clear c2
    try clear p2
    try clear c8
    try clear c8b0
    try clear p2
    obtain ⟨kq, x25_6, rfl, HA, HJ6, HO_5, HO_6, HO_7, HB⟩ := hcut
    cases kq with
    | zero => exact absurd HA.out (by simp [interval_Intersect.j1])
    | succ kj6 =>
     have H := HA.out
     clear HA
     simp only [interval_Intersect.j1] at H
     by_cases c12 : x25_6 = true
     · subst c12
       rw [if_pos rfl] at H
       by_cases c13 : 0 ≤ x8_1
       · rw [if_pos c13] at H
         have c13b0 : decide (0 ≤ x8_1) = true := decide_eq_true c13
         clear c13
         by_cases c14 : x8_1 < (t139.length : Int)
         · rw [if_pos c14] at H
           have c14b0 : decide (x8_1 < (t139.length : Int)) = true := decide_eq_true c14
           clear c14
           by_cases c15 : 0 ≤ x9_1
           · rw [if_pos c15] at H
             have c15b0 : decide (0 ≤ x9_1) = true := decide_eq_true c15
             clear c15
             by_cases c16 : x9_1 < (t142.length : Int)
             · rw [if_pos c16] at H
               have c16b0 : decide (x9_1 < (t142.length : Int)) = true := decide_eq_true c16
               clear c16
               obtain ⟨ji17, hji17⟩ : ∃ j_ : Int, (mx ((rd_T33 t139 x8_1).f0) ((rd_T33 t142 x9_1).f0)) = j_ := ⟨_, rfl⟩
               replace H : (if (ji17) ≤ (mn ((rd_T33 t139 x8_1).f1) ((rd_T33 t142 x9_1).f1)) then (if x7_1.length < 8796093022208 then ((some (x7_1 ++ [(⟨ji17, mn ((rd_T33 t139 x8_1).f1) ((rd_T33 t142 x9_1).f1)⟩ : S33)] : List (S33))).bind fun y149 => (if ((rd_T33 t139 x8_1).f1) < ((rd_T33 t142 x9_1).f1) then (interval_Intersect.l0 kj6 t139 t142 y149 (wrap64 (x8_1 + 1)) x9_1) else (interval_Intersect.l0 kj6 t139 t142 y149 x8_1 (wrap64 (x9_1 + 1))))) else (none)) else (if ((rd_T33 t139 x8_1).f1) < ((rd_T33 t142 x9_1).f1) then (interval_Intersect.l0 kj6 t139 t142 x7_1 (wrap64 (x8_1 + 1)) x9_1) else (interval_Intersect.l0 kj6 t139 t142 x7_1 x8_1 (wrap64 (x9_1 + 1))))) = some r := by first | (rw [hji17] at H; exact H) | (simp only [hji17] at H ⊢; exact H)
               have hji17_ : (if ((rd_T33 t139 x8_1).f0) < ((rd_T33 t142 x9_1).f0) then ((rd_T33 t142 x9_1).f0) else ((rd_T33 t139 x8_1).f0)) = ji17 := hji17
               obtain ⟨ji18, hji18⟩ : ∃ j_ : Int, (mn ((rd_T33 t139 x8_1).f1) ((rd_T33 t142 x9_1).f1)) = j_ := ⟨_, rfl⟩
               replace H : (if (ji17) ≤ (ji18) then (if x7_1.length < 8796093022208 then ((some (x7_1 ++ [(⟨ji17, ji18⟩ : S33)] : List (S33))).bind fun y149 => (if ((rd_T33 t139 x8_1).f1) < ((rd_T33 t142 x9_1).f1) then (interval_Intersect.l0 kj6 t139 t142 y149 (wrap64 (x8_1 + 1)) x9_1) else (interval_Intersect.l0 kj6 t139 t142 y149 x8_1 (wrap64 (x9_1 + 1))))) else (none)) else (if ((rd_T33 t139 x8_1).f1) < ((rd_T33 t142 x9_1).f1) then (interval_Intersect.l0 kj6 t139 t142 x7_1 (wrap64 (x8_1 + 1)) x9_1) else (interval_Intersect.l0 kj6 t139 t142 x7_1 x8_1 (wrap64 (x9_1 + 1))))) = some r := by first | (rw [hji18] at H; exact H) | (simp only [hji18] at H ⊢; exact H)
               have hji18_ : (if ((rd_T33 t142 x9_1).f1) < ((rd_T33 t139 x8_1).f1) then ((rd_T33 t142 x9_1).f1) else ((rd_T33 t139 x8_1).f1)) = ji18 := hji18
               by_cases c19 : (ji17) ≤ (ji18)
               · rw [if_pos c19] at H
                 have c19b0 : decide ((ji17) ≤ (ji18)) = true := decide_eq_true c19
                 clear c19
                 by_cases c20 : x7_1.length < 8796093022208
                 · rw [if_pos c20] at H
                   have LMc20 := Aside0.mk c20
                   clear c20
                   obtain ⟨y149, hy149⟩ : ∃ y_ : List (S33), y_ = (x7_1 ++ [(⟨ji17, ji18⟩ : S33)]) := ⟨_, rfl⟩
                   rw [← hy149] at H; try dsimp only [Option.bind_some] at H
                   have Ny149 := Aside0.mk hy149
                   clear hy149
                   by_cases c21 : ((rd_T33 t139 x8_1).f1) < ((rd_T33 t142 x9_1).f1)
                   · rw [if_pos c21] at H
                     have c21b0 : decide (((rd_T33 t139 x8_1).f1) < ((rd_T33 t142 x9_1).f1)) = true := decide_eq_true c21
                     clear c21
                     have H' := Aside0.mk H
                     clear H
                     obtain ⟨Ao22, co22, eo22⟩ := Kd.R_slice HO_5.out
                     subst eo22
                     have p145 : 0 ≤ (x8_1 : Int) := za
                     have q145 : x8_1 < (t139.length : Int) := za
                     obtain ⟨ad145, e145, hx145_0, hx145_1⟩ := at_T33 (Kd.R_reads' HO_5.out).2.2 x8_1 p145 q145
                     cases e145
                     replace p145 := eq_true p145
                     replace q145 := eq_true q145
                     obtain ⟨Ao23, co23, eo23⟩ := Kd.R_slice HO_6.out
                     subst eo23
                     have p146 : 0 ≤ (x9_1 : Int) := za
                     have q146 : x9_1 < (t142.length : Int) := za
                     obtain ⟨ad146, e146, hx146_0, hx146_1⟩ := at_T33 (Kd.R_reads' HO_6.out).2.2 x9_1 p146 q146
                     cases e146
                     replace p146 := eq_true p146
                     replace q146 := eq_true q146
                     have p147 : 0 ≤ (x8_1 : Int) := za
                     have q147 : x8_1 < (t139.length : Int) := za
                     obtain ⟨ad147, e147, hx147_0, hx147_1⟩ := at_T33 (Kd.R_reads' HO_5.out).2.2 x8_1 p147 q147
                     obtain rfl : ad145 = ad147 := (by injection e147)
                     replace p147 := eq_true p147
                     replace q147 := eq_true q147
                     have p148 : 0 ≤ (x9_1 : Int) := za
                     have q148 : x9_1 < (t142.length : Int) := za
                     obtain ⟨ad148, e148, hx148_0, hx148_1⟩ := at_T33 (Kd.R_reads' HO_6.out).2.2 x9_1 p148 q148
                     obtain rfl : ad146 = ad148 := (by injection e148)
                     replace p148 := eq_true p148
                     replace q148 := eq_true q148
                     go_wp2_with (first | ((with_reducible refine gate_builtin (b := .append) (xs := #[.tmp 51, .tmp 55]) rfl ?_); (try (refine gate_guard (by rfl) ?_; dsimp only)); at_builtin; refine Kd.R_append k33 (w0 := w) w.heap.size rfl (.tmp 51) (.tmp 55) 23 33 (.agg #[(.int .i64 0), (.int .i64 0)]) 16 rfl Tryd.underlying23 info33 rfl (by decide) (by omega) u7 x7_1 (⟨ji17, ji18⟩ : S33) [.int .i64 ji17, .int .i64 ji18] (fun k_ => some k_ ≠ (.slice (some ad145) t139.length co22 : Value).ownBlock ∧ some k_ ≠ (.slice (some ad146) t142.length co23 : Value).ownBlock) (fun _ => False) rfl rfl ?aP (fun _ hk => hk.elim) ?aF ?aO ?aB ?aS ?aL ?_; (case aP => exact k33_mkM _ _ _ (⟨ji17, ji18⟩ : S33)); (case aB => exact (zB HB)); (case aF => exact (fun k_ hk => ⟨Kd.fresh' (Kd.R_lt (zR HO_5)) k_ hk, Kd.fresh' (Kd.R_lt (zR HO_6)) k_ hk⟩)); (case aO => exact (zR HO_7)); (case aS => exact (below_size (zB HB))); (case aL => have := LMc20.out; omega); intro v150 w24 ho hb hg hat; rw [← Ny149.out] at ho; replace HO_5 := Aside0.mk (Kd.R_after (ok := (fun k_ => some k_ ≠ (.slice (some ad146) t142.length co23 : Value).ownBlock)) (zR HO_5) hg hat); replace HO_6 := Aside0.mk (Kd.R_after (ok := (fun k_ => some k_ ≠ (.slice (some ad145) t139.length co22 : Value).ownBlock)) (zR HO_6) hg hat); replace HB := Aside0.mk (hb); have HO151 := Aside0.mk (ho); clear HO_7; clear ho hb hg hat; have p152 : 0 ≤ (x8_1 : Int) := za; have q152 : x8_1 < (t139.length : Int) := za; obtain ⟨ad152, e152, hx152_0, hx152_1⟩ := at_T33 (Kd.R_reads' HO_5.out).2.2 x8_1 p152 q152; obtain rfl : ad145 = ad152 := (by injection e152); replace p152 := eq_true p152; replace q152 := eq_true q152; have p153 : 0 ≤ (x9_1 : Int) := za; have q153 : x9_1 < (t142.length : Int) := za; obtain ⟨ad153, e153, hx153_0, hx153_1⟩ := at_T33 (Kd.R_reads' HO_6.out).2.2 x9_1 p153 q153; obtain rfl : ad146 = ad153 := (by injection e153); replace p153 := eq_true p153; replace q153 := eq_true q153))
                     repeat (go_quiet (first | ((with_reducible refine gate_builtin (b := .append) (xs := #[.tmp 51, .tmp 55]) rfl ?_); (try (refine gate_guard (by rfl) ?_; dsimp only)); at_builtin; refine Kd.R_append k33 (w0 := w) w.heap.size rfl (.tmp 51) (.tmp 55) 23 33 (.agg #[(.int .i64 0), (.int .i64 0)]) 16 rfl Tryd.underlying23 info33 rfl (by decide) (by omega) u7 x7_1 (⟨ji17, ji18⟩ : S33) [.int .i64 ji17, .int .i64 ji18] (fun k_ => some k_ ≠ (.slice (some ad145) t139.length co22 : Value).ownBlock ∧ some k_ ≠ (.slice (some ad146) t142.length co23 : Value).ownBlock) (fun _ => False) rfl rfl ?aP (fun _ hk => hk.elim) ?aF ?aO ?aB ?aS ?aL ?_; (case aP => exact k33_mkM _ _ _ (⟨ji17, ji18⟩ : S33)); (case aB => exact (zB HB)); (case aF => exact (fun k_ hk => ⟨Kd.fresh' (Kd.R_lt (zR HO_5)) k_ hk, Kd.fresh' (Kd.R_lt (zR HO_6)) k_ hk⟩)); (case aO => exact (zR HO_7)); (case aS => exact (below_size (zB HB))); (case aL => have := LMc20.out; omega); intro v150 w24 ho hb hg hat; rw [← Ny149.out] at ho; replace HO_5 := Aside0.mk (Kd.R_after (ok := (fun k_ => some k_ ≠ (.slice (some ad146) t142.length co23 : Value).ownBlock)) (zR HO_5) hg hat); replace HO_6 := Aside0.mk (Kd.R_after (ok := (fun k_ => some k_ ≠ (.slice (some ad145) t139.length co22 : Value).ownBlock)) (zR HO_6) hg hat); replace HB := Aside0.mk (hb); have HO151 := Aside0.mk (ho); clear HO_7; clear ho hb hg hat; have p152 : 0 ≤ (x8_1 : Int) := za; have q152 : x8_1 < (t139.length : Int) := za; obtain ⟨ad152, e152, hx152_0, hx152_1⟩ := at_T33 (Kd.R_reads' HO_5.out).2.2 x8_1 p152 q152; obtain rfl : ad145 = ad152 := (by injection e152); replace p152 := eq_true p152; replace q152 := eq_true q152; have p153 : 0 ≤ (x9_1 : Int) := za; have q153 : x9_1 < (t142.length : Int) := za; obtain ⟨ad153, e153, hx153_0, hx153_1⟩ := at_T33 (Kd.R_reads' HO_6.out).2.2 x9_1 p153 q153; obtain rfl : ad146 = ad153 := (by injection e153); replace p153 := eq_true p153; replace q153 := eq_true q153)); try go_wp2_with (first | ((with_reducible refine gate_builtin (b := .append) (xs := #[.tmp 51, .tmp 55]) rfl ?_); (try (refine gate_guard (by rfl) ?_; dsimp only)); at_builtin; refine Kd.R_append k33 (w0 := w) w.heap.size rfl (.tmp 51) (.tmp 55) 23 33 (.agg #[(.int .i64 0), (.int .i64 0)]) 16 rfl Tryd.underlying23 info33 rfl (by decide) (by omega) u7 x7_1 (⟨ji17, ji18⟩ : S33) [.int .i64 ji17, .int .i64 ji18] (fun k_ => some k_ ≠ (.slice (some ad145) t139.length co22 : Value).ownBlock ∧ some k_ ≠ (.slice (some ad146) t142.length co23 : Value).ownBlock) (fun _ => False) rfl rfl ?aP (fun _ hk => hk.elim) ?aF ?aO ?aB ?aS ?aL ?_; (case aP => exact k33_mkM _ _ _ (⟨ji17, ji18⟩ : S33)); (case aB => exact (zB HB)); (case aF => exact (fun k_ hk => ⟨Kd.fresh' (Kd.R_lt (zR HO_5)) k_ hk, Kd.fresh' (Kd.R_lt (zR HO_6)) k_ hk⟩)); (case aO => exact (zR HO_7)); (case aS => exact (below_size (zB HB))); (case aL => have := LMc20.out; omega); intro v150 w24 ho hb hg hat; rw [← Ny149.out] at ho; replace HO_5 := Aside0.mk (Kd.R_after (ok := (fun k_ => some k_ ≠ (.slice (some ad146) t142.length co23 : Value).ownBlock)) (zR HO_5) hg hat); replace HO_6 := Aside0.mk (Kd.R_after (ok := (fun k_ => some k_ ≠ (.slice (some ad145) t139.length co22 : Value).ownBlock)) (zR HO_6) hg hat); replace HB := Aside0.mk (hb); have HO151 := Aside0.mk (ho); clear HO_7; clear ho hb hg hat; have p152 : 0 ≤ (x8_1 : Int) := za; have q152 : x8_1 < (t139.length : Int) := za; obtain ⟨ad152, e152, hx152_0, hx152_1⟩ := at_T33 (Kd.R_reads' HO_5.out).2.2 x8_1 p152 q152; obtain rfl : ad145 = ad152 := (by injection e152); replace p152 := eq_true p152; replace q152 := eq_true q152; have p153 : 0 ≤ (x9_1 : Int) := za; have q153 : x9_1 < (t142.length : Int) := za; obtain ⟨ad153, e153, hx153_0, hx153_1⟩ := at_T33 (Kd.R_reads' HO_6.out).2.2 x9_1 p153 q153; obtain rfl : ad146 = ad153 := (by injection e153); replace p153 := eq_true p153; replace q153 := eq_true q153)))
                     go_roundg kj6
                     case measure => have := HK1.out; have := HJ6.out; omega
                     case rel => exact ⟨(y149), (wrap64 (x8_1 + 1)), (x9_1), (by first | rfl | (simp; done) | (simp [*]; done)), (by first | rfl | (simp; done) | (simp [*]; done)), H', ⟨by have := HK1.out; have := HJ6.out; omega⟩, ⟨zR HO_5⟩, ⟨zR HO_6⟩, ⟨zR HO151⟩, ⟨zB HB⟩⟩
                   · rw [if_neg c21] at H
                     have c21b0 : decide (((rd_T33 t139 x8_1).f1) < ((rd_T33 t142 x9_1).f1)) = false := decide_eq_false c21
                     clear c21
                     have H' := Aside0.mk H
                     clear H
                     obtain ⟨Ao25, co25, eo25⟩ := Kd.R_slice HO_5.out
                     subst eo25
                     have p145 : 0 ≤ (x8_1 : Int) := za
                     have q145 : x8_1 < (t139.length : Int) := za
                     obtain ⟨ad145, e145, hx145_0, hx145_1⟩ := at_T33 (Kd.R_reads' HO_5.out).2.2 x8_1 p145 q145
                     cases e145
                     replace p145 := eq_true p145
                     replace q145 := eq_true q145
                     obtain ⟨Ao26, co26, eo26⟩ := Kd.R_slice HO_6.out
                     subst eo26
                     have p146 : 0 ≤ (x9_1 : Int) := za
                     have q146 : x9_1 < (t142.length : Int) := za
                     obtain ⟨ad146, e146, hx146_0, hx146_1⟩ := at_T33 (Kd.R_reads' HO_6.out).2.2 x9_1 p146 q146
                     cases e146
                     replace p146 := eq_true p146
                     replace q146 := eq_true q146
                     have p147 : 0 ≤ (x8_1 : Int) := za
                     have q147 : x8_1 < (t139.length : Int) := za
                     obtain ⟨ad147, e147, hx147_0, hx147_1⟩ := at_T33 (Kd.R_reads' HO_5.out).2.2 x8_1 p147 q147
                     obtain rfl : ad145 = ad147 := (by injection e147)
                     replace p147 := eq_true p147
                     replace q147 := eq_true q147
                     have p148 : 0 ≤ (x9_1 : Int) := za
                     have q148 : x9_1 < (t142.length : Int) := za
                     obtain ⟨ad148, e148, hx148_0, hx148_1⟩ := at_T33 (Kd.R_reads' HO_6.out).2.2 x9_1 p148 q148
                     obtain rfl : ad146 = ad148 := (by injection e148)
                     replace p148 := eq_true p148
                     replace q148 := eq_true q148
                     go_wp2_with (first | ((with_reducible refine gate_builtin (b := .append) (xs := #[.tmp 51, .tmp 55]) rfl ?_); (try (refine gate_guard (by rfl) ?_; dsimp only)); at_builtin; refine Kd.R_append k33 (w0 := w) w.heap.size rfl (.tmp 51) (.tmp 55) 23 33 (.agg #[(.int .i64 0), (.int .i64 0)]) 16 rfl Tryd.underlying23 info33 rfl (by decide) (by omega) u7 x7_1 (⟨ji17, ji18⟩ : S33) [.int .i64 ji17, .int .i64 ji18] (fun k_ => some k_ ≠ (.slice (some ad145) t139.length co25 : Value).ownBlock ∧ some k_ ≠ (.slice (some ad146) t142.length co26 : Value).ownBlock) (fun _ => False) rfl rfl ?aP (fun _ hk => hk.elim) ?aF ?aO ?aB ?aS ?aL ?_; (case aP => exact k33_mkM _ _ _ (⟨ji17, ji18⟩ : S33)); (case aB => exact (zB HB)); (case aF => exact (fun k_ hk => ⟨Kd.fresh' (Kd.R_lt (zR HO_5)) k_ hk, Kd.fresh' (Kd.R_lt (zR HO_6)) k_ hk⟩)); (case aO => exact (zR HO_7)); (case aS => exact (below_size (zB HB))); (case aL => have := LMc20.out; omega); intro v150 w27 ho hb hg hat; rw [← Ny149.out] at ho; replace HO_5 := Aside0.mk (Kd.R_after (ok := (fun k_ => some k_ ≠ (.slice (some ad146) t142.length co26 : Value).ownBlock)) (zR HO_5) hg hat); replace HO_6 := Aside0.mk (Kd.R_after (ok := (fun k_ => some k_ ≠ (.slice (some ad145) t139.length co25 : Value).ownBlock)) (zR HO_6) hg hat); replace HB := Aside0.mk (hb); have HO151 := Aside0.mk (ho); clear HO_7; clear ho hb hg hat; have p152 : 0 ≤ (x8_1 : Int) := za; have q152 : x8_1 < (t139.length : Int) := za; obtain ⟨ad152, e152, hx152_0, hx152_1⟩ := at_T33 (Kd.R_reads' HO_5.out).2.2 x8_1 p152 q152; obtain rfl : ad145 = ad152 := (by injection e152); replace p152 := eq_true p152; replace q152 := eq_true q152; have p153 : 0 ≤ (x9_1 : Int) := za; have q153 : x9_1 < (t142.length : Int) := za; obtain ⟨ad153, e153, hx153_0, hx153_1⟩ := at_T33 (Kd.R_reads' HO_6.out).2.2 x9_1 p153 q153; obtain rfl : ad146 = ad153 := (by injection e153); replace p153 := eq_true p153; replace q153 := eq_true q153))
                     repeat (go_quiet (first | ((with_reducible refine gate_builtin (b := .append) (xs := #[.tmp 51, .tmp 55]) rfl ?_); (try (refine gate_guard (by rfl) ?_; dsimp only)); at_builtin; refine Kd.R_append k33 (w0 := w) w.heap.size rfl (.tmp 51) (.tmp 55) 23 33 (.agg #[(.int .i64 0), (.int .i64 0)]) 16 rfl Tryd.underlying23 info33 rfl (by decide) (by omega) u7 x7_1 (⟨ji17, ji18⟩ : S33) [.int .i64 ji17, .int .i64 ji18] (fun k_ => some k_ ≠ (.slice (some ad145) t139.length co25 : Value).ownBlock ∧ some k_ ≠ (.slice (some ad146) t142.length co26 : Value).ownBlock) (fun _ => False) rfl rfl ?aP (fun _ hk => hk.elim) ?aF ?aO ?aB ?aS ?aL ?_; (case aP => exact k33_mkM _ _ _ (⟨ji17, ji18⟩ : S33)); (case aB => exact (zB HB)); (case aF => exact (fun k_ hk => ⟨Kd.fresh' (Kd.R_lt (zR HO_5)) k_ hk, Kd.fresh' (Kd.R_lt (zR HO_6)) k_ hk⟩)); (case aO => exact (zR HO_7)); (case aS => exact (below_size (zB HB))); (case aL => have := LMc20.out; omega); intro v150 w27 ho hb hg hat; rw [← Ny149.out] at ho; replace HO_5 := Aside0.mk (Kd.R_after (ok := (fun k_ => some k_ ≠ (.slice (some ad146) t142.length co26 : Value).ownBlock)) (zR HO_5) hg hat); replace HO_6 := Aside0.mk (Kd.R_after (ok := (fun k_ => some k_ ≠ (.slice (some ad145) t139.length co25 : Value).ownBlock)) (zR HO_6) hg hat); replace HB := Aside0.mk (hb); have HO151 := Aside0.mk (ho); clear HO_7; clear ho hb hg hat; have p152 : 0 ≤ (x8_1 : Int) := za; have q152 : x8_1 < (t139.length : Int) := za; obtain ⟨ad152, e152, hx152_0, hx152_1⟩ := at_T33 (Kd.R_reads' HO_5.out).2.2 x8_1 p152 q152; obtain rfl : ad145 = ad152 := (by injection e152); replace p152 := eq_true p152; replace q152 := eq_true q152; have p153 : 0 ≤ (x9_1 : Int) := za; have q153 : x9_1 < (t142.length : Int) := za; obtain ⟨ad153, e153, hx153_0, hx153_1⟩ := at_T33 (Kd.R_reads' HO_6.out).2.2 x9_1 p153 q153; obtain rfl : ad146 = ad153 := (by injection e153); replace p153 := eq_true p153; replace q153 := eq_true q153)); try go_wp2_with (first | ((with_reducible refine gate_builtin (b := .append) (xs := #[.tmp 51, .tmp 55]) rfl ?_); (try (refine gate_guard (by rfl) ?_; dsimp only)); at_builtin; refine Kd.R_append k33 (w0 := w) w.heap.size rfl (.tmp 51) (.tmp 55) 23 33 (.agg #[(.int .i64 0), (.int .i64 0)]) 16 rfl Tryd.underlying23 info33 rfl (by decide) (by omega) u7 x7_1 (⟨ji17, ji18⟩ : S33) [.int .i64 ji17, .int .i64 ji18] (fun k_ => some k_ ≠ (.slice (some ad145) t139.length co25 : Value).ownBlock ∧ some k_ ≠ (.slice (some ad146) t142.length co26 : Value).ownBlock) (fun _ => False) rfl rfl ?aP (fun _ hk => hk.elim) ?aF ?aO ?aB ?aS ?aL ?_; (case aP => exact k33_mkM _ _ _ (⟨ji17, ji18⟩ : S33)); (case aB => exact (zB HB)); (case aF => exact (fun k_ hk => ⟨Kd.fresh' (Kd.R_lt (zR HO_5)) k_ hk, Kd.fresh' (Kd.R_lt (zR HO_6)) k_ hk⟩)); (case aO => exact (zR HO_7)); (case aS => exact (below_size (zB HB))); (case aL => have := LMc20.out; omega); intro v150 w27 ho hb hg hat; rw [← Ny149.out] at ho; replace HO_5 := Aside0.mk (Kd.R_after (ok := (fun k_ => some k_ ≠ (.slice (some ad146) t142.length co26 : Value).ownBlock)) (zR HO_5) hg hat); replace HO_6 := Aside0.mk (Kd.R_after (ok := (fun k_ => some k_ ≠ (.slice (some ad145) t139.length co25 : Value).ownBlock)) (zR HO_6) hg hat); replace HB := Aside0.mk (hb); have HO151 := Aside0.mk (ho); clear HO_7; clear ho hb hg hat; have p152 : 0 ≤ (x8_1 : Int) := za; have q152 : x8_1 < (t139.length : Int) := za; obtain ⟨ad152, e152, hx152_0, hx152_1⟩ := at_T33 (Kd.R_reads' HO_5.out).2.2 x8_1 p152 q152; obtain rfl : ad145 = ad152 := (by injection e152); replace p152 := eq_true p152; replace q152 := eq_true q152; have p153 : 0 ≤ (x9_1 : Int) := za; have q153 : x9_1 < (t142.length : Int) := za; obtain ⟨ad153, e153, hx153_0, hx153_1⟩ := at_T33 (Kd.R_reads' HO_6.out).2.2 x9_1 p153 q153; obtain rfl : ad146 = ad153 := (by injection e153); replace p153 := eq_true p153; replace q153 := eq_true q153)))
                     go_roundg kj6
                     case measure => have := HK1.out; have := HJ6.out; omega
                     case rel => exact ⟨(y149), (x8_1), (wrap64 (x9_1 + 1)), (by first | rfl | (simp; done) | (simp [*]; done)), (by first | rfl | (simp; done) | (simp [*]; done)), H', ⟨by have := HK1.out; have := HJ6.out; omega⟩, ⟨zR HO_5⟩, ⟨zR HO_6⟩, ⟨zR HO151⟩, ⟨zB HB⟩⟩
                 · rw [if_neg c20] at H
                   exact absurd H (by simp)
               · rw [if_neg c19] at H
                 have c19b0 : decide ((ji17) ≤ (ji18)) = false := decide_eq_false c19
                 clear c19
                 by_cases c28 : ((rd_T33 t139 x8_1).f1) < ((rd_T33 t142 x9_1).f1)
                 · rw [if_pos c28] at H
                   have c28b0 : decide (((rd_T33 t139 x8_1).f1) < ((rd_T33 t142 x9_1).f1)) = true := decide_eq_true c28
                   clear c28
                   have H' := Aside0.mk H
                   clear H
                   obtain ⟨Ao29, co29, eo29⟩ := Kd.R_slice HO_5.out
                   subst eo29
                   have p145 : 0 ≤ (x8_1 : Int) := za
                   have q145 : x8_1 < (t139.length : Int) := za
                   obtain ⟨ad145, e145, hx145_0, hx145_1⟩ := at_T33 (Kd.R_reads' HO_5.out).2.2 x8_1 p145 q145
                   cases e145
                   replace p145 := eq_true p145
                   replace q145 := eq_true q145
                   obtain ⟨Ao30, co30, eo30⟩ := Kd.R_slice HO_6.out
                   subst eo30
                   have p146 : 0 ≤ (x9_1 : Int) := za
                   have q146 : x9_1 < (t142.length : Int) := za
                   obtain ⟨ad146, e146, hx146_0, hx146_1⟩ := at_T33 (Kd.R_reads' HO_6.out).2.2 x9_1 p146 q146
                   cases e146
                   replace p146 := eq_true p146
                   replace q146 := eq_true q146
                   have p147 : 0 ≤ (x8_1 : Int) := za
                   have q147 : x8_1 < (t139.length : Int) := za
                   obtain ⟨ad147, e147, hx147_0, hx147_1⟩ := at_T33 (Kd.R_reads' HO_5.out).2.2 x8_1 p147 q147
                   obtain rfl : ad145 = ad147 := (by injection e147)
                   replace p147 := eq_true p147
                   replace q147 := eq_true q147
                   have p148 : 0 ≤ (x9_1 : Int) := za
                   have q148 : x9_1 < (t142.length : Int) := za
                   obtain ⟨ad148, e148, hx148_0, hx148_1⟩ := at_T33 (Kd.R_reads' HO_6.out).2.2 x9_1 p148 q148
                   obtain rfl : ad146 = ad148 := (by injection e148)
                   replace p148 := eq_true p148
                   replace q148 := eq_true q148
                   have p154 : 0 ≤ (x8_1 : Int) := za
                   have q154 : x8_1 < (t139.length : Int) := za
                   obtain ⟨ad154, e154, hx154_0, hx154_1⟩ := at_T33 (Kd.R_reads' HO_5.out).2.2 x8_1 p154 q154
                   obtain rfl : ad145 = ad154 := (by injection e154)
                   replace p154 := eq_true p154
                   replace q154 := eq_true q154
                   have p155 : 0 ≤ (x9_1 : Int) := za
                   have q155 : x9_1 < (t142.length : Int) := za
                   obtain ⟨ad155, e155, hx155_0, hx155_1⟩ := at_T33 (Kd.R_reads' HO_6.out).2.2 x9_1 p155 q155
                   obtain rfl : ad146 = ad155 := (by injection e155)
                   replace p155 := eq_true p155
                   replace q155 := eq_true q155
                   go_wp2
                   repeat (go_quiet (fail); try go_wp2)
                   go_roundg kj6
                   case measure => have := HK1.out; have := HJ6.out; omega
                   case rel => exact ⟨(x7_1), (wrap64 (x8_1 + 1)), (x9_1), (by first | rfl | (simp; done) | (simp [*]; done)), (by first | rfl | (simp; done) | (simp [*]; done)), H', ⟨by have := HK1.out; have := HJ6.out; omega⟩, ⟨zR HO_5⟩, ⟨zR HO_6⟩, ⟨zR HO_7⟩, ⟨zB HB⟩⟩
                 · rw [if_neg c28] at H
                   have c28b0 : decide (((rd_T33 t139 x8_1).f1) < ((rd_T33 t142 x9_1).f1)) = false := decide_eq_false c28
                   clear c28
                   have H' := Aside0.mk H
                   clear H
                   obtain ⟨Ao31, co31, eo31⟩ := Kd.R_slice HO_5.out
                   subst eo31
                   have p145 : 0 ≤ (x8_1 : Int) := za
                   have q145 : x8_1 < (t139.length : Int) := za
                   obtain ⟨ad145, e145, hx145_0, hx145_1⟩ := at_T33 (Kd.R_reads' HO_5.out).2.2 x8_1 p145 q145
                   cases e145
                   replace p145 := eq_true p145
                   replace q145 := eq_true q145
                   obtain ⟨Ao32, co32, eo32⟩ := Kd.R_slice HO_6.out
                   subst eo32
                   have p146 : 0 ≤ (x9_1 : Int) := za
                   have q146 : x9_1 < (t142.length : Int) := za
                   obtain ⟨ad146, e146, hx146_0, hx146_1⟩ := at_T33 (Kd.R_reads' HO_6.out).2.2 x9_1 p146 q146
                   cases e146
                   replace p146 := eq_true p146
                   replace q146 := eq_true q146
                   have p147 : 0 ≤ (x8_1 : Int) := za
                   have q147 : x8_1 < (t139.length : Int) := za
                   obtain ⟨ad147, e147, hx147_0, hx147_1⟩ := at_T33 (Kd.R_reads' HO_5.out).2.2 x8_1 p147 q147
                   obtain rfl : ad145 = ad147 := (by injection e147)
                   replace p147 := eq_true p147
                   replace q147 := eq_true q147
                   have p148 : 0 ≤ (x9_1 : Int) := za
                   have q148 : x9_1 < (t142.length : Int) := za
                   obtain ⟨ad148, e148, hx148_0, hx148_1⟩ := at_T33 (Kd.R_reads' HO_6.out).2.2 x9_1 p148 q148
                   obtain rfl : ad146 = ad148 := (by injection e148)
                   replace p148 := eq_true p148
                   replace q148 := eq_true q148
                   have p154 : 0 ≤ (x8_1 : Int) := za
                   have q154 : x8_1 < (t139.length : Int) := za
                   obtain ⟨ad154, e154, hx154_0, hx154_1⟩ := at_T33 (Kd.R_reads' HO_5.out).2.2 x8_1 p154 q154
                   obtain rfl : ad145 = ad154 := (by injection e154)
                   replace p154 := eq_true p154
                   replace q154 := eq_true q154
                   have p155 : 0 ≤ (x9_1 : Int) := za
                   have q155 : x9_1 < (t142.length : Int) := za
                   obtain ⟨ad155, e155, hx155_0, hx155_1⟩ := at_T33 (Kd.R_reads' HO_6.out).2.2 x9_1 p155 q155
                   obtain rfl : ad146 = ad155 := (by injection e155)
                   replace p155 := eq_true p155
                   replace q155 := eq_true q155
                   go_wp2
                   repeat (go_quiet (fail); try go_wp2)
                   go_roundg kj6
                   case measure => have := HK1.out; have := HJ6.out; omega
                   case rel => exact ⟨(x7_1), (x8_1), (wrap64 (x9_1 + 1)), (by first | rfl | (simp; done) | (simp [*]; done)), (by first | rfl | (simp; done) | (simp [*]; done)), H', ⟨by have := HK1.out; have := HJ6.out; omega⟩, ⟨zR HO_5⟩, ⟨zR HO_6⟩, ⟨zR HO_7⟩, ⟨zB HB⟩⟩
             · rw [if_neg c16] at H
               exact absurd H (by simp)
           · rw [if_neg c15] at H
             exact absurd H (by simp)
         · rw [if_neg c14] at H
           exact absurd H (by simp)
       · rw [if_neg c13] at H
         exact absurd H (by simp)
     · replace c12 := Bool.eq_false_iff.mpr c12
       subst c12
       rw [if_neg zF] at H
       obtain rfl := Option.some.inj H
       go_wp2
       repeat (go_quiet (fail); try go_wp2)
       go_ret
       exact ⟨_, by first | rfl | (simp [errW_none, errW_some] <;> rfl) | (simp [*, errW_none, errW_some] <;> rfl), by (with_reducible repeat (first | apply Kd.R_alloc | apply Kd.R_drewN | apply Kd.R_drew)); exact Kd.R_mono HO_7.out (fun _ hk => trivial), by repeat (first | (with_reducible first | exact HB.out | apply below_alloc | apply pw_below_drewN | apply below_drew1) | exact HB.out)⟩
end Go.Proofs.YtbimdjciacnioaaDoor.Q
end

section
namespace Go.Proofs.YtbimdjciacnioaaDoor.Q
open Go.RowKit Go.Proofs.YtbimdjciacnioaaDoorW.PrintWords Go.Proofs.YtbimdjciacnioaaDoorW.PrintLast Go.Proofs.YtbimdjciacnioaaDoorW.PrintMore
attribute [local go_sem] max2_int min2_int max_two min_two max_three min_three max_four min_four
set_option linter.unusedVariables false
set_option linter.unusedSimpArgs false
def portset_All.f  : Option ((List (S33))) := some (([(⟨0, 65535⟩ : S33)] : List (S33)))
set_option maxHeartbeats 8000000 in
set_option maxRecDepth 100000 in
theorem portset_All.calls  (r : List (S33)) (w : World) (h : portset_All.f  = some r) :
 Calls Tryd.prog 20 #[] w fun e w' => ∃ v0_ : Value, e = .returned (v0_) ∧ Kd.R k33 33 w' w.heap.size (fun _ => True) v0_ r ∧ Below w.heap.size w w' := by
 have hu33 := Tryd.underlying33
 have HB := Aside0.mk (Below.refl w.heap.size w)
 unfold portset_All.f at h; have H := h
 clear h
 obtain ⟨y162, hy162⟩ : ∃ y_ : List (S33), y_ = (([(⟨0, 65535⟩ : S33)] : List (S33))) := ⟨_, rfl⟩
 rw [← hy162] at H; try dsimp only [Option.bind_some] at H
 have Ny162 := Aside0.mk hy162
 clear hy162
 obtain rfl := Option.some.inj H
 go_enter Tryd.func20, Tryd.ntmps20
 go_wp2_with (first | ((with_reducible refine gate_dst (N := 2) rfl ?_); refine Kd.R_lit k33 _ 33 ?hg (N := 2) ?hd (xs := ([(⟨0, 65535⟩ : S33)] : List (S33))) (inner := [.int .i64 0, .int .i64 65535]) (ok := fun _ => True) (okp := fun _ => True) ?hr ?hp (fun _ hk => hk) trivial (Below.refl _ _) (Nat.le_refl _) (by simp) ?_; (case hd => rfl); (case hg => rfl); (case hr => first | (go_simp; done) | (go_simp; rfl)); (case hp => exact (Reps.c2 (show Kd.M k33 _ _ _ (⟨0, 65535⟩ : S33) [.int .i64 0, .int .i64 65535] from (k33_mkM _ _ _ (⟨0, 65535⟩ : S33) )) (Reps.none _ _))); intro v163 w1 ho2 hb hg_ hnew_; clear hg_ hnew_; (first | rw [← Ny162.out] at ho2 | (simp only [Int.reduceToNat] at ho2; rw [← Ny162.out] at ho2)); have HO164 := Aside0.mk (Kd.R_lower ho2 (below_size (zB HB))); replace HB := Aside0.mk (below_step (zB HB) hb); clear hb ho2))
 go_ret
 exact ⟨_, by first | rfl | (simp [errW_none, errW_some] <;> rfl) | (simp [*, errW_none, errW_some] <;> rfl), by (with_reducible repeat (first | apply Kd.R_alloc | apply Kd.R_drewN | apply Kd.R_drew)); exact HO164.out, by repeat (first | (with_reducible first | exact HB.out | apply below_alloc | apply pw_below_drewN | apply below_drew1) | exact HB.out)⟩
end Go.Proofs.YtbimdjciacnioaaDoor.Q
end

section
set_option linter.unusedVariables false
set_option linter.unusedSimpArgs false
namespace Go.Proofs.YtbimdjciacnioaaDoor.Q
open Go.RowKit Go.Sort Go.Proofs.YtbimdjciacnioaaDoorW.PrintWords Go.Proofs.YtbimdjciacnioaaDoorW.PrintLast Go.Proofs.YtbimdjciacnioaaDoorW.PrintMore
def portset_given.f (l : List (S33)) : Option (List (S33)) := if l.length < 1000000 then some l else none
theorem given_some {l r : List (S33)} (h : portset_given.f l = some r) : l.length < 1000000 ∧ r = l := by
  unfold portset_given.f at h
  split at h
  · rename_i h1; injection h with h; exact ⟨h1, h.symm⟩
  · cases h
structure Given1 (w0 : World) (g n : Nat) (w : World) : Prop where
  base : w0.heap.size ≤ g
  row : ∃ cur, w.heap[g]? = some (.cells cur 33 (0, 0)) ∧ cur.size = n * 2
  bel : Below w0.heap.size w0 w
theorem Given1.drew {w0 w : World} {g n : Nat} (h : Given1 w0 g n w) : Given1 w0 g n w.drew := ⟨h.base, h.row, below_drew1 h.bel⟩
theorem given_make {w0 W : World} {l r : List (S33)} {ops : Array Oper} {rest : List Oper} {o : Oper} {a : Act} {Q : Exit → Act → World → Prop}
    (hg : o.guard = none) (hop : o.op = Op.makeSlice 23 (.tmp 10) (.tmp 10)) (hl : a.eval (.tmp 10) = .int .i64 l.length) (h : portset_given.f l = some r) (hB : Below w0.heap.size w0 W)
    (hK : ∀ g w', Aside0 (Given1 w0 g l.length w') → wpList Tryd.prog ops Q rest (a.put o.dst (.slice (some ⟨g, 0, none⟩) l.length l.length)) w') :
    wpList Tryd.prog ops Q (o :: rest) a W := by
  obtain ⟨hn, rfl⟩ := given_some h
  have h0 : (Tryd.prog.info? 33).isSome = true := by kernel_rfl
  obtain ⟨i, hi⟩ := Option.isSome_iff_exists.1 h0
  have h1 : ((Tryd.prog.info? 33).bind (·.zero)).isSome = true := by kernel_rfl
  have h2 : (Tryd.prog.info? 33).map (·.size) = some 2 := by kernel_rfl
  have h3 : (Tryd.prog.info? 33).map (·.bytes) = some 16 := by kernel_rfl
  rw [hi] at h1 h2 h3
  obtain ⟨z, hz⟩ := Option.isSome_iff_exists.1 h1
  simp only [Option.bind_some, Option.map_some, Option.some.injEq] at hz h2 h3
  refine wpList_make_full W hg _ _ 23 hop w0.heap.size 33 i z 2 Tryd.underlying23 hi hz h2 .i64 .i64 _ _ r.length hl hl rfl rfl (by rw [h3]; omega) (by simp [maxLen]; omega) hB.size ?_
  intro w' ho hgr
  refine hK _ w' ⟨⟨hB.size, ?_, ?_⟩⟩
  · rcases ho.2 with ⟨hx, _⟩ | ⟨g', cap', cur, hx, _, hh, _, _, hcs, _⟩
    · simp at hx
    · simp only [Value.slice.injEq, Option.some.injEq, Addr.mk.injEq, and_true, true_and] at hx
      obtain ⟨hx1, hx2⟩ := hx
      subst hx1
      subst hx2
      exact ⟨cur, hh, hcs⟩
  · exact pw_below_grown hB none hB.size hgr (by intro k hk; cases hk)
theorem run_copy_all {P : Program} (w : World) (dT sT ty elem : TypeId) (sz g n : Nat) (A : Option Addr) (sCap : Nat) (cur : Array Value) (cs : List Value)
    (hu : P.underlying dT = some (.slice elem)) (hs : (P.info? elem).map (·.size) = some sz)
    (hg : w.heap[g]? = some (.cells cur elem (0, 0))) (hn : cs.length = n * sz) (hcur : cur.size = n * sz)
    (hsrc : 0 < n → ∃ a, A = some a ∧ ∀ j v, cs[j]? = some v → w.cell? (a.add j) = some v) (h1 : ∀ v ∈ cs, v.oneCell' = true) :
    (Builtin.copy_ #[dT, sT] ty #[.slice (some ⟨g, 0, none⟩) n n, .slice A n sCap]).run P w = .ok (goInt n) (w.setRow g cs.toArray) := by
  have hst := run_storeCells_at P g 0 elem cs 0 cur w hg (by omega) h1
  have e0 : (cur.toList.take (0 + 0) ++ cs ++ cur.toList.drop (0 + 0 + cs.length)).toArray = cs.toArray := by
    rw [List.drop_of_length_le (by simp; omega)]
    simp
  rw [e0] at hst
  cases hq : P.info? elem with
  | none => simp [hq] at hs
  | some i =>
    have hi : i.size = sz := by simpa [hq] using hs
    cases A with
    | none =>
      have hn0 : n = 0 := by
        rcases Nat.eq_zero_or_pos n with h | h
        · exact h
        · obtain ⟨a, ha, _⟩ := hsrc h; cases ha
      subst hn0
      have hcs : cs = [] := List.eq_nil_of_length_eq_zero (by omega)
      subst hcs
      simp [Builtin.copy_, run_underlying hu, Builtin.lenOf, Builtin.firstCells, sizeOf, typeInfo, hq, storeCells] at hst ⊢
      exact hst
    | some a =>
      have hl : Sem.run P (loadCells a cs.length) w = Result.ok cs.toArray w := by
        apply run_loadCells_list
        rcases Nat.eq_zero_or_pos n with h | h
        · have hcs : cs = [] := List.eq_nil_of_length_eq_zero (by rw [hn, h]; simp)
          subst hcs
          intro j v hv
          simp at hv
        · obtain ⟨a', ha, hx⟩ := hsrc h
          cases ha
          exact hx
      rw [hn] at hl
      have hmin : Nat.min n n = n := Nat.min_self n
      simp [Builtin.copy_, run_underlying hu, Builtin.lenOf, Builtin.firstCells, sizeOf, typeInfo, hq, hi, hmin, hl, hst]
theorem given_copy {w0 W : World} {l r : List (S33)} {A0 : Option Addr} {c0 g : Nat} {ops : Array Oper} {rest : List Oper} {o : Oper} {a : Act} {Q : Exit → Act → World → Prop}
    (hg : o.guard = none) (hop : o.op = Op.call { callee := Callee.builtin Builtin.copy, args := #[.tmp 12, .tmp 13], argTypes := #[23, 23] })
    (h12 : a.eval (.tmp 12) = .slice (some ⟨g, 0, none⟩) l.length l.length) (h13 : a.eval (.tmp 13) = .slice A0 l.length c0) (h : portset_given.f l = some r)
    (hG : Given1 w0 g l.length W) (hR : Kd.C k33 w0 A0 l.length l)
    (hK : ∀ w', Kd.R k33 33 w' w0.heap.size (fun _ => True) (.slice (some ⟨g, 0, none⟩) l.length l.length) r → Below w0.heap.size w0 w' → wpList Tryd.prog ops Q rest (a.put o.dst (.int .i64 l.length)) w') :
    wpList Tryd.prog ops Q (o :: rest) a W := by
  obtain ⟨hn, rfl⟩ := given_some h
  obtain ⟨cur, hcur, hcs⟩ := hG.row
  haveI : Inhabited (S33) := ⟨z33⟩
  have hflat := Bridge.reps_flat (enc := fun x : S33 => [Value.int .i64 x.f0, .int .i64 x.f1]) (k := 2) (by decide) (fun _ => rfl) r
  generalize (flatK (fun x : S33 => [Value.int .i64 x.f0, .int .i64 x.f1]) 2 r.toArray).toList = cs at hflat
  have hone : ∀ v ∈ cs, v.oneCell' = true := by
    intro v hv
    obtain ⟨j, hj, rfl⟩ := List.getElem_of_mem hv
    have hj2 : j < r.length * 2 := by rw [← hflat.1]; exact hj
    have hc := Bridge.chunk_get 2 j (by decide) cs r.length hflat.1 hj2
    have hjl : j / 2 < r.length := Nat.div_lt_of_lt_mul (by rw [Nat.mul_comm]; exact hj2)
    have h3 := hflat.2 _ _ (List.getElem?_eq_getElem hjl)
    rw [h3, List.getElem?_eq_getElem hj] at hc
    have h4 := List.mem_of_getElem? hc.symm
    simp at h4
    rcases h4 with h4 | h4 <;> rw [h4] <;> rfl
  have hsrc : 0 < r.length → ∃ ad, A0 = some ad ∧ ∀ j v, cs[j]? = some v → W.cell? (ad.add j) = some v := by
    intro hp
    obtain ⟨ad, rfl, hx⟩ := hR.2.2 hp
    refine ⟨ad, rfl, fun j v hv => ?_⟩
    have hj : j < cs.length := (List.getElem?_eq_some_iff.1 hv).1
    have hj2 : j < r.length * 2 := by rw [← hflat.1]; exact hj
    have hc := Bridge.chunk_get 2 j (by decide) cs r.length hflat.1 hj2
    have hjl : j / 2 < r.length := Nat.div_lt_of_lt_mul (by rw [Nat.mul_comm]; exact hj2)
    have h3 := hflat.2 _ _ (List.getElem?_eq_getElem hjl)
    rw [h3] at hc
    obtain ⟨c, hcl, hk, hcell⟩ := hx _ _ (List.getElem?_eq_getElem hjl)
    have hk2 := k33_open hk
    rw [hk2] at hcell
    have h5 := hcell (j % 2) v (hc.symm.trans hv)
    rw [show j / 2 * k33.sz + j % 2 = j from by show j / 2 * 2 + j % 2 = j; omega] at h5
    exact (hG.bel.cell (World.block_lt_of_cell? _ _ h5)).trans h5
  have hrun := run_copy_all (P := Tryd.prog) W 23 23 o.type 33 2 g r.length A0 c0 cur cs Tryd.underlying23 (by kernel_rfl) hcur (by rw [hflat.1]) hcs hsrc hone
  have hb : Below w0.heap.size w0 (W.setRow g cs.toArray) := pw_below_grown hG.bel (some g) hG.bel.size ⟨rfl, rfl, rfl, by simp, fun k _ hk => setRow_other W g k _ (fun e => hk (by simp [e]))⟩ (by intro k hk; injection hk with hk; rw [← hk]; exact hG.base)
  have hr : Kd.R k33 33 (W.setRow g cs.toArray) w0.heap.size (fun _ => True) (.slice (some ⟨g, 0, none⟩) r.length r.length) r := by
    refine ⟨fun _ _ => trivial, cs, ⟨hflat.1, .inr ⟨g, r.length, cs.toArray, rfl, hG.base, setRow_heap W g cur _ _ _ hcur, Nat.le_refl _, by simp [maxLen]; omega, by show cs.toArray.size = r.length * 2; simp [hflat.1], by rw [List.take_of_length_le (by show cs.toArray.toList.length ≤ r.length * 2; simp [hflat.1])]⟩⟩, ?_⟩
    exact hflat.imp_ (fun p c hp => by rw [hp]; exact k33_mkM _ _ _ _)
  refine wpList_plain hg fun K hK' => ?_
  unfold Oper.wp
  simp [execOp, hop, resolve, invoke, builtin, h12, h13, hrun, Result.andThen]
  exact hK' _ _ (hK _ hr hb)
end Go.Proofs.YtbimdjciacnioaaDoor.Q
end

section
namespace Go.Proofs.YtbimdjciacnioaaDoor.Q
open Go.RowKit Go.Proofs.YtbimdjciacnioaaDoorW.PrintWords Go.Proofs.YtbimdjciacnioaaDoorW.PrintLast Go.Proofs.YtbimdjciacnioaaDoorW.PrintMore
attribute [local go_sem] max2_int min2_int max_two min_two max_three min_three max_four min_four
set_option linter.unusedVariables false
set_option linter.unusedSimpArgs false
attribute [local go_sem high] eqA33
def portset_Format.l0 : Nat → List ByteArray → List (S33) → Int → Int → Option (ByteArray)
  | 0, _, _, _, _ => none
  | k + 1, x5, x30, x31, x32 => if x32 < x31 then (if 0 ≤ x32 then (if x32 < (x30.length : Int) then ((strconv_Itoa.f ((rd_T33 x30 x32).f0)).bind fun t229 => (if ((rd_T33 x30 x32).f0) < ((rd_T33 x30 x32).f1) then ((strconv_Itoa.f ((rd_T33 x30 x32).f1)).bind fun t230 => (if 1 + t230.size ≤ 9223372036854775807 then (if t229.size + ((⟨#[58]⟩ : ByteArray) ++ t230).size ≤ 9223372036854775807 then (if x5.length < 8796093022208 then (portset_Format.l0 k (x5 ++ [t229 ++ ((⟨#[58]⟩ : ByteArray) ++ t230)]) x30 x31 (wrap64 (x32 + 1))) else (none)) else (none)) else (none))) else (if x5.length < 8796093022208 then (portset_Format.l0 k (x5 ++ [t229]) x30 x31 (wrap64 (x32 + 1))) else (none)))) else (none)) else (none)) else ((strings_Join.f x5 (⟨#[44]⟩ : ByteArray)).bind fun t226 => (some t226))
def portset_Format.f (k : Nat) (l0 : List (S33)) : Option (ByteArray) := (portset_given.f l0).bind fun t211 => ((portset_All.f).bind fun t214 => ((interval_Intersect.f k t214 t211).bind fun t217 => (if (t217.length : Int) = 0 then ((strconv_Itoa.f 65535).bind fun t220 => (if 3 + t220.size ≤ 9223372036854775807 then (some ((⟨#[33, 48, 58]⟩ : ByteArray) ++ t220)) else (none))) else (if 0 < (t217.length : Int) then ((portset_All.f).bind fun t222 => (if 0 < (t222.length : Int) then (if (((rd_T33 t217 0).f0) == ((rd_T33 t222 0).f0) && (((rd_T33 t217 0).f1) == ((rd_T33 t222 0).f1))) = true then (some (⟨#[97, 110, 121]⟩ : ByteArray)) else (portset_Format.l0 k ([] : List ByteArray) t217 (t217.length : Int) 0)) else (none))) else (none)))))
theorem portset_Format.mono_l : ∀ k, (∀ y0 y1 y2 y3, LeO (portset_Format.l0 k y0 y1 y2 y3) (portset_Format.l0 (k + 1) y0 y1 y2 y3))
  | 0 => fun _ _ _ _ r h => by simp [portset_Format.l0] at h
  | k + 1 => by
    have ih0 := portset_Format.mono_l k
    · intro y0 y1 y2 y3
      unfold portset_Format.l0
      repeat' first
      | (with_reducible exact ih0 _ _ _ _)
      | (with_reducible exact interval_Intersect.mono _ _ _)
      | (with_reducible exact LeO.refl _)
      | (with_reducible exact LeO.none _)
      | (with_reducible refine LeO.ite ?_ ?_)
      | (with_reducible refine LeO.bind ?_ (fun _ => ?_))
      | exact ih0 _ _ _ _
      | exact interval_Intersect.mono _ _ _
      | exact LeO.none _
      | refine LeO.ite ?_ ?_
      | refine LeO.bind ?_ (fun _ => ?_)
theorem portset_Format.mono : ∀ a0 k, LeO (portset_Format.f k a0) (portset_Format.f (k + 1) a0) := by
  intro a0 k
  have ih0 := portset_Format.mono_l k
  unfold portset_Format.f
  repeat' first
      | (with_reducible exact ih0 _ _ _ _)
      | (with_reducible exact interval_Intersect.mono _ _ _)
      | (with_reducible exact LeO.refl _)
      | (with_reducible exact LeO.none _)
      | (with_reducible refine LeO.ite ?_ ?_)
      | (with_reducible refine LeO.bind ?_ (fun _ => ?_))
      | exact ih0 _ _ _ _
      | exact interval_Intersect.mono _ _ _
      | exact LeO.none _
      | refine LeO.ite ?_ ?_
      | refine LeO.bind ?_ (fun _ => ?_)
set_option maxHeartbeats 8000000 in
set_option maxRecDepth 100000 in
theorem portset_Format.calls (k : Nat) (A0 : Option Addr) (c0 : Nat) (l0 : List (S33)) (r : ByteArray) (w : World) (hr0 : Kd.C k33 w A0 l0.length l0) (hc0 : l0.length ≤ c0) (h : portset_Format.f k l0 = some r) (hW_ : WOK w) :
 Calls Tryd.prog 14 #[.slice A0 l0.length c0] w fun e w' => e = .returned (.string r) ∧ Below w.heap.size w w' := by
 have hu33 := Tryd.underlying33
 have HR0 := Aside0.mk hr0
 have HC0 := Aside0.mk hc0
 clear hr0 hc0
 have HB := Aside0.mk (Below.refl w.heap.size w)
 unfold portset_Format.f at h; have H := h
 clear h
 replace H := Option.bind_eq_some_iff.mp H
 obtain ⟨t211, A20, H⟩ := H
 try dsimp only at H
 have A2 := Aside0.mk A20
 clear A20
 replace H := Option.bind_eq_some_iff.mp H
 obtain ⟨t214, A30, H⟩ := H
 try dsimp only at H
 have A3 := Aside0.mk A30
 clear A30
 replace H := Option.bind_eq_some_iff.mp H
 obtain ⟨t217, A40, H⟩ := H
 try dsimp only at H
 have A4 := Aside0.mk A40
 clear A40
 by_cases c5 : (t217.length : Int) = 0
 · rw [if_pos c5] at H
   have c5b0 : ((t217.length : Int) == 0) = true := beq_iff_eq.mpr c5
   have c5b1 : ((t217.length : Int) != 0) = false := bne_eq_false_iff_eq.mpr c5
   clear c5
   replace H := Option.bind_eq_some_iff.mp H
   obtain ⟨t220, A60, H⟩ := H
   try dsimp only at H
   have A6 := Aside0.mk A60
   clear A60
   by_cases c7 : 3 + t220.size ≤ 9223372036854775807
   · rw [if_pos c7] at H
     have c7b0 := eq_true c7
     have c7b1 : decide (3 + t220.size ≤ 9223372036854775807) = true := decide_eq_true c7
     try have c7b2 : (9223372036854775807 < 3 + t220.size) = False := eq_false (Nat.not_lt.2 c7)
     obtain rfl := Option.some.inj H
     go_enter Tryd.func14, Tryd.ntmps14
     go_wp2_with (first | ((with_reducible refine gate_ (op := Op.makeSlice 23 (.tmp 10) (.tmp 10)) rfl ?_); refine given_make (w0 := w) (l := l0) rfl rfl rfl A2.out (zB HB) ?_; intro g_ wm_ HG_) | ((with_reducible refine gate_builtin (b := .copy) (xs := #[.tmp 12, .tmp 13]) rfl ?_); refine given_copy (w0 := w) (l := l0) (A0 := A0) (c0 := c0) rfl rfl rfl rfl A2.out (by first | exact HG_.out | exact HG_.out.drew) HR0.out ?_; intro w8 ho0 hb; generalize (Value.slice (some ⟨g_, 0, none⟩) l0.length l0.length) = v212 at ho0 ⊢; have HO213 := Aside0.mk ho0; clear HB HG_; have HB := Aside0.mk hb; clear ho0 hb) | ((with_reducible refine gate_callee (f := 20) rfl ?_); refine goesL_ (some 15) rfl rfl Tryd.func20 (by kernel_rfl) rfl #[] rfl (by (try simp only [List.map_toArray, List.map_cons, List.map_nil]); first | done | rfl | (simp only [List.length_drop, List.length_take]; rfl)) ?_; (with_reducible refine (portset_All.calls  t214 _ A3.out).mono ?_); rintro e w9 ⟨v215, rfl, ho0, hb⟩; refine ⟨_, rfl, ?_⟩; have HO216 := Aside0.mk (Kd.R_lower (Kd.R_new' ho0 (Kd.R_lt (zR HO213))) (below_size (zB HB))); replace HO213 := Aside0.mk (Kd.R_elder' (zR HO213) (Kd.R_base ho0) hb); replace HB := Aside0.mk (below_step (zB HB) hb); (try clear hb); (try clear ho0); obtain ⟨Ao10, co10, eo10⟩ := Kd.R_slice HO216.out; subst eo10; obtain ⟨Ao11, co11, eo11⟩ := Kd.R_slice HO213.out; subst eo11) | ((with_reducible refine gate_callee (f := 21) rfl ?_); refine goesL_ (some 17) rfl rfl Tryd.func21 (by kernel_rfl) rfl #[.slice Ao10 t214.length co10, .slice Ao11 t211.length co11] rfl (by (try simp only [List.map_toArray, List.map_cons, List.map_nil]); first | done | rfl | (simp only [List.length_drop, List.length_take]; rfl)) ?_; (with_reducible refine (interval_Intersect.calls k _ _ t214 _ _ t211 t217 _ ?side1 ?side2 ?side3 ?side4 A4.out).mono ?_); (case side1 => repeat (first | exact (Kd.R_reads' HO216.out).2.2 | (with_reducible refine Kd.C_alloc ?_ _) | (with_reducible refine Kd.C_drewN ?_ _) | (with_reducible refine Kd.C_drew ?_))); (case side2 => exact (Kd.R_reads' HO216.out).2.1); (case side3 => repeat (first | exact (Kd.R_reads' HO213.out).2.2 | (with_reducible refine Kd.C_alloc ?_ _) | (with_reducible refine Kd.C_drewN ?_ _) | (with_reducible refine Kd.C_drew ?_))); (case side4 => exact (Kd.R_reads' HO213.out).2.1); rintro e w12 ⟨v218, rfl, ho0, hb⟩; refine ⟨_, rfl, ?_⟩; have HO219 := Aside0.mk (Kd.R_lower (Kd.R_new' (Kd.R_new' ho0 (Kd.R_lt (zR HO213))) (Kd.R_lt (zR HO216))) (below_size (zB HB))); replace HO213 := Aside0.mk (Kd.R_elder' (zR HO213) (Kd.R_base ho0) hb); replace HO216 := Aside0.mk (Kd.R_elder' (zR HO216) (Kd.R_base ho0) hb); replace HB := Aside0.mk (below_step (zB HB) hb); (try clear hb); (try clear ho0); obtain ⟨Ao13, co13, eo13⟩ := Kd.R_slice HO219.out; subst eo13) | ((with_reducible refine gate_callee (f := 31) rfl ?_); refine goesL_ (some 21) rfl rfl Tryd.func31 (by kernel_rfl) rfl #[.int .i64 65535] rfl (by (try simp only [List.map_toArray, List.map_cons, List.map_nil]); first | done | rfl | (simp only [List.length_drop, List.length_take]; rfl)) ?_; (with_reducible refine (strconv_Itoa.calls 65535 t220 _ A6.out (WOK.below hW_ (zB HB))).mono ?_); rintro e w14 ⟨rfl, hb⟩; refine ⟨_, rfl, ?_⟩; replace HO213 := Aside0.mk (Kd.R_below (zR HO213) hb); replace HO216 := Aside0.mk (Kd.R_below (zR HO216) hb); replace HO219 := Aside0.mk (Kd.R_below (zR HO219) hb); replace HB := Aside0.mk (below_step (zB HB) hb); (try clear hb)))
     go_ret
     exact ⟨by first | rfl | (simp [errW_none, errW_some] <;> rfl) | (simp [*, errW_none, errW_some] <;> rfl), by repeat (first | (with_reducible first | exact HB.out | apply below_alloc | apply pw_below_drewN | apply below_drew1) | exact HB.out)⟩
   · rw [if_neg c7] at H
     exact absurd H (by simp)
 · rw [if_neg c5] at H
   have c5b0 : ((t217.length : Int) == 0) = false := beq_eq_false_iff_ne.mpr c5
   have c5b1 : ((t217.length : Int) != 0) = true := bne_iff_ne.mpr c5
   have c5b2 : ¬ (t217 = []) := fun h_ => c5 (by rw [h_]; rfl)
   by_cases c15 : 0 < (t217.length : Int)
   · rw [if_pos c15] at H
     have c15b0 : decide (0 < (t217.length : Int)) = true := decide_eq_true c15
     have c15b1 : decide (0 < t217.length) = true := decide_eq_true (by omega)
     clear c15
     replace H := Option.bind_eq_some_iff.mp H
     obtain ⟨t222, A160, H⟩ := H
     try dsimp only at H
     have A16 := Aside0.mk A160
     clear A160
     by_cases c17 : 0 < (t222.length : Int)
     · rw [if_pos c17] at H
       have c17b0 : decide (0 < (t222.length : Int)) = true := decide_eq_true c17
       have c17b1 : decide (0 < t222.length) = true := decide_eq_true (by omega)
       clear c17
       by_cases c18 : (((rd_T33 t217 0).f0) == ((rd_T33 t222 0).f0) && (((rd_T33 t217 0).f1) == ((rd_T33 t222 0).f1))) = true
       · rw [if_pos c18] at H
         have c18b0 : (((rd_T33 t217 0).f0) == ((rd_T33 t222 0).f0) && (((rd_T33 t217 0).f1) == ((rd_T33 t222 0).f1))) = true := c18
         (try (have c18b1 : decide (((rd_T33 t217 0).f0) = ((rd_T33 t222 0).f0) && (((rd_T33 t217 0).f1) == ((rd_T33 t222 0).f1))) = true := by first | (simpa using c18) | exact decide_eq_true (Decidable.not_not.1 (fun hn => c18 (bne_iff_ne.2 hn))) | exact beq_iff_eq.2 (Decidable.not_not.1 (fun hn => c18 (bne_iff_ne.2 hn))) | exact decide_eq_false (bne_iff_ne.1 c18) | exact beq_eq_false_iff_ne.2 (bne_iff_ne.1 c18) | exact bne_iff_ne.1 c18))
         (try (have c18b2 : (((rd_T33 t217 0).f0) == ((rd_T33 t222 0).f0) && (((rd_T33 t217 0).f1) == ((rd_T33 t222 0).f1))) = true := by first | (simpa using c18) | exact decide_eq_true (Decidable.not_not.1 (fun hn => c18 (bne_iff_ne.2 hn))) | exact beq_iff_eq.2 (Decidable.not_not.1 (fun hn => c18 (bne_iff_ne.2 hn))) | exact decide_eq_false (bne_iff_ne.1 c18) | exact beq_eq_false_iff_ne.2 (bne_iff_ne.1 c18) | exact bne_iff_ne.1 c18))
         clear c18
         obtain rfl := Option.some.inj H
         go_enter Tryd.func14, Tryd.ntmps14
         try go_wp2_with (first | ((with_reducible refine gate_ (op := Op.makeSlice 23 (.tmp 10) (.tmp 10)) rfl ?_); refine given_make (w0 := w) (l := l0) rfl rfl rfl A2.out (zB HB) ?_; intro g_ wm_ HG_) | ((with_reducible refine gate_builtin (b := .copy) (xs := #[.tmp 12, .tmp 13]) rfl ?_); refine given_copy (w0 := w) (l := l0) (A0 := A0) (c0 := c0) rfl rfl rfl rfl A2.out (by first | exact HG_.out | exact HG_.out.drew) HR0.out ?_; intro w19 ho0 hb; generalize (Value.slice (some ⟨g_, 0, none⟩) l0.length l0.length) = v212 at ho0 ⊢; have HO213 := Aside0.mk ho0; clear HB HG_; have HB := Aside0.mk hb; clear ho0 hb) | ((with_reducible refine gate_callee (f := 20) rfl ?_); refine goesL_ (some 15) rfl rfl Tryd.func20 (by kernel_rfl) rfl #[] rfl (by (try simp only [List.map_toArray, List.map_cons, List.map_nil]); first | done | rfl | (simp only [List.length_drop, List.length_take]; rfl)) ?_; (with_reducible refine (portset_All.calls  t214 _ A3.out).mono ?_); rintro e w20 ⟨v215, rfl, ho0, hb⟩; refine ⟨_, rfl, ?_⟩; have HO216 := Aside0.mk (Kd.R_lower (Kd.R_new' ho0 (Kd.R_lt (zR HO213))) (below_size (zB HB))); replace HO213 := Aside0.mk (Kd.R_elder' (zR HO213) (Kd.R_base ho0) hb); replace HB := Aside0.mk (below_step (zB HB) hb); (try clear hb); (try clear ho0); obtain ⟨Ao21, co21, eo21⟩ := Kd.R_slice HO216.out; subst eo21; obtain ⟨Ao22, co22, eo22⟩ := Kd.R_slice HO213.out; subst eo22) | ((with_reducible refine gate_callee (f := 21) rfl ?_); refine goesL_ (some 17) rfl rfl Tryd.func21 (by kernel_rfl) rfl #[.slice Ao21 t214.length co21, .slice Ao22 t211.length co22] rfl (by (try simp only [List.map_toArray, List.map_cons, List.map_nil]); first | done | rfl | (simp only [List.length_drop, List.length_take]; rfl)) ?_; (with_reducible refine (interval_Intersect.calls k _ _ t214 _ _ t211 t217 _ ?side1 ?side2 ?side3 ?side4 A4.out).mono ?_); (case side1 => repeat (first | exact (Kd.R_reads' HO216.out).2.2 | (with_reducible refine Kd.C_alloc ?_ _) | (with_reducible refine Kd.C_drewN ?_ _) | (with_reducible refine Kd.C_drew ?_))); (case side2 => exact (Kd.R_reads' HO216.out).2.1); (case side3 => repeat (first | exact (Kd.R_reads' HO213.out).2.2 | (with_reducible refine Kd.C_alloc ?_ _) | (with_reducible refine Kd.C_drewN ?_ _) | (with_reducible refine Kd.C_drew ?_))); (case side4 => exact (Kd.R_reads' HO213.out).2.1); rintro e w23 ⟨v218, rfl, ho0, hb⟩; refine ⟨_, rfl, ?_⟩; have HO219 := Aside0.mk (Kd.R_lower (Kd.R_new' (Kd.R_new' ho0 (Kd.R_lt (zR HO213))) (Kd.R_lt (zR HO216))) (below_size (zB HB))); replace HO213 := Aside0.mk (Kd.R_elder' (zR HO213) (Kd.R_base ho0) hb); replace HO216 := Aside0.mk (Kd.R_elder' (zR HO216) (Kd.R_base ho0) hb); replace HB := Aside0.mk (below_step (zB HB) hb); (try clear hb); (try clear ho0); obtain ⟨Ao24, co24, eo24⟩ := Kd.R_slice HO219.out; subst eo24))
         replace HO213 := Aside0.mk (Kd.R_drew HO213.out)
         replace HO216 := Aside0.mk (Kd.R_drew HO216.out)
         replace HO219 := Aside0.mk (Kd.R_drew HO219.out)
         replace HB := Aside0.mk (below_drew1 HB.out)
         have p221 : 0 ≤ (0 : Int) := (by omega)
         have q221 : 0 < (t217.length : Int) := za
         obtain ⟨ad221, e221, hx221_0, hx221_1⟩ := at_T33 (Kd.R_reads' HO219.out).2.2 0 p221 q221
         cases e221
         have qi221 : (0 < t217.length) = True := eq_true (by omega)
         (try rw [show ((0 : Int)).toNat = 0 from rfl] at hx221_0)
         (try rw [show 0 * 2 = 0 from rfl] at hx221_0)
         (try rw [Addr.add_zero'] at hx221_0)
         (try rw [show ((0 : Int)).toNat = 0 from rfl] at hx221_1)
         (try rw [show 0 * 2 = 0 from rfl] at hx221_1)
         (try rw [Addr.add_zero'] at hx221_1)
         replace p221 := eq_true p221
         replace q221 := eq_true q221
         refine start_ (n := 7) (S := fun w' => w'.cell? ad221 = some (.int .i64 ((rd_T33 t217 0).f0)) ∧ w'.cell? ⟨ad221.block, ad221.off + 1, none⟩ = some (.int .i64 ((rd_T33 t217 0).f1))) (ds := []) #[false, false, false, false, false, false, false] (by kernel_rfl) rfl rfl ⟨hx221_0, hx221_1⟩ (fun hHeld => ?_)
         generalize w23.drew = w25 at HO213 HO216 HO219 HB hx221_0 hx221_1 hHeld ⊢
         refine zp0 0 23 ?_; refine zp0 1 24 ?_; refine zt0 2 25 hHeld ?_; refine zo0 3 26 (fun K hK => ?_)
         refine zg Tryd.func20 #[] ?_
         with_reducible refine (portset_All.calls  t222 _ A16.out).mono ?_
         rintro e w26 ⟨v223, rfl, ho0, hb⟩
         have HS0_ := (hb.cell (World.block_lt_of_cell? _ _ (hHeld.1))).trans (hHeld.1)
         have HS1_ := (hb.cell (World.block_lt_of_cell? _ _ (hHeld.2))).trans (hHeld.2)
         refine ⟨_, rfl, ?_⟩
         have HO224 := Aside0.mk (Kd.R_lower (Kd.R_new' (Kd.R_new' (Kd.R_new' ho0 (Kd.R_lt (zR HO213))) (Kd.R_lt (zR HO216))) (Kd.R_lt (zR HO219))) (below_size (zB HB)))
         replace HO213 := Aside0.mk (Kd.R_elder' (zR HO213) (Kd.R_base ho0) hb)
         replace HO216 := Aside0.mk (Kd.R_elder' (zR HO216) (Kd.R_base ho0) hb)
         replace HO219 := Aside0.mk (Kd.R_elder' (zR HO219) (Kd.R_base ho0) hb)
         replace HB := Aside0.mk (below_step (zB HB) hb)
         (try clear hb)
         (try clear ho0)
         obtain ⟨Ao27, co27, eo27⟩ := Kd.R_slice HO224.out
         (first | subst eo27 | (injection eo27 with f1_ f2_ f3_; have f4_ := f1_.symm; have f5_ := f3_.symm; clear f1_ f2_ f3_; subst f4_; subst f5_))
         have p225 : 0 ≤ (0 : Int) := (by omega)
         have q225 : 0 < (t222.length : Int) := za
         obtain ⟨ad225, e225, hx225_0, hx225_1⟩ := at_T33 (Kd.R_reads' HO224.out).2.2 0 p225 q225
         cases e225
         have qi225 : (0 < t222.length) = True := eq_true (by omega)
         (try rw [show ((0 : Int)).toNat = 0 from rfl] at hx225_0)
         (try rw [show 0 * 2 = 0 from rfl] at hx225_0)
         (try rw [Addr.add_zero'] at hx225_0)
         (try rw [show ((0 : Int)).toNat = 0 from rfl] at hx225_1)
         (try rw [show 0 * 2 = 0 from rfl] at hx225_1)
         (try rw [Addr.add_zero'] at hx225_1)
         replace p225 := eq_true p225
         replace q225 := eq_true q225
         refine hK.out _ _ ⟨HS0_, HS1_⟩ (fun hHeld => ?_)
         clear hK K
         refine zn 26 ?_; refine zp0 4 27 ?_; refine zo0 5 28 (fun K hK => ?_)
         refine value_ (w1 := w26) (v := .agg #[.int .i64 (rd_T33 t222 0).f0, .int .i64 (rd_T33 t222 0).f1]) (by rfl) rfl ?_ ?_
         · go_simp
           try rfl
         refine hK.out _ _ hHeld (fun hHeld => ?_)
         clear hK K
         refine zn 28 ?_; refine zp0 6 29 ?_; refine zd0 ?_
         try go_wp2
         go_ret
         exact ⟨by first | rfl | (simp [errW_none, errW_some] <;> rfl) | (simp [*, errW_none, errW_some] <;> rfl), by repeat (first | (with_reducible first | exact HB.out | apply below_alloc | apply pw_below_drewN | apply below_drew1) | exact HB.out)⟩
       · rw [if_neg c18] at H
         have c18b0 : (((rd_T33 t217 0).f0) == ((rd_T33 t222 0).f0) && (((rd_T33 t217 0).f1) == ((rd_T33 t222 0).f1))) = false := by simpa using c18
         (try (have c18b1 : decide (((rd_T33 t217 0).f0) = ((rd_T33 t222 0).f0) && (((rd_T33 t217 0).f1) == ((rd_T33 t222 0).f1))) = false := by first | (simpa using c18) | exact decide_eq_true (Decidable.not_not.1 (fun hn => c18 (bne_iff_ne.2 hn))) | exact beq_iff_eq.2 (Decidable.not_not.1 (fun hn => c18 (bne_iff_ne.2 hn))) | exact decide_eq_false (bne_iff_ne.1 c18) | exact beq_eq_false_iff_ne.2 (bne_iff_ne.1 c18) | exact bne_iff_ne.1 c18))
         (try (have c18b2 : (((rd_T33 t217 0).f0) == ((rd_T33 t222 0).f0) && (((rd_T33 t217 0).f1) == ((rd_T33 t222 0).f1))) = false := by first | (simpa using c18) | exact decide_eq_true (Decidable.not_not.1 (fun hn => c18 (bne_iff_ne.2 hn))) | exact beq_iff_eq.2 (Decidable.not_not.1 (fun hn => c18 (bne_iff_ne.2 hn))) | exact decide_eq_false (bne_iff_ne.1 c18) | exact beq_eq_false_iff_ne.2 (bne_iff_ne.1 c18) | exact bne_iff_ne.1 c18))
         (try (have c18b3 : ¬ (((rd_T33 t217 0).f0) = ((rd_T33 t222 0).f0) && (((rd_T33 t217 0).f1) == ((rd_T33 t222 0).f1))) := by first | (simpa using c18) | exact decide_eq_true (Decidable.not_not.1 (fun hn => c18 (bne_iff_ne.2 hn))) | exact beq_iff_eq.2 (Decidable.not_not.1 (fun hn => c18 (bne_iff_ne.2 hn))) | exact decide_eq_false (bne_iff_ne.1 c18) | exact beq_eq_false_iff_ne.2 (bne_iff_ne.1 c18) | exact bne_iff_ne.1 c18))
         clear c18
         have H' := Aside0.mk H
         clear H
         go_enter Tryd.func14, Tryd.ntmps14
         try go_wp2_with (first | ((with_reducible refine gate_ (op := Op.makeSlice 23 (.tmp 10) (.tmp 10)) rfl ?_); refine given_make (w0 := w) (l := l0) rfl rfl rfl A2.out (zB HB) ?_; intro g_ wm_ HG_) | ((with_reducible refine gate_builtin (b := .copy) (xs := #[.tmp 12, .tmp 13]) rfl ?_); refine given_copy (w0 := w) (l := l0) (A0 := A0) (c0 := c0) rfl rfl rfl rfl A2.out (by first | exact HG_.out | exact HG_.out.drew) HR0.out ?_; intro w28 ho0 hb; generalize (Value.slice (some ⟨g_, 0, none⟩) l0.length l0.length) = v212 at ho0 ⊢; have HO213 := Aside0.mk ho0; clear HB HG_; have HB := Aside0.mk hb; clear ho0 hb) | ((with_reducible refine gate_callee (f := 20) rfl ?_); refine goesL_ (some 15) rfl rfl Tryd.func20 (by kernel_rfl) rfl #[] rfl (by (try simp only [List.map_toArray, List.map_cons, List.map_nil]); first | done | rfl | (simp only [List.length_drop, List.length_take]; rfl)) ?_; (with_reducible refine (portset_All.calls  t214 _ A3.out).mono ?_); rintro e w29 ⟨v215, rfl, ho0, hb⟩; refine ⟨_, rfl, ?_⟩; have HO216 := Aside0.mk (Kd.R_lower (Kd.R_new' ho0 (Kd.R_lt (zR HO213))) (below_size (zB HB))); replace HO213 := Aside0.mk (Kd.R_elder' (zR HO213) (Kd.R_base ho0) hb); replace HB := Aside0.mk (below_step (zB HB) hb); (try clear hb); (try clear ho0); obtain ⟨Ao30, co30, eo30⟩ := Kd.R_slice HO216.out; subst eo30; obtain ⟨Ao31, co31, eo31⟩ := Kd.R_slice HO213.out; subst eo31) | ((with_reducible refine gate_callee (f := 21) rfl ?_); refine goesL_ (some 17) rfl rfl Tryd.func21 (by kernel_rfl) rfl #[.slice Ao30 t214.length co30, .slice Ao31 t211.length co31] rfl (by (try simp only [List.map_toArray, List.map_cons, List.map_nil]); first | done | rfl | (simp only [List.length_drop, List.length_take]; rfl)) ?_; (with_reducible refine (interval_Intersect.calls k _ _ t214 _ _ t211 t217 _ ?side1 ?side2 ?side3 ?side4 A4.out).mono ?_); (case side1 => repeat (first | exact (Kd.R_reads' HO216.out).2.2 | (with_reducible refine Kd.C_alloc ?_ _) | (with_reducible refine Kd.C_drewN ?_ _) | (with_reducible refine Kd.C_drew ?_))); (case side2 => exact (Kd.R_reads' HO216.out).2.1); (case side3 => repeat (first | exact (Kd.R_reads' HO213.out).2.2 | (with_reducible refine Kd.C_alloc ?_ _) | (with_reducible refine Kd.C_drewN ?_ _) | (with_reducible refine Kd.C_drew ?_))); (case side4 => exact (Kd.R_reads' HO213.out).2.1); rintro e w32 ⟨v218, rfl, ho0, hb⟩; refine ⟨_, rfl, ?_⟩; have HO219 := Aside0.mk (Kd.R_lower (Kd.R_new' (Kd.R_new' ho0 (Kd.R_lt (zR HO213))) (Kd.R_lt (zR HO216))) (below_size (zB HB))); replace HO213 := Aside0.mk (Kd.R_elder' (zR HO213) (Kd.R_base ho0) hb); replace HO216 := Aside0.mk (Kd.R_elder' (zR HO216) (Kd.R_base ho0) hb); replace HB := Aside0.mk (below_step (zB HB) hb); (try clear hb); (try clear ho0); obtain ⟨Ao33, co33, eo33⟩ := Kd.R_slice HO219.out; subst eo33))
         replace HO213 := Aside0.mk (Kd.R_drew HO213.out)
         replace HO216 := Aside0.mk (Kd.R_drew HO216.out)
         replace HO219 := Aside0.mk (Kd.R_drew HO219.out)
         replace HB := Aside0.mk (below_drew1 HB.out)
         have p221 : 0 ≤ (0 : Int) := (by omega)
         have q221 : 0 < (t217.length : Int) := za
         obtain ⟨ad221, e221, hx221_0, hx221_1⟩ := at_T33 (Kd.R_reads' HO219.out).2.2 0 p221 q221
         cases e221
         have qi221 : (0 < t217.length) = True := eq_true (by omega)
         (try rw [show ((0 : Int)).toNat = 0 from rfl] at hx221_0)
         (try rw [show 0 * 2 = 0 from rfl] at hx221_0)
         (try rw [Addr.add_zero'] at hx221_0)
         (try rw [show ((0 : Int)).toNat = 0 from rfl] at hx221_1)
         (try rw [show 0 * 2 = 0 from rfl] at hx221_1)
         (try rw [Addr.add_zero'] at hx221_1)
         replace p221 := eq_true p221
         replace q221 := eq_true q221
         refine start_ (n := 7) (S := fun w' => w'.cell? ad221 = some (.int .i64 ((rd_T33 t217 0).f0)) ∧ w'.cell? ⟨ad221.block, ad221.off + 1, none⟩ = some (.int .i64 ((rd_T33 t217 0).f1))) (ds := []) #[false, false, false, false, false, false, false] (by kernel_rfl) rfl rfl ⟨hx221_0, hx221_1⟩ (fun hHeld => ?_)
         generalize w32.drew = w34 at HO213 HO216 HO219 HB hx221_0 hx221_1 hHeld ⊢
         refine zp0 0 23 ?_; refine zp0 1 24 ?_; refine zt0 2 25 hHeld ?_; refine zo0 3 26 (fun K hK => ?_)
         refine zg Tryd.func20 #[] ?_
         with_reducible refine (portset_All.calls  t222 _ A16.out).mono ?_
         rintro e w35 ⟨v223, rfl, ho0, hb⟩
         have HS0_ := (hb.cell (World.block_lt_of_cell? _ _ (hHeld.1))).trans (hHeld.1)
         have HS1_ := (hb.cell (World.block_lt_of_cell? _ _ (hHeld.2))).trans (hHeld.2)
         refine ⟨_, rfl, ?_⟩
         have HO224 := Aside0.mk (Kd.R_lower (Kd.R_new' (Kd.R_new' (Kd.R_new' ho0 (Kd.R_lt (zR HO213))) (Kd.R_lt (zR HO216))) (Kd.R_lt (zR HO219))) (below_size (zB HB)))
         replace HO213 := Aside0.mk (Kd.R_elder' (zR HO213) (Kd.R_base ho0) hb)
         replace HO216 := Aside0.mk (Kd.R_elder' (zR HO216) (Kd.R_base ho0) hb)
         replace HO219 := Aside0.mk (Kd.R_elder' (zR HO219) (Kd.R_base ho0) hb)
         replace HB := Aside0.mk (below_step (zB HB) hb)
         (try clear hb)
         (try clear ho0)
         obtain ⟨Ao36, co36, eo36⟩ := Kd.R_slice HO224.out
         (first | subst eo36 | (injection eo36 with f1_ f2_ f3_; have f4_ := f1_.symm; have f5_ := f3_.symm; clear f1_ f2_ f3_; subst f4_; subst f5_))
         have p225 : 0 ≤ (0 : Int) := (by omega)
         have q225 : 0 < (t222.length : Int) := za
         obtain ⟨ad225, e225, hx225_0, hx225_1⟩ := at_T33 (Kd.R_reads' HO224.out).2.2 0 p225 q225
         cases e225
         have qi225 : (0 < t222.length) = True := eq_true (by omega)
         (try rw [show ((0 : Int)).toNat = 0 from rfl] at hx225_0)
         (try rw [show 0 * 2 = 0 from rfl] at hx225_0)
         (try rw [Addr.add_zero'] at hx225_0)
         (try rw [show ((0 : Int)).toNat = 0 from rfl] at hx225_1)
         (try rw [show 0 * 2 = 0 from rfl] at hx225_1)
         (try rw [Addr.add_zero'] at hx225_1)
         replace p225 := eq_true p225
         replace q225 := eq_true q225
         refine hK.out _ _ ⟨HS0_, HS1_⟩ (fun hHeld => ?_)
         clear hK K
         refine zn 26 ?_; refine zp0 4 27 ?_; refine zo0 5 28 (fun K hK => ?_)
         refine value_ (w1 := w35) (v := .agg #[.int .i64 (rd_T33 t222 0).f0, .int .i64 (rd_T33 t222 0).f1]) (by rfl) rfl ?_ ?_
         · go_simp
           try rfl
         refine hK.out _ _ hHeld (fun hHeld => ?_)
         clear hK K
         refine zn 28 ?_; refine zp0 6 29 ?_; refine zd0 ?_
         try go_wp2
         go_loopg [5, 32] k (fun kq v5 v32 w' => ∃ (x5_1 : List ByteArray) (x32_1 : Int), v32 = .int .i64 x32_1 ∧ Aside0 (portset_Format.l0 kq x5_1 t217 (t217.length : Int) x32_1 = some r) ∧ Aside0 (kq ≤ k) ∧ Aside0 (Kd.R Kd.string 9 w' w.heap.size (fun _ => True) v5 x5_1) ∧ Aside0 (Kd.R k33 33 w' w.heap.size (fun _ => True) (.slice (some ad221) t217.length co33) t217) ∧ Aside0 (Below w.heap.size w w'))
         case atStart => exact ⟨(([] : List ByteArray)), (0), (by first | rfl | (simp; done) | (simp [*]; done)), H', ⟨Nat.le_refl _⟩, ⟨by first | exact Kd.R_nil _ _ _ _ _ | exact Kd.N_nil _ _ _ _ _ | exact Kd.V_nil _ _ _ _ _ | exact Kd.Q_nil _ _ _ _ _ | exact Kd.S_nil _ _ _ _ _⟩, ⟨by (with_reducible repeat (first | apply Kd.R_alloc | apply Kd.R_drewN | apply Kd.R_drew)); exact Kd.R_mono HO219.out (fun _ hk => trivial)⟩, ⟨zB HB⟩⟩
         case round =>
          clear H'
          try clear c1
          try clear c2
          try clear p2
          try clear q2
          try clear hx2
          try clear qi2
          try clear c3
          try clear c5
          try clear c5b0
          try clear c5b1
          try clear c5b2
          try clear c7
          try clear c7b0
          try clear c7b1
          try clear c7b2
          try clear c9
          try clear c14
          try clear c15
          try clear c15b0
          try clear c15b1
          try clear c17
          try clear c17b0
          try clear c17b1
          try clear c18
          try clear c18b0
          try clear c18b1
          try clear c18b2
          try clear c20
          try clear c21
          try clear p22
          try clear q22
          try clear hx22
          try clear qi22
          try clear c31
          try clear hx221_0
          try clear hx221_1
          try clear hx225_0
          try clear hx225_1
          try clear p221
          try clear p225
          try clear q221
          try clear q225
          obtain ⟨x5_1, x32_1, rfl, HA, HK1, HO_5, HO_30, HB⟩ := hrel
          cases gk with
          | zero => exact absurd HA.out (by simp [portset_Format.l0])
          | succ k1 =>
           have H := HA.out
           clear HA
           simp only [portset_Format.l0] at H
           by_cases c37 : x32_1 < (t217.length : Int)
           · rw [if_pos c37] at H
             have c37b0 : decide (x32_1 < (t217.length : Int)) = true := decide_eq_true c37
             clear c37
             by_cases c38 : 0 ≤ x32_1
             · rw [if_pos c38] at H
               have c38b0 : decide (0 ≤ x32_1) = true := decide_eq_true c38
               clear c38
               by_cases c39 : x32_1 < (t217.length : Int)
               · rw [if_pos c39] at H
                 have c39b0 : decide (x32_1 < (t217.length : Int)) = true := decide_eq_true c39
                 clear c39
                 replace H := Option.bind_eq_some_iff.mp H
                 obtain ⟨t229, A400, H⟩ := H
                 try dsimp only at H
                 have A40 := Aside0.mk A400
                 clear A400
                 by_cases c41 : ((rd_T33 t217 x32_1).f0) < ((rd_T33 t217 x32_1).f1)
                 · rw [if_pos c41] at H
                   have c41b0 : decide (((rd_T33 t217 x32_1).f0) < ((rd_T33 t217 x32_1).f1)) = true := decide_eq_true c41
                   clear c41
                   replace H := Option.bind_eq_some_iff.mp H
                   obtain ⟨t230, A420, H⟩ := H
                   try dsimp only at H
                   have A42 := Aside0.mk A420
                   clear A420
                   by_cases c43 : 1 + t230.size ≤ 9223372036854775807
                   · rw [if_pos c43] at H
                     have c43b0 := eq_true c43
                     have c43b1 : decide (1 + t230.size ≤ 9223372036854775807) = true := decide_eq_true c43
                     try have c43b2 : (9223372036854775807 < 1 + t230.size) = False := eq_false (Nat.not_lt.2 c43)
                     by_cases c44 : t229.size + ((⟨#[58]⟩ : ByteArray) ++ t230).size ≤ 9223372036854775807
                     · rw [if_pos c44] at H
                       have c44b0 := eq_true c44
                       have c44b8 : t229.size + 1 + t230.size ≤ 9223372036854775807 := by have q_ := c44; simp only [ByteArray.size_append] at q_; first | exact q_ | (rw [Nat.add_assoc]; exact q_)
                       have c44b7 : (9223372036854775807 < t229.size + 1 + t230.size) = False := eq_false (Nat.not_lt.2 c44b8)
                       replace c44b8 := eq_true c44b8
                       have c44b1 : decide (t229.size + ((⟨#[58]⟩ : ByteArray) ++ t230).size ≤ 9223372036854775807) = true := decide_eq_true c44
                       try have c44b2 : (9223372036854775807 < t229.size + ((⟨#[58]⟩ : ByteArray) ++ t230).size) = False := eq_false (Nat.not_lt.2 c44)
                       by_cases c45 : x5_1.length < 8796093022208
                       · rw [if_pos c45] at H
                         have LMc45 := Aside0.mk c45
                         clear c45
                         obtain ⟨y231, hy231⟩ : ∃ y_ : List ByteArray, y_ = (x5_1 ++ [t229 ++ ((⟨#[58]⟩ : ByteArray) ++ t230)]) := ⟨_, rfl⟩
                         rw [← hy231] at H; try dsimp only [Option.bind_some] at H
                         have Ny231 := Aside0.mk hy231
                         clear hy231
                         have H' := Aside0.mk H
                         clear H
                         have p227 : 0 ≤ (x32_1 : Int) := za
                         have q227 : x32_1 < (t217.length : Int) := za
                         (try (obtain ⟨Ax_, cx_, ex_⟩ := Kd.R_slice HO_30.out; subst ex_))
                         obtain ⟨ad227, e227, hx227_0, hx227_1⟩ := at_T33 (Kd.R_reads' HO_30.out).2.2 x32_1 p227 q227
                         obtain rfl : ad221 = ad227 := (by injection e227)
                         replace p227 := eq_true p227
                         replace q227 := eq_true q227
                         go_wp2_with (first | ((with_reducible refine gate_dst (N := 7) rfl ?_); refine zx 7 #[.int .i64 0, .int .i64 0] 33 ?_; intro gb228 hg w46 hbox hb; replace HO_5 := Aside0.mk (Kd.R_below (zR HO_5) hb); replace HO_30 := Aside0.mk (Kd.R_below (Kd.R_elderB (zR HO_30) gb228 (Nat.le_of_eq hg.symm)) hb); have BK228 := Aside0.mk (hbox); have GW228 := Aside0.mk ((by rw [hg]; exact (below_size (zB HB)) : w.heap.size ≤ gb228)); have GE228 := Aside0.mk ((by rw [hg]; exact (below_size (zB HB)) : w.heap.size ≤ gb228)); replace HB := Aside0.mk (below_step (zB HB) hb); clear hb hbox hg; obtain ⟨hcz47_0, hcz47_1⟩ := zc2 BK228; obtain ⟨hfz47_0, hfz47_1⟩ := zf2 BK228) | ((with_reducible refine gate_callee (f := 31) rfl ?_); refine goesL_ (some 38) rfl rfl Tryd.func31 (by kernel_rfl) rfl #[.int .i64 ((rd_T33 t217 x32_1).f0)] rfl (by (try simp only [List.map_toArray, List.map_cons, List.map_nil]); first | done | rfl | (simp only [List.length_drop, List.length_take]; rfl)) ?_; (with_reducible refine (strconv_Itoa.calls ((rd_T33 t217 x32_1).f0) t229 _ A40.out (WOK.below hW_ (zB HB))).mono ?_); rintro e w48 ⟨rfl, hb⟩; refine ⟨_, rfl, ?_⟩; replace HO_5 := Aside0.mk (Kd.R_below (zQ (Kd.R_mono (Kd.R_far (p := ⟨gb228, 1, none⟩) (Kd.R_far (p := ⟨gb228, 0, none⟩) (Kd.R_types HO_5.out BK228.out (by decide)) (fun _ hk => hk.2) (.int .i64 ((rd_T33 t217 x32_1).f0))) (fun _ hk => hk.2) (.int .i64 ((rd_T33 t217 x32_1).f1))) (fun _ h_ => h_.1))) hb); replace HO_30 := Aside0.mk (Kd.R_below (zQ (Kd.R_mono (Kd.R_far (p := ⟨gb228, 1, none⟩) (Kd.R_far (p := ⟨gb228, 0, none⟩) (Kd.R_mono HO_30.out (fun k_ hk => (⟨hk, hk.2⟩ : _ ∧ k_ ≠ gb228))) (fun _ hk => hk.2) (.int .i64 ((rd_T33 t217 x32_1).f0))) (fun _ hk => hk.2) (.int .i64 ((rd_T33 t217 x32_1).f1))) (fun _ h_ => h_.1))) hb); replace BK228 := Aside0.mk (blk_below (g := gb228) (o := .cells #[.int .i64 ((rd_T33 t217 x32_1).f0), .int .i64 ((rd_T33 t217 x32_1).f1)] 33 (0, 0)) (by refine zL ?_; refine blk_put (cs := #[.int .i64 ((rd_T33 t217 x32_1).f0), .int .i64 0]) ?_ 1 _ rfl; refine zL ?_; refine blk_put (cs := #[.int .i64 0, .int .i64 0]) ?_ 0 _ rfl; refine zL ?_; exact BK228.out) hb); replace HB := Aside0.mk (below_step (zB HB) hb); (try clear hb); obtain ⟨hcz49_0, hcz49_1⟩ := zc2 BK228; obtain ⟨hfz49_0, hfz49_1⟩ := zf2 BK228) | ((with_reducible refine gate_callee (f := 31) rfl ?_); refine goesL_ (some 47) rfl rfl Tryd.func31 (by kernel_rfl) rfl #[.int .i64 ((rd_T33 t217 x32_1).f1)] rfl (by (try simp only [List.map_toArray, List.map_cons, List.map_nil]); first | done | rfl | (simp only [List.length_drop, List.length_take]; rfl)) ?_; (with_reducible refine (strconv_Itoa.calls ((rd_T33 t217 x32_1).f1) t230 _ A42.out (WOK.below hW_ (zB HB))).mono ?_); rintro e w50 ⟨rfl, hb⟩; refine ⟨_, rfl, ?_⟩; replace HO_5 := Aside0.mk (Kd.R_below (zR HO_5) hb); replace HO_30 := Aside0.mk (Kd.R_below (zR HO_30) hb); replace BK228 := Aside0.mk (blk_below (g := gb228) (o := .cells #[.int .i64 ((rd_T33 t217 x32_1).f0), .int .i64 ((rd_T33 t217 x32_1).f1)] 33 (0, 0)) (zK BK228) hb); replace HB := Aside0.mk (below_step (zB HB) hb); (try clear hb)) | ((with_reducible refine gate_builtin (b := .append) (xs := #[.tmp 50, .tmp 52]) rfl ?_); at_builtin; refine Kd.R_append Kd.string (w0 := w) w.heap.size rfl (.tmp 50) (.tmp 52) 38 9 (.string ⟨#[]⟩) 16 rfl Tryd.underlying38 info9 rfl (by decide) (by omega) u5 x5_1 (t229 ++ ((⟨#[58]⟩ : ByteArray) ++ t230)) [.string (t229 ++ ((⟨#[58]⟩ : ByteArray) ++ t230))] (fun _ => True) (fun _ => False) rfl rfl ?aP (fun _ hk => hk.elim) ?aF ?aO ?aB ?aS ?aL ?_; (case aP => exact rfl); (case aB => exact (zB HB)); (case aF => exact (fun _ _ => trivial)); (case aO => exact (zR HO_5)); (case aS => exact (below_size (zB HB))); (case aL => have := LMc45.out; omega); intro v232 w51 ho hb hg hat; rw [← Ny231.out] at ho; replace HO_30 := Aside0.mk (Kd.R_over' (zR HO_30) (Kd.R_typed (zR HO_5)) (by decide) hg); replace BK228 := Aside0.mk (blk_grown (g := gb228) (o := .cells #[.int .i64 ((rd_T33 t217 x32_1).f0), .int .i64 ((rd_T33 t217 x32_1).f1)] 33 (0, 0)) (zK BK228) hg (Kd.R_ne HO_5.out BK228.out (by decide))); replace HB := Aside0.mk (hb); have HO233 := Aside0.mk (ho); clear HO_5; clear ho hb hg hat))
                         go_roundg k1
                         case measure => have := HK1.out; omega
                         case rel => exact ⟨(y231), (wrap64 (x32_1 + 1)), (by first | rfl | (simp; done) | (simp [*]; done)), H', ⟨by have := HK1.out; omega⟩, ⟨zR HO233⟩, ⟨by (with_reducible repeat (first | apply Kd.R_alloc | apply Kd.R_drewN | apply Kd.R_drew)); exact Kd.R_mono HO_30.out (fun _ hk => trivial)⟩, ⟨zB HB⟩⟩
                       · rw [if_neg c45] at H
                         exact absurd H (by simp)
                     · rw [if_neg c44] at H
                       exact absurd H (by simp)
                   · rw [if_neg c43] at H
                     exact absurd H (by simp)
                 · rw [if_neg c41] at H
                   have c41b0 : decide (((rd_T33 t217 x32_1).f0) < ((rd_T33 t217 x32_1).f1)) = false := decide_eq_false c41
                   clear c41
                   by_cases c52 : x5_1.length < 8796093022208
                   · rw [if_pos c52] at H
                     have LMc52 := Aside0.mk c52
                     clear c52
                     obtain ⟨y234, hy234⟩ : ∃ y_ : List ByteArray, y_ = (x5_1 ++ [t229]) := ⟨_, rfl⟩
                     rw [← hy234] at H; try dsimp only [Option.bind_some] at H
                     have Ny234 := Aside0.mk hy234
                     clear hy234
                     have H' := Aside0.mk H
                     clear H
                     have p227 : 0 ≤ (x32_1 : Int) := za
                     have q227 : x32_1 < (t217.length : Int) := za
                     (try (obtain ⟨Ax_, cx_, ex_⟩ := Kd.R_slice HO_30.out; subst ex_))
                     obtain ⟨ad227, e227, hx227_0, hx227_1⟩ := at_T33 (Kd.R_reads' HO_30.out).2.2 x32_1 p227 q227
                     obtain rfl : ad221 = ad227 := (by injection e227)
                     replace p227 := eq_true p227
                     replace q227 := eq_true q227
                     go_wp2_with (first | ((with_reducible refine gate_dst (N := 7) rfl ?_); refine zx 7 #[.int .i64 0, .int .i64 0] 33 ?_; intro gb228 hg w53 hbox hb; replace HO_5 := Aside0.mk (Kd.R_below (zR HO_5) hb); replace HO_30 := Aside0.mk (Kd.R_below (Kd.R_elderB (zR HO_30) gb228 (Nat.le_of_eq hg.symm)) hb); have BK228 := Aside0.mk (hbox); have GW228 := Aside0.mk ((by rw [hg]; exact (below_size (zB HB)) : w.heap.size ≤ gb228)); have GE228 := Aside0.mk ((by rw [hg]; exact (below_size (zB HB)) : w.heap.size ≤ gb228)); replace HB := Aside0.mk (below_step (zB HB) hb); clear hb hbox hg; obtain ⟨hcz54_0, hcz54_1⟩ := zc2 BK228; obtain ⟨hfz54_0, hfz54_1⟩ := zf2 BK228) | ((with_reducible refine gate_callee (f := 31) rfl ?_); refine goesL_ (some 38) rfl rfl Tryd.func31 (by kernel_rfl) rfl #[.int .i64 ((rd_T33 t217 x32_1).f0)] rfl (by (try simp only [List.map_toArray, List.map_cons, List.map_nil]); first | done | rfl | (simp only [List.length_drop, List.length_take]; rfl)) ?_; (with_reducible refine (strconv_Itoa.calls ((rd_T33 t217 x32_1).f0) t229 _ A40.out (WOK.below hW_ (zB HB))).mono ?_); rintro e w55 ⟨rfl, hb⟩; refine ⟨_, rfl, ?_⟩; replace HO_5 := Aside0.mk (Kd.R_below (zQ (Kd.R_mono (Kd.R_far (p := ⟨gb228, 1, none⟩) (Kd.R_far (p := ⟨gb228, 0, none⟩) (Kd.R_types HO_5.out BK228.out (by decide)) (fun _ hk => hk.2) (.int .i64 ((rd_T33 t217 x32_1).f0))) (fun _ hk => hk.2) (.int .i64 ((rd_T33 t217 x32_1).f1))) (fun _ h_ => h_.1))) hb); replace HO_30 := Aside0.mk (Kd.R_below (zQ (Kd.R_mono (Kd.R_far (p := ⟨gb228, 1, none⟩) (Kd.R_far (p := ⟨gb228, 0, none⟩) (Kd.R_mono HO_30.out (fun k_ hk => (⟨hk, hk.2⟩ : _ ∧ k_ ≠ gb228))) (fun _ hk => hk.2) (.int .i64 ((rd_T33 t217 x32_1).f0))) (fun _ hk => hk.2) (.int .i64 ((rd_T33 t217 x32_1).f1))) (fun _ h_ => h_.1))) hb); replace BK228 := Aside0.mk (blk_below (g := gb228) (o := .cells #[.int .i64 ((rd_T33 t217 x32_1).f0), .int .i64 ((rd_T33 t217 x32_1).f1)] 33 (0, 0)) (by refine zL ?_; refine blk_put (cs := #[.int .i64 ((rd_T33 t217 x32_1).f0), .int .i64 0]) ?_ 1 _ rfl; refine zL ?_; refine blk_put (cs := #[.int .i64 0, .int .i64 0]) ?_ 0 _ rfl; refine zL ?_; exact BK228.out) hb); replace HB := Aside0.mk (below_step (zB HB) hb); (try clear hb); obtain ⟨hcz56_0, hcz56_1⟩ := zc2 BK228; obtain ⟨hfz56_0, hfz56_1⟩ := zf2 BK228) | ((with_reducible refine gate_builtin (b := .append) (xs := #[.tmp 50, .tmp 52]) rfl ?_); at_builtin; refine Kd.R_append Kd.string (w0 := w) w.heap.size rfl (.tmp 50) (.tmp 52) 38 9 (.string ⟨#[]⟩) 16 rfl Tryd.underlying38 info9 rfl (by decide) (by omega) u5 x5_1 t229 [.string t229] (fun _ => True) (fun _ => False) rfl rfl ?aP (fun _ hk => hk.elim) ?aF ?aO ?aB ?aS ?aL ?_; (case aP => exact rfl); (case aB => exact (zB HB)); (case aF => exact (fun _ _ => trivial)); (case aO => exact (zR HO_5)); (case aS => exact (below_size (zB HB))); (case aL => have := LMc52.out; omega); intro v235 w57 ho hb hg hat; rw [← Ny234.out] at ho; replace HO_30 := Aside0.mk (Kd.R_over' (zR HO_30) (Kd.R_typed (zR HO_5)) (by decide) hg); replace BK228 := Aside0.mk (blk_grown (g := gb228) (o := .cells #[.int .i64 ((rd_T33 t217 x32_1).f0), .int .i64 ((rd_T33 t217 x32_1).f1)] 33 (0, 0)) (zK BK228) hg (Kd.R_ne HO_5.out BK228.out (by decide))); replace HB := Aside0.mk (hb); have HO236 := Aside0.mk (ho); clear HO_5; clear ho hb hg hat))
                     go_roundg k1
                     case measure => have := HK1.out; omega
                     case rel => exact ⟨(y234), (wrap64 (x32_1 + 1)), (by first | rfl | (simp; done) | (simp [*]; done)), H', ⟨by have := HK1.out; omega⟩, ⟨zR HO236⟩, ⟨by (with_reducible repeat (first | apply Kd.R_alloc | apply Kd.R_drewN | apply Kd.R_drew)); exact Kd.R_mono HO_30.out (fun _ hk => trivial)⟩, ⟨zB HB⟩⟩
                   · rw [if_neg c52] at H
                     exact absurd H (by simp)
               · rw [if_neg c39] at H
                 exact absurd H (by simp)
             · rw [if_neg c38] at H
               exact absurd H (by simp)
           · rw [if_neg c37] at H
             have c37b0 : decide (x32_1 < (t217.length : Int)) = false := decide_eq_false c37
             clear c37
             replace H := Option.bind_eq_some_iff.mp H
             obtain ⟨t226, A580, H⟩ := H
             try dsimp only at H
             have A58 := Aside0.mk A580
             clear A580
             obtain rfl := Option.some.inj H
             obtain ⟨Ao59, co59, eo59⟩ := Kd.R_slice HO_5.out
             subst eo59
             go_wp2_with (first | ((with_reducible refine gate_callee (f := 32) rfl ?_); refine goesL_ (some 56) rfl rfl Tryd.func32 (by kernel_rfl) rfl #[.slice Ao59 x5_1.length co59, .string (⟨#[44]⟩ : ByteArray)] rfl (by (try simp only [List.map_toArray, List.map_cons, List.map_nil]); first | done | rfl | (simp only [List.length_drop, List.length_take]; rfl)) ?_; (with_reducible refine (strings_Join.calls _ _ x5_1 (⟨#[44]⟩ : ByteArray) t226 _ ?side1 ?side2 A58.out).mono ?_); (case side1 => repeat (first | exact (Kd.R_reads' HO_5.out).2.2 | (with_reducible refine Kd.C_alloc ?_ _) | (with_reducible refine Kd.C_drewN ?_ _) | (with_reducible refine Kd.C_drew ?_))); (case side2 => exact (Kd.R_reads' HO_5.out).2.1); rintro e w60 ⟨rfl, hb⟩; refine ⟨_, rfl, ?_⟩; replace HO_5 := Aside0.mk (Kd.R_below (zR HO_5) hb); replace HO_30 := Aside0.mk (Kd.R_below (zR HO_30) hb); replace HB := Aside0.mk (below_step (zB HB) hb); (try clear hb)))
             go_ret
             exact ⟨by first | rfl | (simp [errW_none, errW_some] <;> rfl) | (simp [*, errW_none, errW_some] <;> rfl), by repeat (first | (with_reducible first | exact HB.out | apply below_alloc | apply pw_below_drewN | apply below_drew1) | exact HB.out)⟩
     · rw [if_neg c17] at H
       exact absurd H (by simp)
   · rw [if_neg c15] at H
     exact absurd H (by simp)
end Go.Proofs.YtbimdjciacnioaaDoor.Q
end

section
set_option linter.unusedVariables false
set_option linter.unusedSimpArgs false
namespace Go.Proofs.YtbimdjciacnioaaDoor.Q
open Go.RowKit Go.Proofs.YtbimdjciacnioaaDoorW.PrintWords Go.Proofs.YtbimdjciacnioaaDoorW.PrintLast Go.Proofs.YtbimdjciacnioaaDoorW.PrintMore
def addTo (xs : List S33) (lo hi : Int) : List S33 := if lo ≤ hi then xs ++ [(⟨lo, hi⟩ : S33)] else xs
theorem addTo_len (xs : List S33) (lo hi : Int) : (addTo xs lo hi).length ≤ xs.length + 1 := by
  unfold addTo
  split <;> simp
structure Added (w0 W w' : World) (B : Nat) (v v' : Value) (xs : List S33) : Prop where
  cell : w'.heap[B]? = some (.cells #[v'] 23 (0, 0))
  row : Kd.R k33 33 w' w0.heap.size (fun _ => True) v' xs
  bel : Below w0.heap.size w0 w'
  size : W.heap.size ≤ w'.heap.size
  kept : ∀ k, k < W.heap.size → some k ≠ v.ownBlock → k ≠ B → w'.heap[k]? = W.heap[k]?
  own : v'.ownBlock = v.ownBlock ∨ ∃ b, v'.ownBlock = some b ∧ W.heap.size ≤ b
set_option maxHeartbeats 2000000 in
set_option maxRecDepth 100000 in
theorem addSpan (lo hi : Int) (B : Nat) (v : Value) (xs : List S33) (w0 W : World) (hB : W.heap[B]? = some (.cells #[v] 23 (0, 0))) (hR : Kd.R k33 33 W w0.heap.size (fun _ => True) v xs)
    (hbel : Below w0.heap.size w0 W) (hge : w0.heap.size ≤ B) (hlim : xs.length < 8796093022208) :
    Calls Tryd.prog 54 #[.int .i64 lo, .int .i64 hi, .pointer (some ⟨B, 0, none⟩)] W fun e w' => e = .returned (.tuple #[]) ∧ ∃ v', Added w0 W w' B v v' (addTo xs lo hi) := by
  have huS := Tryd.underlying33
  have HB := Aside0.mk hB
  have HR := Aside0.mk hR
  have HL := Aside0.mk hbel
  have HG := Aside0.mk hge
  have HM := Aside0.mk hlim
  have hcell := cell_of_one hB
  have hfree := free_of_one hB
  clear hB hR hbel hge hlim
  by_cases h1 : lo ≤ hi
  · have hb : decide (lo ≤ hi) = true := decide_eq_true h1
    have HE : Aside0 (addTo xs lo hi = xs ++ [(⟨lo, hi⟩ : S33)]) := ⟨by simp [addTo, h1]⟩
    clear h1
    go_enter Tryd.func54, Tryd.ntmps54
    go_wp2_with (at_builtin; refine Kd.R_append k33 w0.heap.size rfl (.tmp 8) (.tmp 12) 23 33 (.agg #[.int .i64 0, .int .i64 0]) 16 rfl Tryd.underlying23 info33 rfl (by decide) (by decide) v xs ⟨lo, hi⟩ [.int .i64 lo, .int .i64 hi] (fun _ => True) (fun _ => False) rfl rfl (k33_mkM _ _ _ _) (fun _ h => h.elim) (fun _ _ => trivial) HR.out HL.out (below_size HL.out) (by have := HM.out; omega) ?_; intro v1 w1 ho hb2 hg hat; obtain ⟨A1, n1, c1, rfl⟩ : ∃ A n c, v1 = .slice A n c := (by obtain ⟨A, c, h⟩ := Kd.R_slice ho; exact ⟨A, _, c, h⟩); have HO := Aside0.mk ho; have HB2 := Aside0.mk hb2; have HGR := Aside0.mk hg; have HAT := Aside0.mk hat; have hBc := (hg.block B (lt_of_block HB.out) (Kd.R_ne HR.out HB.out (by decide))).trans HB.out; have HBC := Aside0.mk hBc; have hcell1 := cell_of_one hBc; have hfree1 := free_of_one hBc; clear ho hb2 hg hat hBc)
    go_end0
    refine ⟨rfl, .slice A1 n1 c1, one_setCell HBC.out, ?_, HB2.out.setCell HG.out _, ?_, ?_, HAT.out⟩
    · rw [HE.out]
      exact Kd.R_set HO.out HBC.out (by decide) 0 _
    · have := HGR.out.size
      simpa [World.setCell] using this
    · intro k hk hn hnB
      rw [Below.heap_setCell _ _ _ _ hnB]
      exact HGR.out.block k hk hn
  · have hb : decide (lo ≤ hi) = false := decide_eq_false h1
    have HE : Aside0 (addTo xs lo hi = xs) := ⟨by simp [addTo, h1]⟩
    clear h1
    go_enter Tryd.func54, Tryd.ntmps54
    go_wp2
    go_end0
    exact ⟨rfl, v, HB.out, by rw [HE.out]; exact HR.out, HL.out, Nat.le_refl _, fun _ _ _ _ => rfl, .inl rfl⟩
def complStep (lo hi : Int) (s : Int × List S33) (x : S33) : Int × List S33 := if x.f1 < lo then s else if x.f0 > hi then s else (wrap64 (x.f1 + 1), addTo s.2 s.1 (wrap64 (x.f0 - 1)))
def complF (set : List S33) (lo hi : Int) : List S33 := let s := set.foldl (complStep lo hi) (lo, []); addTo s.2 s.1 hi
theorem compl_len (lo hi : Int) : ∀ (set : List S33) (s : Int × List S33), (set.foldl (complStep lo hi) s).2.length ≤ s.2.length + set.length
  | [], s => by simp
  | x :: t, s => by
    rw [List.foldl_cons]
    refine Nat.le_trans (compl_len lo hi t _) ?_
    have : (complStep lo hi s x).2.length ≤ s.2.length + 1 := by
      unfold complStep
      split
      · omega
      · split
        · omega
        · exact addTo_len _ _ _
    simp only [List.length_cons]
    omega
theorem fold_take (lo hi : Int) (set : List S33) (s : Int × List S33) (k : Nat) (hk : k < set.length) : (set.take (k + 1)).foldl (complStep lo hi) s = complStep lo hi ((set.take k).foldl (complStep lo hi) s) set[k] := by
  rw [List.take_succ_eq_append_getElem hk, List.foldl_append]
  rfl
def interval_Complement.f (k : Nat) (l0 : List S33) (a1 a2 : Int) : Option (List S33) := (interval_Normal.f k l0).bind fun set => if set.length < 8796093022208 then some (complF set (mx a1 0) (mn a2 4294967296)) else none
theorem interval_Complement.mono : ∀ a0 a1 a2 k, LeO (interval_Complement.f k a0 a1 a2) (interval_Complement.f (k + 1) a0 a1 a2) := by
  intro a0 a1 a2 k
  unfold interval_Complement.f
  refine LeO.bind ?_ (fun _ => LeO.refl _)
  exact interval_Normal.mono _ _
structure ComplAt (w w2 wr : World) (B : Nat) (SB : Option Nat) (xs : List S33) (v : Value) : Prop where
  cell : wr.heap[B]? = some (.cells #[v] 23 (0, 0))
  row : Kd.R k33 33 wr w.heap.size (fun _ => True) v xs
  bel : Below w.heap.size w wr
  size : w2.heap.size ≤ wr.heap.size
  set : ∀ q, SB = some q → wr.heap[q]? = w2.heap[q]? ∧ some q ≠ v.ownBlock
theorem ComplAt.below {w w2 wr W : World} {B : Nat} {SB : Option Nat} {xs : List S33} {v : Value} (h : ComplAt w w2 wr B SB xs v) (hb : Below wr.heap.size wr W) (hS : ∀ q, SB = some q → q < w2.heap.size) : ComplAt w w2 W B SB xs v where
  cell := (hb.block B (lt_of_block h.cell)).trans h.cell
  row := Kd.R_below h.row hb
  bel := h.bel.trans (hb.mono h.bel.size)
  size := Nat.le_trans h.size hb.size
  set := fun q hq => ⟨(hb.block q (Nat.lt_of_lt_of_le (hS q hq) h.size)).trans (h.set q hq).1, (h.set q hq).2⟩
theorem ComplAt.added {w w2 wr W : World} {B : Nat} {SB : Option Nat} {xs ys : List S33} {v v' : Value} (h : ComplAt w w2 wr B SB xs v) (ha : Added w wr W B v v' ys) (hS : ∀ q, SB = some q → q < w2.heap.size ∧ q ≠ B) : ComplAt w w2 W B SB ys v' where
  cell := ha.cell
  row := ha.row
  bel := ha.bel
  size := Nat.le_trans h.size ha.size
  set := fun q hq => by
    have hlt := Nat.lt_of_lt_of_le (hS q hq).1 h.size
    refine ⟨(ha.kept q hlt (h.set q hq).2 (hS q hq).2).trans (h.set q hq).1, ?_⟩
    rcases ha.own with e | ⟨b, e, hb⟩
    · rw [e]; exact (h.set q hq).2
    · rw [e]
      intro e2
      injection e2 with e2
      omega
attribute [local go_sem] max2_int min2_int max_two min_two
set_option maxHeartbeats 8000000 in
set_option maxRecDepth 100000 in
theorem interval_Complement.calls (k : Nat) (A0 : Option Addr) (c0 : Nat) (l0 : List S33) (a1 a2 : Int) (r : List S33) (w : World) (hr0 : Kd.C k33 w A0 l0.length l0) (hc0 : l0.length ≤ c0) (h : interval_Complement.f k l0 a1 a2 = some r) :
    Calls Tryd.prog 36 #[.slice A0 l0.length c0, .int .i64 a1, .int .i64 a2] w fun e w' => ∃ v0_ : Value, e = .returned (v0_) ∧ Kd.R k33 33 w' w.heap.size (fun _ => True) v0_ r ∧ Below w.heap.size w w' := by
  unfold interval_Complement.f at h
  obtain ⟨set, hset, h⟩ := Option.bind_eq_some_iff.1 h
  by_cases hlim : set.length < 8796093022208
  · rw [if_pos hlim] at h
    injection h with h
    obtain ⟨lo, e1⟩ : ∃ lo : Int, (if a1 < 0 then (0 : Int) else a1) = lo := ⟨_, rfl⟩
    obtain ⟨hi, e2⟩ : ∃ hi : Int, (if (4294967296 : Int) < a2 then (4294967296 : Int) else a2) = hi := ⟨_, rfl⟩
    rw [show mx a1 0 = lo from e1, show mn a2 4294967296 = hi from e2] at h
    have HS := Aside0.mk hset
    have HR := Aside0.mk hr0
    have HC := Aside0.mk hc0
    have HL := Aside0.mk hlim
    have HF := Aside0.mk h
    have huS := Tryd.underlying33
    clear hset hr0 hc0 hlim h
    go_enter Tryd.func36, Tryd.ntmps36
    go_wp2_with (go_at_call 37; refine (interval_Normal.calls k A0 c0 l0 set _ (Kd.C_alloc HR.out _) HC.out HS.out).mono ?_; rintro e w2 ⟨vS, rfl, hoS, hbS⟩; obtain ⟨AS, cS, rfl⟩ := Kd.R_slice hoS; have HOS := Aside0.mk hoS; have HBS := Aside0.mk hbS; clear hoS hbS)
    clear e1 e2
    have hcellB : w2.heap[w.heap.size]? = some (.cells #[.slice none 0 0] 23 (0, 0)) := (HBS.out.block _ (by simp)).trans (heap_alloc_new _ _)
    have hS : ∀ q, (Value.slice AS set.length cS).ownBlock = some q → q < w2.heap.size ∧ q ≠ w.heap.size := fun q hq => ⟨(Kd.R_lt HOS.out q hq), by have := Kd.R_base HOS.out q hq; simp at this; omega⟩
    have h0 : ComplAt w w2 w2 w.heap.size (Value.slice AS set.length cS).ownBlock [] (.slice none 0 0) := ⟨hcellB, Kd.R_nil _ _ _ _ _, (((Below.refl _ _).alloc (Nat.le_refl _) _).trans (HBS.out.mono (by simp))), Nat.le_refl _, fun q hq => ⟨rfl, by simp [Value.ownBlock]⟩⟩
    have H0 := Aside0.mk h0
    have HSS := Aside0.mk hS
    clear h0 hS hcellB
    have hm : set.length ≤ 9223372036854775807 := by have := HL.out; omega
    go_loopg [9, 21] set.length (fun gg v9 v21 wr => ∃ (kk : Nat) (nx : Int), kk ≤ set.length ∧ set.length - kk ≤ gg ∧ v21 = .int .i64 kk ∧ v9 = .int .i64 nx ∧ Aside0 (nx = ((set.take kk).foldl (complStep lo hi) (lo, [])).1) ∧ Aside0 (∃ v, ComplAt w w2 wr w.heap.size (Value.slice AS set.length cS).ownBlock ((set.take kk).foldl (complStep lo hi) (lo, [])).2 v))
    case atStart => exact ⟨0, lo, Nat.zero_le _, by omega, rfl, rfl, ⟨rfl⟩, ⟨_, H0.out⟩⟩
    case round =>
      obtain ⟨kk, nx, hkk, hg, rfl, rfl, HN, HA⟩ := hrel
      obtain ⟨v, HAv⟩ := HA.out
      have HV := Aside0.mk HAv
      clear HA HAv
      by_cases hlt : kk < set.length
      · have hltz : (kk : Int) < (set.length : Int) := by omega
        have hRS : Kd.R k33 33 wr (w.alloc (.cells #[.slice none 0 0] 23)).heap.size (fun k => some k = (Value.slice AS set.length cS).ownBlock) (.slice AS set.length cS) set := Kd.R_move (Kd.R_tight rfl HOS.out) (fun q hq => (HV.out.set q hq.symm).1)
        obtain ⟨ad, e, hx0, hx1⟩ := at_T33 (Kd.R_reads' hRS).2.2 kk (by omega) hltz
        cases e
        have hrd : rd_T33 set (kk : Int) = set[kk] := by simp [rd_T33, List.getD_eq_getElem?_getD, List.getElem?_eq_getElem hlt]
        rw [hrd] at hx0 hx1
        simp only [Int.toNat_natCast] at hx0 hx1
        have hfold := fold_take lo hi set (lo, []) kk hlt
        clear hRS hrd
        generalize set[kk] = y at hx0 hx1 hfold
        have HFO := Aside0.mk hfold
        clear hfold
        by_cases c1 : y.f1 < lo
        · have hE : complStep lo hi ((set.take kk).foldl (complStep lo hi) (lo, [])) y = (set.take kk).foldl (complStep lo hi) (lo, []) := by simp [complStep, c1]
          have HE := Aside0.mk (HFO.out.trans hE)
          have b1 : decide (y.f1 < lo) = true := decide_eq_true c1
          clear c1 hE
          go_wp2
          go_roundg (set.length - (kk + 1))
          case measure => omega
          case rel => exact ⟨kk + 1, nx, by omega, by omega, by go_num, rfl, ⟨by rw [HE.out]; exact HN.out⟩, ⟨v, by rw [HE.out]; exact HV.out.below ((Below.refl _ _).alloc (Nat.le_refl _) _) (fun q hq => (HSS.out q hq).1)⟩⟩
        · have b1 : decide (y.f1 < lo) = false := decide_eq_false c1
          by_cases c2 : hi < y.f0
          · have hE : complStep lo hi ((set.take kk).foldl (complStep lo hi) (lo, [])) y = (set.take kk).foldl (complStep lo hi) (lo, []) := by simp [complStep, c2]
            have HE := Aside0.mk (HFO.out.trans hE)
            have b2 : decide (hi < y.f0) = true := decide_eq_true c2
            clear c1 c2 hE
            go_wp2
            go_roundg (set.length - (kk + 1))
            case measure => omega
            case rel => exact ⟨kk + 1, nx, by omega, by omega, by go_num, rfl, ⟨by rw [HE.out]; exact HN.out⟩, ⟨v, by rw [HE.out]; exact HV.out.below ((Below.refl _ _).alloc (Nat.le_refl _) _) (fun q hq => (HSS.out q hq).1)⟩⟩
          · have hE : complStep lo hi ((set.take kk).foldl (complStep lo hi) (lo, [])) y = (wrap64 (y.f1 + 1), addTo ((set.take kk).foldl (complStep lo hi) (lo, [])).2 nx (wrap64 (y.f0 - 1))) := by simp [complStep, c1, c2, HN.out]
            have HE := Aside0.mk (HFO.out.trans hE)
            have b2 : decide (hi < y.f0) = false := decide_eq_false c2
            have hlen : ((set.take kk).foldl (complStep lo hi) (lo, [])).2.length < 8796093022208 := by
              have := compl_len lo hi (set.take kk) (lo, [])
              have h3 := HL.out
              simp at this
              omega
            have HLE := Aside0.mk hlen
            clear c1 c2 hE hlen
            go_wp2_with (go_at_call 54; refine (addSpan nx _ w.heap.size v _ w _ ?h1 ?h2 ?h3 (Nat.le_refl _) HLE.out).mono ?_; (case h1 => exact (HV.out.below ((Below.refl _ _).alloc (Nat.le_refl _) _) (fun q hq => (HSS.out q hq).1)).cell); (case h2 => exact (HV.out.below ((Below.refl _ _).alloc (Nat.le_refl _) _) (fun q hq => (HSS.out q hq).1)).row); (case h3 => exact (HV.out.below ((Below.refl _ _).alloc (Nat.le_refl _) _) (fun q hq => (HSS.out q hq).1)).bel); rintro e w5 ⟨rfl, v', hadd⟩; have hk5 := hadd.kept wr.heap.size (by simp) (fun e => Nat.lt_irrefl _ (Kd.R_lt HV.out.row _ e.symm)) (fun e => Nat.lt_irrefl _ (by have h9 := lt_of_block HV.out.cell; rw [← e] at h9; exact h9)); have hx5 : w5.cell? ⟨wr.heap.size, 1, none⟩ = some (.int .i64 y.f1) := (by simp only [World.cell?, hk5, heap_alloc_new]; rfl); clear hk5; have HAD := Aside0.mk ((HV.out.below ((Below.refl _ _).alloc (Nat.le_refl _) _) (fun q hq => (HSS.out q hq).1)).added hadd HSS.out); clear hadd)
            go_roundg (set.length - (kk + 1))
            case measure => omega
            case rel => exact ⟨kk + 1, wrap64 (y.f1 + 1), by omega, by omega, by go_num, rfl, ⟨by rw [HE.out]⟩, ⟨v', by rw [HE.out]; exact HAD.out⟩⟩
      · have hltz : ¬ (kk : Int) < (set.length : Int) := by omega
        have hkl : kk = set.length := by omega
        have hlen : ((set.take kk).foldl (complStep lo hi) (lo, [])).2.length < 8796093022208 := by
          have := compl_len lo hi (set.take kk) (lo, [])
          have h3 := HL.out
          simp at this
          omega
        have HLE := Aside0.mk hlen
        have hfin : addTo ((set.take kk).foldl (complStep lo hi) (lo, [])).2 nx hi = r := by
          rw [← HF.out, HN.out, hkl, List.take_length]
          rfl
        have HFI := Aside0.mk hfin
        clear hlen hfin hkl
        go_wp2_with (go_at_call 54; refine (addSpan nx hi w.heap.size v _ w _ ?h1 ?h2 ?h3 (Nat.le_refl _) HLE.out).mono ?_; (case h1 => exact HV.out.cell); (case h2 => exact HV.out.row); (case h3 => exact HV.out.bel); rintro e w5 ⟨rfl, v', hadd⟩; have HAD := Aside0.mk hadd; have hcl := cell_of_one hadd.cell; clear hadd)
        go_ret
        exact ⟨_, rfl, by rw [← HFI.out]; exact HAD.out.row, HAD.out.bel⟩
  · rw [if_neg hlim] at h
    cases h
end Go.Proofs.YtbimdjciacnioaaDoor.Q
end

section
namespace Go.Proofs.YtbimdjciacnioaaDoor.Q
open Go.RowKit Go.Proofs.YtbimdjciacnioaaDoorW.PrintWords Go.Proofs.YtbimdjciacnioaaDoorW.PrintLast Go.Proofs.YtbimdjciacnioaaDoorW.PrintMore
attribute [local go_sem] max2_int min2_int max_two min_two max_three min_three max_four min_four
set_option linter.unusedVariables false
set_option linter.unusedSimpArgs false
def interval_Minus.f (k : Nat) (l0 : List (S33)) (l1 : List (S33)) : Option ((List (S33))) := (interval_Complement.f k l1 0 4294967296).bind fun t156 => ((interval_Intersect.f k l0 t156).bind fun t159 => (some t159))
theorem interval_Minus.mono : ∀ a0 a1 k, LeO (interval_Minus.f k a0 a1) (interval_Minus.f (k + 1) a0 a1) := by
  intro a0 a1 k
  unfold interval_Minus.f
  repeat' first
      | (with_reducible exact interval_Complement.mono _ _ _ _)
      | (with_reducible exact interval_Intersect.mono _ _ _)
      | (with_reducible exact LeO.refl _)
      | (with_reducible exact LeO.none _)
      | (with_reducible refine LeO.ite ?_ ?_)
      | (with_reducible refine LeO.bind ?_ (fun _ => ?_))
      | exact interval_Complement.mono _ _ _ _
      | exact interval_Intersect.mono _ _ _
      | exact LeO.none _
      | refine LeO.ite ?_ ?_
      | refine LeO.bind ?_ (fun _ => ?_)
set_option maxHeartbeats 8000000 in
set_option maxRecDepth 100000 in
theorem interval_Minus.calls (k : Nat) (A0 : Option Addr) (c0 : Nat) (l0 : List (S33)) (A1 : Option Addr) (c1 : Nat) (l1 : List (S33)) (r : List (S33)) (w : World) (hr0 : Kd.C k33 w A0 l0.length l0) (hc0 : l0.length ≤ c0) (hr1 : Kd.C k33 w A1 l1.length l1) (hc1 : l1.length ≤ c1) (h : interval_Minus.f k l0 l1 = some r) :
 Calls Tryd.prog 18 #[.slice A0 l0.length c0, .slice A1 l1.length c1] w fun e w' => ∃ v0_ : Value, e = .returned (v0_) ∧ Kd.R k33 33 w' w.heap.size (fun _ => True) v0_ r ∧ Below w.heap.size w w' := by
 have HR0 := Aside0.mk hr0
 have HC0 := Aside0.mk hc0
 clear hr0 hc0
 have HR1 := Aside0.mk hr1
 have HC1 := Aside0.mk hc1
 clear hr1 hc1
 have HB := Aside0.mk (Below.refl w.heap.size w)
 unfold interval_Minus.f at h; have H := h
 clear h
 replace H := Option.bind_eq_some_iff.mp H
 obtain ⟨t156, A30, H⟩ := H
 try dsimp only at H
 have A3 := Aside0.mk A30
 clear A30
 replace H := Option.bind_eq_some_iff.mp H
 obtain ⟨t159, A40, H⟩ := H
 try dsimp only at H
 have A4 := Aside0.mk A40
 clear A40
 obtain rfl := Option.some.inj H
 go_enter Tryd.func18, Tryd.ntmps18
 go_wp2_with (first | ((with_reducible refine gate_callee (f := 36) rfl ?_); refine goesL_ (some 7) rfl rfl Tryd.func36 (by kernel_rfl) rfl #[.slice A1 l1.length c1, .int .i64 0, .int .i64 4294967296] rfl (by (try simp only [List.map_toArray, List.map_cons, List.map_nil]); first | done | rfl | (simp only [List.length_drop, List.length_take]; rfl)) ?_; (with_reducible refine (interval_Complement.calls k _ _ l1 0 4294967296 t156 _ ?side1 ?side2 A3.out).mono ?_); (case side1 => repeat (first | exact HR1.out | (with_reducible refine Kd.C_alloc ?_ _) | (with_reducible refine Kd.C_drewN ?_ _) | (with_reducible refine Kd.C_drew ?_))); (case side2 => exact HC1.out); rintro e w5 ⟨v157, rfl, ho0, hb⟩; refine ⟨_, rfl, ?_⟩; have HO158 := Aside0.mk (Kd.R_lower ho0 (below_size (zB HB))); replace HB := Aside0.mk (below_step (zB HB) hb); (try clear hb); (try clear ho0); obtain ⟨Ao6, co6, eo6⟩ := Kd.R_slice HO158.out; subst eo6) | ((with_reducible refine gate_callee (f := 21) rfl ?_); refine goesL_ (some 8) rfl rfl Tryd.func21 (by kernel_rfl) rfl #[.slice A0 l0.length c0, .slice Ao6 t156.length co6] rfl (by (try simp only [List.map_toArray, List.map_cons, List.map_nil]); first | done | rfl | (simp only [List.length_drop, List.length_take]; rfl)) ?_; (with_reducible refine (interval_Intersect.calls k _ _ l0 _ _ t156 t159 _ ?side1 ?side2 ?side3 ?side4 A4.out).mono ?_); (case side1 => repeat (first | exact (Kd.C_below HR0.out HB.out) | (with_reducible refine Kd.C_alloc ?_ _) | (with_reducible refine Kd.C_drewN ?_ _) | (with_reducible refine Kd.C_drew ?_))); (case side2 => exact HC0.out); (case side3 => repeat (first | exact (Kd.R_reads' HO158.out).2.2 | (with_reducible refine Kd.C_alloc ?_ _) | (with_reducible refine Kd.C_drewN ?_ _) | (with_reducible refine Kd.C_drew ?_))); (case side4 => exact (Kd.R_reads' HO158.out).2.1); rintro e w7 ⟨v160, rfl, ho0, hb⟩; refine ⟨_, rfl, ?_⟩; have HO161 := Aside0.mk (Kd.R_lower (Kd.R_new' ho0 (Kd.R_lt (zR HO158))) (below_size (zB HB))); replace HO158 := Aside0.mk (Kd.R_elder' (zR HO158) (Kd.R_base ho0) hb); replace HB := Aside0.mk (below_step (zB HB) hb); (try clear hb); (try clear ho0)))
 go_ret
 exact ⟨_, by first | rfl | (simp [errW_none, errW_some] <;> rfl) | (simp [*, errW_none, errW_some] <;> rfl), by (with_reducible repeat (first | apply Kd.R_alloc | apply Kd.R_drewN | apply Kd.R_drew)); exact Kd.R_mono HO161.out (fun _ hk => trivial), by repeat (first | (with_reducible first | exact HB.out | apply below_alloc | apply pw_below_drewN | apply below_drew1) | exact HB.out)⟩
end Go.Proofs.YtbimdjciacnioaaDoor.Q
end

section
namespace Go.Proofs.YtbimdjciacnioaaDoor.Q
open Go.RowKit Go.Proofs.YtbimdjciacnioaaDoorW.PrintWords Go.Proofs.YtbimdjciacnioaaDoorW.PrintLast Go.Proofs.YtbimdjciacnioaaDoorW.PrintMore
attribute [local go_sem] max2_int min2_int max_two min_two max_three min_three max_four min_four
set_option linter.unusedVariables false
set_option linter.unusedSimpArgs false
def portset_Eval.f (k : Nat) (l0 : List (S33)) (l1 : List (S33)) : Option ((List (S33))) := (portset_All.f).bind fun t165 => (if (l0.length : Int) > 0 then ((interval_Intersect.f k t165 l0).bind fun t168 => ((interval_Minus.f k t168 l1).bind fun t171 => (some t171))) else ((interval_Minus.f k t165 l1).bind fun t174 => (some t174)))
theorem portset_Eval.mono : ∀ a0 a1 k, LeO (portset_Eval.f k a0 a1) (portset_Eval.f (k + 1) a0 a1) := by
  intro a0 a1 k
  unfold portset_Eval.f
  repeat' first
      | (with_reducible exact interval_Intersect.mono _ _ _)
      | (with_reducible exact interval_Minus.mono _ _ _)
      | (with_reducible exact LeO.refl _)
      | (with_reducible exact LeO.none _)
      | (with_reducible refine LeO.ite ?_ ?_)
      | (with_reducible refine LeO.bind ?_ (fun _ => ?_))
      | exact interval_Intersect.mono _ _ _
      | exact interval_Minus.mono _ _ _
      | exact LeO.none _
      | refine LeO.ite ?_ ?_
      | refine LeO.bind ?_ (fun _ => ?_)
set_option maxHeartbeats 8000000 in
set_option maxRecDepth 100000 in
theorem portset_Eval.calls (k : Nat) (A0 : Option Addr) (c0 : Nat) (l0 : List (S33)) (A1 : Option Addr) (c1 : Nat) (l1 : List (S33)) (r : List (S33)) (w : World) (hr0 : Kd.C k33 w A0 l0.length l0) (hc0 : l0.length ≤ c0) (hr1 : Kd.C k33 w A1 l1.length l1) (hc1 : l1.length ≤ c1) (h : portset_Eval.f k l0 l1 = some r) :
 Calls Tryd.prog 16 #[.slice A0 l0.length c0, .slice A1 l1.length c1] w fun e w' => ∃ v0_ : Value, e = .returned (v0_) ∧ Kd.R k33 33 w' w.heap.size (fun _ => True) v0_ r ∧ Below w.heap.size w w' := by
 have HR0 := Aside0.mk hr0
 have HC0 := Aside0.mk hc0
 clear hr0 hc0
 have HR1 := Aside0.mk hr1
 have HC1 := Aside0.mk hc1
 clear hr1 hc1
 have HB := Aside0.mk (Below.refl w.heap.size w)
 unfold portset_Eval.f at h; have H := h
 clear h
 replace H := Option.bind_eq_some_iff.mp H
 obtain ⟨t165, A30, H⟩ := H
 try dsimp only at H
 have A3 := Aside0.mk A30
 clear A30
 by_cases c4 : (l0.length : Int) > 0
 · rw [if_pos c4] at H
   have c4b0 : decide (0 < (l0.length : Int)) = true := decide_eq_true c4
   have c4b1 : decide (0 < l0.length) = true := decide_eq_true (by omega)
   clear c4
   replace H := Option.bind_eq_some_iff.mp H
   obtain ⟨t168, A50, H⟩ := H
   try dsimp only at H
   have A5 := Aside0.mk A50
   clear A50
   replace H := Option.bind_eq_some_iff.mp H
   obtain ⟨t171, A60, H⟩ := H
   try dsimp only at H
   have A6 := Aside0.mk A60
   clear A60
   obtain rfl := Option.some.inj H
   go_enter Tryd.func16, Tryd.ntmps16
   go_wp2_with (first | ((with_reducible refine gate_callee (f := 20) rfl ?_); refine goesL_ (some 6) rfl rfl Tryd.func20 (by kernel_rfl) rfl #[] rfl (by (try simp only [List.map_toArray, List.map_cons, List.map_nil]); first | done | rfl | (simp only [List.length_drop, List.length_take]; rfl)) ?_; (with_reducible refine (portset_All.calls  t165 _ A3.out).mono ?_); rintro e w7 ⟨v166, rfl, ho0, hb⟩; refine ⟨_, rfl, ?_⟩; have HO167 := Aside0.mk (Kd.R_lower ho0 (below_size (zB HB))); replace HB := Aside0.mk (below_step (zB HB) hb); (try clear hb); (try clear ho0); obtain ⟨Ao8, co8, eo8⟩ := Kd.R_slice HO167.out; subst eo8) | ((with_reducible refine gate_callee (f := 21) rfl ?_); refine goesL_ (some 12) rfl rfl Tryd.func21 (by kernel_rfl) rfl #[.slice Ao8 t165.length co8, .slice A0 l0.length c0] rfl (by (try simp only [List.map_toArray, List.map_cons, List.map_nil]); first | done | rfl | (simp only [List.length_drop, List.length_take]; rfl)) ?_; (with_reducible refine (interval_Intersect.calls k _ _ t165 _ _ l0 t168 _ ?side1 ?side2 ?side3 ?side4 A5.out).mono ?_); (case side1 => repeat (first | exact (Kd.R_reads' HO167.out).2.2 | (with_reducible refine Kd.C_alloc ?_ _) | (with_reducible refine Kd.C_drewN ?_ _) | (with_reducible refine Kd.C_drew ?_))); (case side2 => exact (Kd.R_reads' HO167.out).2.1); (case side3 => repeat (first | exact (Kd.C_below HR0.out HB.out) | (with_reducible refine Kd.C_alloc ?_ _) | (with_reducible refine Kd.C_drewN ?_ _) | (with_reducible refine Kd.C_drew ?_))); (case side4 => exact HC0.out); rintro e w9 ⟨v169, rfl, ho0, hb⟩; refine ⟨_, rfl, ?_⟩; have HO170 := Aside0.mk (Kd.R_lower (Kd.R_new' ho0 (Kd.R_lt (zR HO167))) (below_size (zB HB))); replace HO167 := Aside0.mk (Kd.R_elder' (zR HO167) (Kd.R_base ho0) hb); replace HB := Aside0.mk (below_step (zB HB) hb); (try clear hb); (try clear ho0); obtain ⟨Ao10, co10, eo10⟩ := Kd.R_slice HO170.out; subst eo10) | ((with_reducible refine gate_callee (f := 18) rfl ?_); refine goesL_ (some 15) rfl rfl Tryd.func18 (by kernel_rfl) rfl #[.slice Ao10 t168.length co10, .slice A1 l1.length c1] rfl (by (try simp only [List.map_toArray, List.map_cons, List.map_nil]); first | done | rfl | (simp only [List.length_drop, List.length_take]; rfl)) ?_; (with_reducible refine (interval_Minus.calls k _ _ t168 _ _ l1 t171 _ ?side1 ?side2 ?side3 ?side4 A6.out).mono ?_); (case side1 => repeat (first | exact (Kd.R_reads' HO170.out).2.2 | (with_reducible refine Kd.C_alloc ?_ _) | (with_reducible refine Kd.C_drewN ?_ _) | (with_reducible refine Kd.C_drew ?_))); (case side2 => exact (Kd.R_reads' HO170.out).2.1); (case side3 => repeat (first | exact (Kd.C_below HR1.out HB.out) | (with_reducible refine Kd.C_alloc ?_ _) | (with_reducible refine Kd.C_drewN ?_ _) | (with_reducible refine Kd.C_drew ?_))); (case side4 => exact HC1.out); rintro e w11 ⟨v172, rfl, ho0, hb⟩; refine ⟨_, rfl, ?_⟩; have HO173 := Aside0.mk (Kd.R_lower (Kd.R_new' (Kd.R_new' ho0 (Kd.R_lt (zR HO167))) (Kd.R_lt (zR HO170))) (below_size (zB HB))); replace HO167 := Aside0.mk (Kd.R_elder' (zR HO167) (Kd.R_base ho0) hb); replace HO170 := Aside0.mk (Kd.R_elder' (zR HO170) (Kd.R_base ho0) hb); replace HB := Aside0.mk (below_step (zB HB) hb); (try clear hb); (try clear ho0)))
   go_ret
   exact ⟨_, by first | rfl | (simp [errW_none, errW_some] <;> rfl) | (simp [*, errW_none, errW_some] <;> rfl), by (with_reducible repeat (first | apply Kd.R_alloc | apply Kd.R_drewN | apply Kd.R_drew)); exact Kd.R_mono HO173.out (fun _ hk => trivial), by repeat (first | (with_reducible first | exact HB.out | apply below_alloc | apply pw_below_drewN | apply below_drew1) | exact HB.out)⟩
 · rw [if_neg c4] at H
   have c4b0 : decide (0 < (l0.length : Int)) = false := decide_eq_false c4
   have c4b1 : decide (0 < l0.length) = false := decide_eq_false (by omega)
   clear c4
   replace H := Option.bind_eq_some_iff.mp H
   obtain ⟨t174, A120, H⟩ := H
   try dsimp only at H
   have A12 := Aside0.mk A120
   clear A120
   obtain rfl := Option.some.inj H
   go_enter Tryd.func16, Tryd.ntmps16
   go_wp2_with (first | ((with_reducible refine gate_callee (f := 20) rfl ?_); refine goesL_ (some 6) rfl rfl Tryd.func20 (by kernel_rfl) rfl #[] rfl (by (try simp only [List.map_toArray, List.map_cons, List.map_nil]); first | done | rfl | (simp only [List.length_drop, List.length_take]; rfl)) ?_; (with_reducible refine (portset_All.calls  t165 _ A3.out).mono ?_); rintro e w13 ⟨v166, rfl, ho0, hb⟩; refine ⟨_, rfl, ?_⟩; have HO167 := Aside0.mk (Kd.R_lower ho0 (below_size (zB HB))); replace HB := Aside0.mk (below_step (zB HB) hb); (try clear hb); (try clear ho0); obtain ⟨Ao14, co14, eo14⟩ := Kd.R_slice HO167.out; subst eo14) | ((with_reducible refine gate_callee (f := 18) rfl ?_); refine goesL_ (some 15) rfl rfl Tryd.func18 (by kernel_rfl) rfl #[.slice Ao14 t165.length co14, .slice A1 l1.length c1] rfl (by (try simp only [List.map_toArray, List.map_cons, List.map_nil]); first | done | rfl | (simp only [List.length_drop, List.length_take]; rfl)) ?_; (with_reducible refine (interval_Minus.calls k _ _ t165 _ _ l1 t174 _ ?side1 ?side2 ?side3 ?side4 A12.out).mono ?_); (case side1 => repeat (first | exact (Kd.R_reads' HO167.out).2.2 | (with_reducible refine Kd.C_alloc ?_ _) | (with_reducible refine Kd.C_drewN ?_ _) | (with_reducible refine Kd.C_drew ?_))); (case side2 => exact (Kd.R_reads' HO167.out).2.1); (case side3 => repeat (first | exact (Kd.C_below HR1.out HB.out) | (with_reducible refine Kd.C_alloc ?_ _) | (with_reducible refine Kd.C_drewN ?_ _) | (with_reducible refine Kd.C_drew ?_))); (case side4 => exact HC1.out); rintro e w15 ⟨v175, rfl, ho0, hb⟩; refine ⟨_, rfl, ?_⟩; have HO176 := Aside0.mk (Kd.R_lower (Kd.R_new' ho0 (Kd.R_lt (zR HO167))) (below_size (zB HB))); replace HO167 := Aside0.mk (Kd.R_elder' (zR HO167) (Kd.R_base ho0) hb); replace HB := Aside0.mk (below_step (zB HB) hb); (try clear hb); (try clear ho0)))
   go_ret
   exact ⟨_, by first | rfl | (simp [errW_none, errW_some] <;> rfl) | (simp [*, errW_none, errW_some] <;> rfl), by (with_reducible repeat (first | apply Kd.R_alloc | apply Kd.R_drewN | apply Kd.R_drew)); exact Kd.R_mono HO176.out (fun _ hk => trivial), by repeat (first | (with_reducible first | exact HB.out | apply below_alloc | apply pw_below_drewN | apply below_drew1) | exact HB.out)⟩
end Go.Proofs.YtbimdjciacnioaaDoor.Q
end

section
set_option linter.unusedVariables false
set_option linter.unusedSimpArgs false
namespace Go.Proofs.YtbimdjciacnioaaDoor.Q
open Go.RowKit Go.Proofs.YtbimdjciacnioaaDoorW.PrintWords Go.Proofs.YtbimdjciacnioaaDoorW.PrintLast Go.Proofs.YtbimdjciacnioaaDoorW.PrintMore
theorem wid {x : Int} (h0 : -9223372036854775808 ≤ x) (h1 : x ≤ 9223372036854775807) : wrap64 x = x := by unfold wrap64; omega
theorem bt_list (s : ByteArray) (i : Nat) (h : i < s.data.toList.length) : bt s (i : Int) = ((s.data.toList[i]'h).toNat : Int) := by
  have hs : i < s.size := by rw [Array.length_toList] at h; exact h
  unfold bt
  have e : ((i : Int)).toNat = i := Int.toNat_natCast i
  rw [dif_pos (by rw [e]; exact hs)]
  have : ∀ (j : Nat) (hj : j < s.size), j = i → s[j].toNat = (s.data.toList[i]'h).toNat := fun j hj e => by
    subst e
    rfl
  rw [this _ _ e]
theorem size_list (s : ByteArray) : s.size = s.data.toList.length := (Array.length_toList).symm
def mkB (l : List UInt8) : ByteArray := ⟨l.toArray⟩
theorem mkB_list (l : List UInt8) : (mkB l).data.toList = l := rfl
theorem mkB_of (s : ByteArray) : mkB s.data.toList = s := by
  apply ByteArray.ext
  simp [mkB]
theorem mkB_eq {s : ByteArray} {l : List UInt8} (h : s.data.toList = l) : s = mkB l := by rw [← h, mkB_of]
def spl (c : UInt8) : List UInt8 → List UInt8 → List (List UInt8)
  | cur, [] => [cur]
  | cur, x :: t => if x = c then cur :: spl c [] t else spl c (cur ++ [x]) t
theorem spl_cur (c : UInt8) : ∀ (t cur : List UInt8), ∃ h r, spl c [] t = h :: r ∧ spl c cur t = (cur ++ h) :: r
  | [], cur => ⟨[], [], rfl, by simp [spl]⟩
  | x :: t, cur => by
    by_cases hx : x = c
    · exact ⟨[], spl c [] t, by rw [spl, if_pos hx], by rw [spl, if_pos hx, List.append_nil]⟩
    · obtain ⟨h1, r1, e1, e2⟩ := spl_cur c t [x]
      obtain ⟨h2, r2, e3, e4⟩ := spl_cur c t (cur ++ [x])
      rw [e1] at e3
      injection e3 with g1 g2
      subst g1 g2
      refine ⟨[x] ++ h1, r1, ?_, ?_⟩
      · rw [spl, if_neg hx, List.nil_append, e2]
      · rw [spl, if_neg hx, e4, List.append_assoc]
theorem splitK_spl (c : UInt8) : ∀ (l : List UInt8), Lib.splitK [c] 0 (Lib.count l [c]) l = spl c [] l
  | [] => by
    unfold spl
    cases h : Lib.count [] [c] with
    | zero => rfl
    | succ n =>
      rw [Lib.count_one] at h
      simp at h
  | b :: l => by
    have ih := splitK_spl c l
    by_cases hb : b = c
    · subst hb
      rw [Lib.count_cons_eq, show 1 + Lib.count l [b] = Lib.count l [b] + 1 from Nat.add_comm _ _, Lib.splitK]
      have e : Lib.index (b :: l) [b] = 0 := Lib.index_first (i := 0) (Nat.zero_le _) (by simp [Lib.occAt, List.isPrefixOf]) (fun _ h => absurd h (Nat.not_lt_zero _))
      rw [e, if_neg (by decide), spl, if_pos rfl]
      show [] :: Lib.splitK [b] 0 (Lib.count l [b]) l = _
      rw [ih]
    · rw [Lib.count_cons_ne b c l hb, spl, if_neg hb, List.nil_append]
      obtain ⟨h, r, e1, e2⟩ := spl_cur c l [b]
      rw [e2]
      rw [e1] at ih
      have hno : ∀ j : Nat, Lib.occAt (b :: l) [c] (j + 1) = Lib.occAt l [c] j := fun j => rfl
      have hz : Lib.occAt (b :: l) [c] 0 = false := by
        unfold Lib.occAt
        simp [List.isPrefixOf]
        exact fun e => hb e.symm
      have hidx : Lib.index (b :: l) [c] = if Lib.index l [c] == -1 then -1 else Lib.index l [c] + 1 := by
        have := Lib.index_drop (s := b :: l) (sub := [c]) (i := 1) (fun j hj => by obtain rfl : j = 0 := (by omega); exact hz) (by simp)
        simpa using this
      cases hn : Lib.count l [c] with
      | zero =>
        rw [hn, Lib.splitK] at ih
        injection ih with g1 g2
        subst g1 g2
        rfl
      | succ n =>
        rw [hn, Lib.splitK] at ih
        rw [Lib.splitK, hidx]
        by_cases hi : (Lib.index l [c] == -1) = true
        · rw [if_pos hi] at ih ⊢
          injection ih with g1 g2
          subst g1 g2
          rfl
        · have hge := Lib.index_ge l [c]
          have hne : Lib.index l [c] ≠ -1 := fun e => hi (beq_iff_eq.2 e)
          rw [if_neg hi] at ih ⊢
          injection ih with g1 g2
          rw [if_neg (by rw [beq_iff_eq]; omega)]
          have e3 : (Lib.index l [c] + 1).toNat = (Lib.index l [c]).toNat + 1 := by omega
          rw [e3, ← g1, ← g2]
          rfl
theorem split_eq (s : ByteArray) (c : UInt8) (hs : s.size < 4294967281) : strings_Split.f s (⟨#[c]⟩ : ByteArray) = some ((spl c [] s.data.toList).map mkB) := by
  unfold strings_Split.f
  rw [if_pos hs, if_pos (show 1 ≤ (⟨#[c]⟩ : ByteArray).size from Nat.le_refl 1)]
  congr 1
  have h := Lib.splitB_data (⟨#[c]⟩ : ByteArray) 0 (Lib.countB s ⟨#[c]⟩) s
  have h2 : Lib.splitK [c] 0 (Lib.countB s ⟨#[c]⟩) s.data.toList = spl c [] s.data.toList := splitK_spl c s.data.toList
  have h3 : (Lib.splitB ⟨#[c]⟩ 0 (Lib.countB s ⟨#[c]⟩) s).map (·.data.toList) = spl c [] s.data.toList := h.trans h2
  rw [← h3, List.map_map]
  have : (mkB ∘ fun x : ByteArray => x.data.toList) = id := by
    funext x
    exact mkB_of x
  rw [this, List.map_id]
theorem bt_u8 (s : ByteArray) (i : Nat) (h : i < s.data.toList.length) (c : UInt8) : bt s (i : Int) = ((c.toNat : Nat) : Int) ↔ s.data.toList[i]'h = c := by
  rw [bt_list s i h]
  constructor
  · intro e; apply UInt8.toNat_inj.1; omega
  · intro e; rw [e]
theorem rdOf_mk (L : List (List UInt8)) (i : Nat) (h : i < L.length) : rdOf ByteArray.empty (L.map mkB) (i : Int) = mkB (L[i]'h) := by
  unfold rdOf
  rw [Int.toNat_natCast, List.getD_eq_getElem?_getD, List.getElem?_map, List.getElem?_eq_getElem h]
  rfl
def numL : List UInt8 → Nat → Option Nat
  | [], n => some n
  | c :: t, n => if 48 ≤ c.toNat ∧ c.toNat ≤ 57 then numL t (10 * n + (c.toNat - 48)) else none
def canL (l : List UInt8) : Bool := !(l == []) && !(decide (1 < l.length) && l.head? == some 48)
def decL (l : List UInt8) : Option Nat := if canL l = true then numL l 0 else none
theorem bt0 (s : ByteArray) (h : 0 < s.data.toList.length) : bt s 0 = 48 ↔ s.data.toList.head? = some 48 := by
  have := bt_u8 s 0 h 48
  rw [show ((0 : Nat) : Int) = 0 from rfl, show (((48 : UInt8).toNat : Nat) : Int) = 48 from rfl] at this
  rw [this]
  rw [List.head?_eq_getElem?, List.getElem?_eq_getElem h]
  simp
theorem can_iff (l : List UInt8) : canL l = true ↔ l ≠ [] ∧ ¬ (1 < l.length ∧ l.head? = some 48) := by
  unfold canL
  rw [Bool.and_eq_true, Bool.not_eq_true', Bool.not_eq_true', beq_eq_false_iff_ne, Bool.and_eq_false_iff, decide_eq_false_iff_not, beq_eq_false_iff_ne]
  constructor
  · rintro ⟨h1, h2 | h2⟩
    · exact ⟨h1, fun h => h2 h.1⟩
    · exact ⟨h1, fun h => h2 h.2⟩
  · rintro ⟨h1, h2⟩
    refine ⟨h1, ?_⟩
    by_cases h : 1 < l.length
    · exact .inr (fun e => h2 ⟨h, e⟩)
    · exact .inl h
theorem cut_eq (s : ByteArray) (sep : ByteArray) (hs : s.size < 4294967281) : strings_Cut.f s sep = some (mkB (Lib.cut s.data.toList sep.data.toList).1, mkB (Lib.cut s.data.toList sep.data.toList).2.1, (Lib.cut s.data.toList sep.data.toList).2.2) := by
  unfold strings_Cut.f
  rw [if_pos hs]
  rfl
theorem spl_mem (c : UInt8) : ∀ (l cur : List UInt8), ∀ x ∈ spl c cur l, x.length ≤ cur.length + l.length
  | [], cur, x, hx => by
    rw [spl] at hx
    rw [List.mem_singleton.1 hx]
    omega
  | y :: t, cur, x, hx => by
    rw [spl] at hx
    split at hx
    · rcases List.mem_cons.1 hx with rfl | h
      · omega
      · have := spl_mem c t [] x h
        simp at this ⊢
        omega
    · have := spl_mem c t (cur ++ [y]) x hx
      simp at this ⊢
      omega
def jn (c : UInt8) : List (List UInt8) → List UInt8
  | [] => []
  | x :: t => x ++ (t.map (c :: ·)).flatten
end Go.Proofs.YtbimdjciacnioaaDoor.Q
end

section
set_option linter.unusedVariables false
set_option linter.unusedSimpArgs false
namespace Go.Proofs.YtbimdjciacnioaaDoor.Q
open Go.RowKit Go.Proofs.YtbimdjciacnioaaDoorW.PrintWords Go.Proofs.YtbimdjciacnioaaDoorW.PrintLast Go.Proofs.YtbimdjciacnioaaDoorW.PrintMore
attribute [local go_sem] max2_int min2_int max_two min_two
def pnum (l : List UInt8) : Int × Bool := match decL l with | none => (0, false) | some v => (((min v 65536 : Nat) : Int), true)
def pnumR (r : Option Nat) : Int × Bool := match r with | none => (0, false) | some v => (((min v 65536 : Nat) : Int), true)
structure NumI (l : List UInt8) (gg i m : Nat) (r : Option Nat) : Prop where
  fuel : l.length - i ≤ gg
  le : i ≤ l.length
  val : ∃ n, m = min n 65536 ∧ numL (l.drop i) n = r
theorem NumI.fin {l : List UInt8} {gg i m : Nat} {r : Option Nat} (h : NumI l gg i m r) (hi : ¬ i < l.length) : pnumR r = ((m : Int), true) := by
  obtain ⟨n, h1, h2⟩ := h.val
  rw [List.drop_of_length_le (by omega), numL] at h2
  rw [← h2, h1]
  rfl
theorem NumI.bad {l : List UInt8} {gg i m : Nat} {r : Option Nat} (h : NumI l gg i m r) (hi : i < l.length) (hc : ¬ (48 ≤ (l[i]).toNat ∧ (l[i]).toNat ≤ 57)) : pnumR r = (0, false) := by
  obtain ⟨n, h1, h2⟩ := h.val
  rw [List.drop_eq_getElem_cons hi, numL, if_neg hc] at h2
  rw [← h2]
  rfl
theorem NumI.on {l : List UInt8} {gg i m c : Nat} {r : Option Nat} (h : NumI l gg i m r) (hi : i < l.length) (hl : (l[i]).toNat = c) (h1 : 48 ≤ c) (h2 : c ≤ 57) : ∃ g, gg = g + 1 ∧ NumI l g (i + 1) (min (10 * m + (c - 48)) 65536) r := by
  obtain ⟨n, e1, e2⟩ := h.val
  have hf := h.fuel
  obtain ⟨g, rfl⟩ : ∃ g, gg = g + 1 := ⟨gg - 1, by omega⟩
  refine ⟨g, rfl, by omega, by omega, 10 * n + (c - 48), ?_, ?_⟩
  · rw [e1]; omega
  · rw [List.drop_eq_getElem_cons hi, numL, hl, if_pos ⟨h1, h2⟩] at e2
    exact e2
theorem NumI.small {l : List UInt8} {gg i m : Nat} {r : Option Nat} (h : NumI l gg i m r) : m ≤ 65536 := by
  obtain ⟨n, e1, _⟩ := h.val
  omega
theorem u8_at (s : ByteArray) (i : Nat) (h : i < s.size) (h2 : i < s.data.toList.length) : (s[i]'h).toNat = (s.data.toList[i]'h2).toNat := rfl
theorem c_lt {c : Nat} (h1 : 48 ≤ c) : decide ((c : Int) < 48) = false := decide_eq_false (by omega)
theorem c_gt {c : Nat} (h2 : c ≤ 57) : decide ((c : Int) > 57) = false := decide_eq_false (by omega)
theorem c_lt' {c : Nat} (h1 : ¬ 48 ≤ c) : decide ((c : Int) < 48) = true := decide_eq_true (by omega)
theorem c_gt' {c : Nat} (h2 : ¬ c ≤ 57) : decide ((c : Int) > 57) = true := decide_eq_true (by omega)
theorem rune_bad (s : ByteArray) (i : Nat) (h : i < s.size) (hc : ¬ (48 ≤ (s[i]'h).toNat ∧ (s[i]'h).toNat ≤ 57)) : ∃ x : Nat, (Utf8.decode s i).1 = x ∧ ¬ (48 ≤ x ∧ x ≤ 57) := by
  by_cases ha : (s[i]'h).toNat < 128
  · exact ⟨_, rfl, by rw [decode_ascii s i h ha]; exact hc⟩
  · have := (decode_high s i h (by omega)).1
    exact ⟨_, rfl, by omega⟩
theorem num_val {m c : Nat} (hm : m ≤ 65536) (h1 : 48 ≤ c) (h2 : c ≤ 57) : wrap64 (wrap64 (10 * (m : Int)) + wrap64 (wrap32 ((c : Int) - 48))) = ((10 * m + (c - 48) : Nat) : Int) := by
  have e1 : wrap32 ((c : Int) - 48) = ((c - 48 : Nat) : Int) := by unfold wrap32; omega
  rw [e1, wid (x := 10 * (m : Int)) (by omega) (by omega), wid (x := ((c - 48 : Nat) : Int)) (by omega) (by omega), wid (by omega) (by omega)]
  omega
theorem num_next {m c : Nat} (hm : m ≤ 65536) (h1 : 48 ≤ c) (h2 : c ≤ 57) : ((65536 < wrap64 (wrap64 (10 * (m : Int)) + wrap64 (wrap32 ((c : Int) - 48)))) = True ∧ (65536 : Int) = ((min (10 * m + (c - 48)) 65536 : Nat) : Int)) ∨ ((65536 < wrap64 (wrap64 (10 * (m : Int)) + wrap64 (wrap32 ((c : Int) - 48)))) = False ∧ wrap64 (wrap64 (10 * (m : Int)) + wrap64 (wrap32 ((c : Int) - 48))) = ((min (10 * m + (c - 48)) 65536 : Nat) : Int)) := by
  rw [num_val hm h1 h2]
  by_cases h : 65536 < 10 * m + (c - 48)
  · exact .inl ⟨eq_true (by omega), by omega⟩
  · exact .inr ⟨eq_false (by omega), by omega⟩
set_option maxHeartbeats 4000000 in
set_option maxRecDepth 100000 in
theorem number_walk (s : ByteArray) (w : World) (hc : canL s.data.toList = true) : Calls Tryd.prog 46 #[.string s] w fun e w' => e = .returned (.tuple #[.int .i64 (pnum s.data.toList).1, .bool (pnum s.data.toList).2]) ∧ Below w.heap.size w w' := by
  obtain ⟨hne, h48⟩ := (can_iff _).1 hc
  have hpos := List.length_pos_iff.2 hne
  have hp : pnum s.data.toList = pnumR (numL s.data.toList 0) := by unfold pnum pnumR decL; rw [if_pos hc]
  obtain ⟨r, hr⟩ : ∃ r, numL s.data.toList 0 = r := ⟨_, rfl⟩
  rw [hp, hr]
  have H0 : Aside0 (NumI s.data.toList s.data.toList.length 0 0 r) := ⟨⟨by omega, by omega, 0, rfl, by rw [List.drop_zero]; exact hr⟩⟩
  have ho1 : (s.toList == ([] : List UInt8)) = false := beq_eq_false_iff_ne.mpr (fun e => hne ((ByteArray.toList_eq s).symm.trans e))
  have ho2 : (s.toList != ([] : List UInt8)) = true := bne_iff_ne.mpr (fun e => hne ((ByteArray.toList_eq s).symm.trans e))
  have hcase : decide ((s.size : Int) > 1) = false ∨ (decide ((s.size : Int) > 1) = true ∧ (bt s 0 == 48) = false) := by
    by_cases h : (s.size : Int) > 1
    · exact .inr ⟨decide_eq_true h, beq_eq_false_iff_ne.mpr (fun e => h48 ⟨by rw [size_list] at h; omega, (bt0 s hpos).1 e⟩)⟩
    · exact .inl (decide_eq_false h)
  have HX := Aside0.mk hcase
  have HS : Aside0 (0 < s.size) := ⟨by rw [size_list]; exact hpos⟩
  clear hp hr hc hne h48 hpos hcase
  go_enter Tryd.func46, Tryd.ntmps46
  have hx0 : ∀ h : 0 < s.size, ((s[0]'h).toNat : Int) = bt s 0 := bt_at s 0
  have hz0 : 0 < s.size := HS.out
  have hz1 : (0 < s.size) = True := eq_true hz0
  have HB0 : Aside0 (∀ i, Below w.heap.size w (w.iter s i)) := ⟨fun i => below_alloc (Below.refl _ _) _⟩
  rcases HX.out with h1 | ⟨h1, h2⟩
  all_goals
    go_upto_region 5 with (fail)
    clear ho1 ho2 hx0 hz0 hz1 h1
    try clear h2
    go_loopg [4] s.data.toList.length (fun gg v4 wr => ∃ (i m : Nat), v4 = .int .i64 (m : Int) ∧ Aside0 (NumI s.data.toList gg i m r) ∧ wr = w.iter s i)
    case atStart => exact ⟨0, 0, rfl, H0, rfl⟩
    case round =>
      obtain ⟨i, m, rfl, HN, hwr⟩ := hrel
      rw [hwr]
      clear hwr H0
      by_cases hi : i < s.data.toList.length
      · have hsz : i < s.size := by rw [size_list]; exact hi
        obtain ⟨c, hcc⟩ : ∃ c, (s.data.toList[i]).toNat = c := ⟨_, rfl⟩
        have hu := (u8_at s i hsz hi).trans hcc
        by_cases hc : 48 ≤ c ∧ c ≤ 57
        · have hnx : ∀ ty, (Instr.next (.pointer (some ⟨w.heap.size, 0, none⟩)) true ty).run Tryd.prog (w.iter s i) = .ok (.tuple #[.bool true, .int .i64 i, .int .i32 (c : Int)]) (w.iter s (i + 1)) := fun ty => by
            rw [run_next_ascii w s i ty hsz (by rw [hu]; omega), hu]
          obtain ⟨g, hg, HN2⟩ := HN.out.on hi hcc hc.1 hc.2
          subst hg
          have HN2 := Aside0.mk HN2
          have HM := Aside0.mk HN.out.small
          have h1 := c_lt hc.1
          have h2 := c_gt hc.2
          have HC := Aside0.mk hc
          clear HN hc hcc hu hi hsz
          rcases num_next HM.out HC.out.1 HC.out.2 with ⟨hq, he⟩ | ⟨hq, he⟩
          all_goals
            have HE := Aside0.mk he
            clear he
            go_wp2_with fail
            go_roundg g
            case measure => exact Nat.lt_succ_self g
            case rel => exact ⟨i + 1, _, congrArg (Value.int .i64) HE.out, HN2, rfl⟩
        · have hbad := HN.out.bad hi (by rw [hcc]; exact hc)
          have hany := rune_bad s i hsz (fun h => hc (by rw [← hu]; exact h))
          obtain ⟨x, hx, hx2⟩ := hany
          have hnx : ∀ ty, (Instr.next (.pointer (some ⟨w.heap.size, 0, none⟩)) true ty).run Tryd.prog (w.iter s i) = .ok (.tuple #[.bool true, .int .i64 i, .int .i32 (x : Int)]) (w.iter s (i + (Utf8.decode s i).2)) := fun ty => by
            rw [run_next_any w s i ty hsz, hx]
          have HD := Aside0.mk hbad
          clear HN hc hcc hu hi hsz hx hbad
          by_cases hx48 : 48 ≤ x
          · have h1 := c_lt hx48
            have h2 := c_gt' (fun h => hx2 ⟨hx48, h⟩)
            clear hx48 hx2
            go_wp2_with fail
            exact bodyPost_ret (v := .tuple #[.int .i64 0, .bool false]) (by simp [results, Tryd.results46, go_sem]) rfl ⟨by rw [HD.out], HB0.out _⟩
          · have h1 := c_lt' hx48
            clear hx48 hx2
            go_wp2_with fail
            exact bodyPost_ret (v := .tuple #[.int .i64 0, .bool false]) (by simp [results, Tryd.results46, go_sem]) rfl ⟨by rw [HD.out], HB0.out _⟩
      · have hend : ¬ i < s.size := by rw [size_list]; exact hi
        have hnx : ∀ ty, (Instr.next (.pointer (some ⟨w.heap.size, 0, none⟩)) true ty).run Tryd.prog (w.iter s i) = .ok (.tuple #[.bool false]) (w.iter s i) := fun ty => run_next_end w s i ty hend
        have HD := Aside0.mk (HN.out.fin hi)
        clear HN hi hend
        go_wp2_with fail
        exact bodyPost_ret (v := .tuple #[.int .i64 (m : Int), .bool true]) (by simp [results, Tryd.results46, go_sem]) rfl ⟨by rw [HD.out], HB0.out _⟩
def portset_number.f (s : ByteArray) : Option (Int × Bool) := some (pnum s.data.toList)
set_option maxHeartbeats 4000000 in
set_option maxRecDepth 100000 in
theorem number_bad (s : ByteArray) (w : World) (hc : ¬ canL s.data.toList = true) : Calls Tryd.prog 46 #[.string s] w fun e w' => e = .returned (.tuple #[.int .i64 0, .bool false]) ∧ Below w.heap.size w w' := by
  by_cases hn : s.data.toList = []
  · have ho1 : (s.toList == ([] : List UInt8)) = true := beq_iff_eq.mpr ((ByteArray.toList_eq s).trans hn)
    have ho2 : (s.toList != ([] : List UInt8)) = false := bne_eq_false_iff_eq.mpr ((ByteArray.toList_eq s).trans hn)
    clear hn hc
    go_enter Tryd.func46, Tryd.ntmps46
    go_wp2_with fail
    exact bodyPost_ret (v := .tuple #[.int .i64 0, .bool false]) (by simp [results, Tryd.results46, go_sem]) rfl ⟨rfl, Below.refl _ _⟩
  · have hpos := List.length_pos_iff.2 hn
    have h48 : 1 < s.data.toList.length ∧ s.data.toList.head? = some 48 := by
      by_cases h : 1 < s.data.toList.length ∧ s.data.toList.head? = some 48
      · exact h
      · exact absurd ((can_iff _).2 ⟨hn, h⟩) hc
    have ho1 : (s.toList == ([] : List UInt8)) = false := beq_eq_false_iff_ne.mpr (fun e => hn ((ByteArray.toList_eq s).symm.trans e))
    have ho2 : (s.toList != ([] : List UInt8)) = true := bne_iff_ne.mpr (fun e => hn ((ByteArray.toList_eq s).symm.trans e))
    have h1 : decide ((s.size : Int) > 1) = true := decide_eq_true (by rw [size_list]; omega)
    have h2 : (bt s 0 == 48) = true := beq_iff_eq.mpr ((bt0 s hpos).2 h48.2)
    have hx0 : ∀ h : 0 < s.size, ((s[0]'h).toNat : Int) = bt s 0 := bt_at s 0
    have hz0 : 0 < s.size := by rw [size_list]; exact hpos
    have hz1 : (0 < s.size) = True := eq_true hz0
    clear hpos h48 hn hc
    go_enter Tryd.func46, Tryd.ntmps46
    go_wp2_with fail
    exact bodyPost_ret (v := .tuple #[.int .i64 0, .bool false]) (by simp [results, Tryd.results46, go_sem]) rfl ⟨rfl, Below.refl _ _⟩
theorem portset_number.calls (s : ByteArray) (r1 : Int) (r2 : Bool) (w : World) (h : portset_number.f s = some (r1, r2)) :
    Calls Tryd.prog 46 #[.string s] w fun e w' => e = .returned (.tuple #[.int .i64 r1, .bool r2]) ∧ Below w.heap.size w w' := by
  unfold portset_number.f at h
  injection h with h
  have e1 : r1 = (pnum s.data.toList).1 := by rw [h]
  have e2 : r2 = (pnum s.data.toList).2 := by rw [h]
  subst e1 e2
  by_cases hc : canL s.data.toList = true
  · exact number_walk s w hc
  · have hp : pnum s.data.toList = (0, false) := by unfold pnum decL; rw [if_neg hc]
    rw [hp]
    exact number_bad s w hc
end Go.Proofs.YtbimdjciacnioaaDoor.Q
end

section
namespace Go.Proofs.YtbimdjciacnioaaDoor.Q
open Go.RowKit Go.Proofs.YtbimdjciacnioaaDoorW.PrintWords Go.Proofs.YtbimdjciacnioaaDoorW.PrintLast Go.Proofs.YtbimdjciacnioaaDoorW.PrintMore
attribute [local go_sem] max2_int min2_int max_two min_two max_three min_three max_four min_four
set_option linter.unusedVariables false
set_option linter.unusedSimpArgs false
mutual
def portset_item.j1 : Nat → ByteArray → ByteArray → Option (Int × Int × Int)
  | 0, _, _ => none
  | k + 1, x4, x5 => (portset_number.f x4).bind fun bt182 => ((portset_number.f x5).bind fun bt184 => (if bt182.2 = true then (portset_item.j2 k bt182.1 bt184.1 (!bt184.2)) else (portset_item.j2 k bt182.1 bt184.1 true)))
def portset_item.j2 : Nat → Int → Int → Bool → Option (Int × Int × Int)
  | 0, _, _, _ => none
  | k + 1, x7, x9, x48 => if x48 = true then (some (0, 0, 14)) else (if x7 > 65535 then (some (0, 0, 4)) else (if x9 > 65535 then (some (0, 0, 4)) else (if x7 > x9 then (some (0, 0, 4)) else (some (x7, x9, 0)))))
def portset_item.j0 : Nat → ByteArray → ByteArray → Bool → Option (Int × Int × Int)
  | 0, _, _, _ => none
  | k + 1, x4, x5, x25 => if x25 = true then (portset_item.j1 k (⟨#[48]⟩ : ByteArray) x5) else (if x5.toList = ([] : List UInt8) then (if x4.toList = ([] : List UInt8) then (portset_item.j1 k x4 x5) else ((strconv_Itoa.f 65535).bind fun t181 => (portset_item.j1 k x4 t181))) else (portset_item.j1 k x4 x5))
end
def portset_item.f (k : Nat) (a0 : ByteArray) : Option (Int × Int × Int) := (strings_Cut.f a0 (⟨#[58]⟩ : ByteArray)).bind fun bt178 => (if bt178.2.2 = true then (if bt178.1.toList = ([] : List UInt8) then (portset_item.j0 k bt178.1 bt178.2.1 (bt178.2.1.toList != ([] : List UInt8))) else (portset_item.j0 k bt178.1 bt178.2.1 false)) else (portset_item.j1 k bt178.1 bt178.1))
theorem portset_item.mono_l : ∀ k, (∀ y0 y1, LeO (portset_item.j1 k y0 y1) (portset_item.j1 (k + 1) y0 y1)) ∧ (∀ y0 y1 y2, LeO (portset_item.j2 k y0 y1 y2) (portset_item.j2 (k + 1) y0 y1 y2)) ∧ (∀ y0 y1 y2, LeO (portset_item.j0 k y0 y1 y2) (portset_item.j0 (k + 1) y0 y1 y2))
  | 0 => ⟨fun _ _ r h => by simp [portset_item.j1] at h, fun _ _ _ r h => by simp [portset_item.j2] at h, fun _ _ _ r h => by simp [portset_item.j0] at h⟩
  | k + 1 => by
    obtain ⟨ih0, ih1, ih2⟩ := portset_item.mono_l k
    refine ⟨?_, ?_, ?_⟩
    · intro y0 y1
      unfold portset_item.j1
      repeat' first
      | (with_reducible exact ih0 _ _)
      | (with_reducible exact ih1 _ _ _)
      | (with_reducible exact ih2 _ _ _)
      | (with_reducible exact LeO.refl _)
      | (with_reducible exact LeO.none _)
      | (with_reducible refine LeO.ite ?_ ?_)
      | (with_reducible refine LeO.bind ?_ (fun _ => ?_))
      | exact ih0 _ _
      | exact ih1 _ _ _
      | exact ih2 _ _ _
      | exact LeO.none _
      | refine LeO.ite ?_ ?_
      | refine LeO.bind ?_ (fun _ => ?_)
    · intro y0 y1 y2
      unfold portset_item.j2
      repeat' first
      | (with_reducible exact ih0 _ _)
      | (with_reducible exact ih1 _ _ _)
      | (with_reducible exact ih2 _ _ _)
      | (with_reducible exact LeO.refl _)
      | (with_reducible exact LeO.none _)
      | (with_reducible refine LeO.ite ?_ ?_)
      | (with_reducible refine LeO.bind ?_ (fun _ => ?_))
      | exact ih0 _ _
      | exact ih1 _ _ _
      | exact ih2 _ _ _
      | exact LeO.none _
      | refine LeO.ite ?_ ?_
      | refine LeO.bind ?_ (fun _ => ?_)
    · intro y0 y1 y2
      unfold portset_item.j0
      repeat' first
      | (with_reducible exact ih0 _ _)
      | (with_reducible exact ih1 _ _ _)
      | (with_reducible exact ih2 _ _ _)
      | (with_reducible exact LeO.refl _)
      | (with_reducible exact LeO.none _)
      | (with_reducible refine LeO.ite ?_ ?_)
      | (with_reducible refine LeO.bind ?_ (fun _ => ?_))
      | exact ih0 _ _
      | exact ih1 _ _ _
      | exact ih2 _ _ _
      | exact LeO.none _
      | refine LeO.ite ?_ ?_
      | refine LeO.bind ?_ (fun _ => ?_)
theorem portset_item.mono : ∀ a0 k, LeO (portset_item.f k a0) (portset_item.f (k + 1) a0) := by
  intro a0 k
  obtain ⟨ih0, ih1, ih2⟩ := portset_item.mono_l k
  unfold portset_item.f
  repeat' first
      | (with_reducible exact ih0 _ _)
      | (with_reducible exact ih1 _ _ _)
      | (with_reducible exact ih2 _ _ _)
      | (with_reducible exact LeO.refl _)
      | (with_reducible exact LeO.none _)
      | (with_reducible refine LeO.ite ?_ ?_)
      | (with_reducible refine LeO.bind ?_ (fun _ => ?_))
      | exact ih0 _ _
      | exact ih1 _ _ _
      | exact ih2 _ _ _
      | exact LeO.none _
      | refine LeO.ite ?_ ?_
      | refine LeO.bind ?_ (fun _ => ?_)
set_option maxHeartbeats 8000000 in
set_option maxRecDepth 100000 in
theorem portset_item.calls (k : Nat) (a0 : ByteArray) (r1 : Int) (r2 : Int) (r3 : Int) (w : World) (h : portset_item.f k a0 = some (r1, r2, r3)) (hW_ : WOK w) :
 Calls Tryd.prog 27 #[.string a0] w fun e w' => e = .returned (.tuple #[.agg #[.int .i64 r1, .int .i64 r2], .int .i64 r3]) ∧ Below w.heap.size w w' := by
 have hu33 := Tryd.underlying33
 have HB := Aside0.mk (Below.refl w.heap.size w)
 unfold portset_item.f at h; have H := h
 clear h
 replace H := Option.bind_eq_some_iff.mp H
 obtain ⟨⟨t178, t179, t180⟩, A20, H⟩ := H
 replace H : (if t180 = true then (if t178.toList = ([] : List UInt8) then (portset_item.j0 k t178 t179 (t179.toList != ([] : List UInt8))) else (portset_item.j0 k t178 t179 false)) else (portset_item.j1 k t178 t178)) = some (r1, r2, r3) := H
 have A2 := Aside0.mk A20
 clear A20
 have HC3 := Aside0.mk H
 clear H
 go_enter Tryd.func27, Tryd.ntmps27
 go_upto_if 18 with (first | ((with_reducible refine gate_dst (N := 2) rfl ?_); refine zx 2 #[.int .i64 0, .int .i64 0] 33 ?_; intro gb177 hg w4 hbox hb; have BK177 := Aside0.mk (hbox); have GW177 := Aside0.mk ((by rw [hg]; exact (below_size (zB HB)) : w.heap.size ≤ gb177)); have GE177 := Aside0.mk ((by rw [hg]; exact (below_size (zB HB)) : w.heap.size ≤ gb177)); replace HB := Aside0.mk (below_step (zB HB) hb); clear hb hbox hg) | ((with_reducible refine gate_callee (f := 45) rfl ?_); refine goesL_ (some 13) rfl rfl Tryd.func45 (by kernel_rfl) rfl #[.string a0, .string (⟨#[58]⟩ : ByteArray)] rfl (by (try simp only [List.map_toArray, List.map_cons, List.map_nil]); first | done | rfl | (simp only [List.length_drop, List.length_take]; rfl)) ?_; (with_reducible refine (strings_Cut.calls a0 (⟨#[58]⟩ : ByteArray) t178 t179 t180 _ A2.out (WOK.below hW_ (zB HB))).mono ?_); rintro e w5 ⟨rfl, hb⟩; refine ⟨_, rfl, ?_⟩; replace BK177 := Aside0.mk (blk_below (g := gb177) (o := .cells #[.int .i64 0, .int .i64 0] 33 (0, 0)) (zK BK177) hb); replace HB := Aside0.mk (below_step (zB HB) hb); (try clear hb)))
 (try simp only [Act.put, List.setIfInBounds_toArray, List.set_cons_zero, List.set_cons_succ])
 go_cut [4, 5] (fun v4 v5 wc => ∃ (kq : Nat) (x4_2 : ByteArray) (x5_2 : ByteArray), v4 = .string x4_2 ∧ v5 = .string x5_2 ∧ Aside0 (portset_item.j1 kq x4_2 x5_2 = some (r1, r2, r3)) ∧ Aside0 (kq ≤ k) ∧ Aside0 (wc.heap[gb177]? = some (.cells #[.int .i64 0, .int .i64 0] 33 (0, 0))) ∧ Aside0 (Below w.heap.size w wc))
 case first =>
  have H := HC3.out
  clear HC3
  by_cases c6 : t180 = true
  · subst c6
    rw [if_pos rfl] at H
    have HC7 := Aside0.mk H
    clear H
    go_upto_region 4 with (fail)
    go_cut [25] (fun v25 wc => ∃ (kq : Nat) (x25_6 : Bool), v25 = .bool x25_6 ∧ Aside0 (portset_item.j0 kq t178 t179 x25_6 = some (r1, r2, r3)) ∧ Aside0 (kq ≤ k) ∧ Aside0 (wc.heap[gb177]? = some (.cells #[.int .i64 0, .int .i64 0] 33 (0, 0))) ∧ Aside0 (Below w.heap.size w wc))
    case first =>
     have H := HC7.out
     clear HC7
     by_cases c8 : t178.toList = ([] : List UInt8)
     · rw [if_pos c8] at H
       have c8b0 : (t178.toList == ([] : List UInt8)) = true := beq_iff_eq.mpr c8
       have c8b1 : (t178.toList != ([] : List UInt8)) = false := bne_eq_false_iff_eq.mpr c8
       clear c8
       (first | rw [c8b0] | (simp only [i64_w, i32_w]; rw [c8b0]) | skip)
       have H' := Aside0.mk H
       clear H
       go_wp2
       go_meet
       case rel => exact ⟨_, ((t179.toList != ([] : List UInt8))), (by first | rfl | (simp; done) | (generalize t179.toList = q_; cases q_ <;> rfl) | (simp [*]; done)), H', ⟨by first | omega | exact Nat.le_refl _⟩, ⟨zK BK177⟩, ⟨zB HB⟩⟩
     · rw [if_neg c8] at H
       have c8b0 : (t178.toList == ([] : List UInt8)) = false := beq_eq_false_iff_ne.mpr c8
       have c8b1 : (t178.toList != ([] : List UInt8)) = true := bne_iff_ne.mpr c8
       (first | rw [c8b0] | (simp only [i64_w, i32_w]; rw [c8b0]) | skip)
       have H' := Aside0.mk H
       clear H
       go_wp2
       go_meet
       case rel => exact ⟨_, (false), (by first | rfl | (simp; done) | (simp [*]; done)), H', ⟨by first | omega | exact Nat.le_refl _⟩, ⟨zK BK177⟩, ⟨zB HB⟩⟩
    case rest =>
     clear HC7
     try clear c2
     try clear p2
     try clear c4
     try clear c6
     try clear c8
     try clear c8b0
     try clear c8b1
     obtain ⟨kq, x25_6, rfl, HA, HJ6, BK177, HB⟩ := hcut
     cases kq with
     | zero => exact absurd HA.out (by simp [portset_item.j0])
     | succ kj6 =>
      have H := HA.out
      clear HA
      simp only [portset_item.j0] at H
      by_cases c9 : x25_6 = true
      · subst c9
        rw [if_pos rfl] at H
        have H' := Aside0.mk H
        clear H
        go_wp2
        go_meet
        case rel => exact ⟨_, ((⟨#[48]⟩ : ByteArray)), (t179), (by first | rfl | (simp; done) | (simp [*]; done)), (by first | rfl | (simp; done) | (simp [*]; done)), H', ⟨by have := HJ6.out; first | omega | exact Nat.le_refl _⟩, ⟨zK BK177⟩, ⟨zB HB⟩⟩
      · replace c9 := Bool.eq_false_iff.mpr c9
        subst c9
        rw [if_neg zF] at H
        by_cases c10 : t179.toList = ([] : List UInt8)
        · rw [if_pos c10] at H
          have c10b0 : (t179.toList == ([] : List UInt8)) = true := beq_iff_eq.mpr c10
          have c10b1 : (t179.toList != ([] : List UInt8)) = false := bne_eq_false_iff_eq.mpr c10
          clear c10
          by_cases c11 : t178.toList = ([] : List UInt8)
          · rw [if_pos c11] at H
            have c11b0 : (t178.toList == ([] : List UInt8)) = true := beq_iff_eq.mpr c11
            have c11b1 : (t178.toList != ([] : List UInt8)) = false := bne_eq_false_iff_eq.mpr c11
            clear c11
            have H' := Aside0.mk H
            clear H
            go_wp2
            go_meet
            case rel => exact ⟨_, (t178), (t179), (by first | rfl | (simp; done) | (simp [*]; done)), (by first | rfl | (simp; done) | (simp [*]; done)), H', ⟨by have := HJ6.out; first | omega | exact Nat.le_refl _⟩, ⟨zK BK177⟩, ⟨zB HB⟩⟩
          · rw [if_neg c11] at H
            have c11b0 : (t178.toList == ([] : List UInt8)) = false := beq_eq_false_iff_ne.mpr c11
            have c11b1 : (t178.toList != ([] : List UInt8)) = true := bne_iff_ne.mpr c11
            replace H := Option.bind_eq_some_iff.mp H
            obtain ⟨t181, A120, H⟩ := H
            replace H : (portset_item.j1 kj6 t178 t181) = some (r1, r2, r3) := H
            have A12 := Aside0.mk A120
            clear A120
            have H' := Aside0.mk H
            clear H
            go_wp2_with (first | ((with_reducible refine gate_callee (f := 31) rfl ?_); refine goesL_ (some 32) rfl rfl Tryd.func31 (by kernel_rfl) rfl #[.int .i64 65535] rfl (by (try simp only [List.map_toArray, List.map_cons, List.map_nil]); first | done | rfl | (simp only [List.length_drop, List.length_take]; rfl)) ?_; (with_reducible refine (strconv_Itoa.calls 65535 t181 _ A12.out (WOK.below hW_ (zB HB))).mono ?_); rintro e w13 ⟨rfl, hb⟩; refine ⟨_, rfl, ?_⟩; replace BK177 := Aside0.mk (blk_below (g := gb177) (o := .cells #[.int .i64 0, .int .i64 0] 33 (0, 0)) (zK BK177) hb); replace HB := Aside0.mk (below_step (zB HB) hb); (try clear hb)))
            go_meet
            case rel => exact ⟨_, (t178), (t181), (by first | rfl | (simp; done) | (simp [*]; done)), (by first | rfl | (simp; done) | (simp [*]; done)), H', ⟨by have := HJ6.out; first | omega | exact Nat.le_refl _⟩, ⟨zK BK177⟩, ⟨zB HB⟩⟩
        · rw [if_neg c10] at H
          have c10b0 : (t179.toList == ([] : List UInt8)) = false := beq_eq_false_iff_ne.mpr c10
          have c10b1 : (t179.toList != ([] : List UInt8)) = true := bne_iff_ne.mpr c10
          have H' := Aside0.mk H
          clear H
          go_wp2
          go_meet
          case rel => exact ⟨_, (t178), (t179), (by first | rfl | (simp; done) | (simp [*]; done)), (by first | rfl | (simp; done) | (simp [*]; done)), H', ⟨by have := HJ6.out; first | omega | exact Nat.le_refl _⟩, ⟨zK BK177⟩, ⟨zB HB⟩⟩
  · replace c6 := Bool.eq_false_iff.mpr c6
    subst c6
    rw [if_neg zF] at H
    have H' := Aside0.mk H
    clear H
    go_wp2
    go_meet
    case rel => exact ⟨_, (t178), (t178), (by first | rfl | (simp; done) | (simp [*]; done)), (by first | rfl | (simp; done) | (simp [*]; done)), H', ⟨by first | omega | exact Nat.le_refl _⟩, ⟨zK BK177⟩, ⟨zB HB⟩⟩
 case rest =>
  clear HC3
  try clear c1
  try clear c2
  try clear p2
  try clear c3
  try clear c4
  try clear c6
  try clear c8
  try clear c8b0
  try clear c8b1
  try clear c9
  try clear c10
  try clear c10b0
  try clear c10b1
  try clear c11
  try clear c11b0
  try clear c11b1
  try clear p2
  obtain ⟨kq, x4_2, x5_2, rfl, rfl, HA, HJ2, BK177, HB⟩ := hcut
  cases kq with
  | zero => exact absurd HA.out (by simp [portset_item.j1])
  | succ kj2 =>
   have H := HA.out
   clear HA
   simp only [portset_item.j1] at H
   replace H := Option.bind_eq_some_iff.mp H
   obtain ⟨⟨t182, t183⟩, A140, H⟩ := H
   replace H : ((portset_number.f x5_2).bind fun bt184 => (if t183 = true then (portset_item.j2 kj2 t182 bt184.1 (!bt184.2)) else (portset_item.j2 kj2 t182 bt184.1 true))) = some (r1, r2, r3) := H
   have A14 := Aside0.mk A140
   clear A140
   replace H := Option.bind_eq_some_iff.mp H
   obtain ⟨⟨t184, t185⟩, A150, H⟩ := H
   replace H : (if t183 = true then (portset_item.j2 kj2 t182 t184 (!t185)) else (portset_item.j2 kj2 t182 t184 true)) = some (r1, r2, r3) := H
   have A15 := Aside0.mk A150
   clear A150
   have HC16 := Aside0.mk H
   clear H
   go_upto_region 10 with (first | ((with_reducible refine gate_callee (f := 46) rfl ?_); refine goesL_ (some 35) rfl rfl Tryd.func46 (by kernel_rfl) rfl #[.string x4_2] rfl (by (try simp only [List.map_toArray, List.map_cons, List.map_nil]); first | done | rfl | (simp only [List.length_drop, List.length_take]; rfl)) ?_; (with_reducible refine (portset_number.calls x4_2 t182 t183 _ A14.out).mono ?_); rintro e w17 ⟨rfl, hb⟩; refine ⟨_, rfl, ?_⟩; replace BK177 := Aside0.mk (blk_below (g := gb177) (o := .cells #[.int .i64 0, .int .i64 0] 33 (0, 0)) (zK BK177) hb); replace HB := Aside0.mk (below_step (zB HB) hb); (try clear hb)) | ((with_reducible refine gate_callee (f := 46) rfl ?_); refine goesL_ (some 40) rfl rfl Tryd.func46 (by kernel_rfl) rfl #[.string x5_2] rfl (by (try simp only [List.map_toArray, List.map_cons, List.map_nil]); first | done | rfl | (simp only [List.length_drop, List.length_take]; rfl)) ?_; (with_reducible refine (portset_number.calls x5_2 t184 t185 _ A15.out).mono ?_); rintro e w18 ⟨rfl, hb⟩; refine ⟨_, rfl, ?_⟩; replace BK177 := Aside0.mk (blk_below (g := gb177) (o := .cells #[.int .i64 0, .int .i64 0] 33 (0, 0)) (zK BK177) hb); replace HB := Aside0.mk (below_step (zB HB) hb); (try clear hb)))
   (try simp only [Act.put, List.setIfInBounds_toArray, List.set_cons_zero, List.set_cons_succ])
   go_cut [48] (fun v48 wc => ∃ (kq : Nat) (x48_15 : Bool), v48 = .bool x48_15 ∧ Aside0 (portset_item.j2 kq t182 t184 x48_15 = some (r1, r2, r3)) ∧ Aside0 (kq ≤ kj2) ∧ Aside0 (wc.heap[gb177]? = some (.cells #[.int .i64 0, .int .i64 0] 33 (0, 0))) ∧ Aside0 (Below w.heap.size w wc))
   case first =>
    have H := HC16.out
    clear HC16
    by_cases c19 : t183 = true
    · subst c19
      rw [if_pos rfl] at H
      have H' := Aside0.mk H
      clear H
      go_wp2
      go_meet
      case rel => exact ⟨_, (!t185), (by first | rfl | (simp; done) | (simp [*]; done)), H', ⟨by have := HJ2.out; first | omega | exact Nat.le_refl _⟩, ⟨zK BK177⟩, ⟨zB HB⟩⟩
    · replace c19 := Bool.eq_false_iff.mpr c19
      subst c19
      rw [if_neg zF] at H
      have H' := Aside0.mk H
      clear H
      go_wp2
      go_meet
      case rel => exact ⟨_, (true), (by first | rfl | (simp; done) | (simp [*]; done)), H', ⟨by have := HJ2.out; first | omega | exact Nat.le_refl _⟩, ⟨zK BK177⟩, ⟨zB HB⟩⟩
   case rest =>
    clear HC16
    try clear c1
    try clear c2
    try clear p2
    try clear c3
    try clear c4
    try clear c6
    try clear c8
    try clear c8b0
    try clear c8b1
    try clear c9
    try clear c10
    try clear c10b0
    try clear c10b1
    try clear c11
    try clear c11b0
    try clear c11b1
    try clear c19
    try clear p2
    obtain ⟨kq, x48_15, rfl, HA, HJ15, BK177, HB⟩ := hcut
    cases kq with
    | zero => exact absurd HA.out (by simp [portset_item.j2])
    | succ kj15 =>
     have H := HA.out
     clear HA
     simp only [portset_item.j2] at H
     by_cases c20 : x48_15 = true
     · subst c20
       rw [if_pos rfl] at H
       simp only [Option.some.injEq, Prod.mk.injEq] at H
       obtain ⟨rfl, rfl, rfl⟩ := H
       obtain ⟨hcz21_0, hcz21_1⟩ := zc2 BK177
       obtain ⟨hfz21_0, hfz21_1⟩ := zf2 BK177
       go_wp2
       refine bodyPost_ret (results_ct rfl _ _ gb177 33 #[.int .i64 0, .int .i64 0] (0, 0) _ rfl (by refine zL ?_; refine blk_put (cs := #[.int .i64 0, .int .i64 0]) ?_ 1 _ rfl; refine zL ?_; refine blk_put (cs := #[.int .i64 0, .int .i64 0]) ?_ 0 _ rfl; refine zL ?_; exact BK177.out) Tryd.underlying33 rfl (by kernel_rfl)) rfl ?_
       exact ⟨by first | rfl | (simp [errW_none, errW_some] <;> rfl) | (simp [*, errW_none, errW_some] <;> rfl), by repeat (first | (with_reducible first | exact HB.out | apply below_alloc | apply pw_below_drewN | apply below_drew1 | refine below_set ?_ GE177.out) | exact HB.out)⟩
     · replace c20 := Bool.eq_false_iff.mpr c20
       subst c20
       rw [if_neg zF] at H
       by_cases c22 : t182 > 65535
       · rw [if_pos c22] at H
         have c22b0 : decide (65535 < t182) = true := decide_eq_true c22
         clear c22
         simp only [Option.some.injEq, Prod.mk.injEq] at H
         obtain ⟨rfl, rfl, rfl⟩ := H
         obtain ⟨hcz23_0, hcz23_1⟩ := zc2 BK177
         obtain ⟨hfz23_0, hfz23_1⟩ := zf2 BK177
         go_wp2
         refine bodyPost_ret (results_ct rfl _ _ gb177 33 #[.int .i64 0, .int .i64 0] (0, 0) _ rfl (by refine zL ?_; refine blk_put (cs := #[.int .i64 0, .int .i64 0]) ?_ 1 _ rfl; refine zL ?_; refine blk_put (cs := #[.int .i64 0, .int .i64 0]) ?_ 0 _ rfl; refine zL ?_; exact BK177.out) Tryd.underlying33 rfl (by kernel_rfl)) rfl ?_
         exact ⟨by first | rfl | (simp [errW_none, errW_some] <;> rfl) | (simp [*, errW_none, errW_some] <;> rfl), by repeat (first | (with_reducible first | exact HB.out | apply below_alloc | apply pw_below_drewN | apply below_drew1 | refine below_set ?_ GE177.out) | exact HB.out)⟩
       · rw [if_neg c22] at H
         have c22b0 : decide (65535 < t182) = false := decide_eq_false c22
         clear c22
         by_cases c24 : t184 > 65535
         · rw [if_pos c24] at H
           have c24b0 : decide (65535 < t184) = true := decide_eq_true c24
           clear c24
           simp only [Option.some.injEq, Prod.mk.injEq] at H
           obtain ⟨rfl, rfl, rfl⟩ := H
           obtain ⟨hcz25_0, hcz25_1⟩ := zc2 BK177
           obtain ⟨hfz25_0, hfz25_1⟩ := zf2 BK177
           go_wp2
           refine bodyPost_ret (results_ct rfl _ _ gb177 33 #[.int .i64 0, .int .i64 0] (0, 0) _ rfl (by refine zL ?_; refine blk_put (cs := #[.int .i64 0, .int .i64 0]) ?_ 1 _ rfl; refine zL ?_; refine blk_put (cs := #[.int .i64 0, .int .i64 0]) ?_ 0 _ rfl; refine zL ?_; exact BK177.out) Tryd.underlying33 rfl (by kernel_rfl)) rfl ?_
           exact ⟨by first | rfl | (simp [errW_none, errW_some] <;> rfl) | (simp [*, errW_none, errW_some] <;> rfl), by repeat (first | (with_reducible first | exact HB.out | apply below_alloc | apply pw_below_drewN | apply below_drew1 | refine below_set ?_ GE177.out) | exact HB.out)⟩
         · rw [if_neg c24] at H
           have c24b0 : decide (65535 < t184) = false := decide_eq_false c24
           clear c24
           by_cases c26 : t182 > t184
           · rw [if_pos c26] at H
             have c26b0 : decide (t184 < t182) = true := decide_eq_true c26
             clear c26
             simp only [Option.some.injEq, Prod.mk.injEq] at H
             obtain ⟨rfl, rfl, rfl⟩ := H
             obtain ⟨hcz27_0, hcz27_1⟩ := zc2 BK177
             obtain ⟨hfz27_0, hfz27_1⟩ := zf2 BK177
             go_wp2
             refine bodyPost_ret (results_ct rfl _ _ gb177 33 #[.int .i64 0, .int .i64 0] (0, 0) _ rfl (by refine zL ?_; refine blk_put (cs := #[.int .i64 0, .int .i64 0]) ?_ 1 _ rfl; refine zL ?_; refine blk_put (cs := #[.int .i64 0, .int .i64 0]) ?_ 0 _ rfl; refine zL ?_; exact BK177.out) Tryd.underlying33 rfl (by kernel_rfl)) rfl ?_
             exact ⟨by first | rfl | (simp [errW_none, errW_some] <;> rfl) | (simp [*, errW_none, errW_some] <;> rfl), by repeat (first | (with_reducible first | exact HB.out | apply below_alloc | apply pw_below_drewN | apply below_drew1 | refine below_set ?_ GE177.out) | exact HB.out)⟩
           · rw [if_neg c26] at H
             have c26b0 : decide (t184 < t182) = false := decide_eq_false c26
             clear c26
             simp only [Option.some.injEq, Prod.mk.injEq] at H
             obtain ⟨rfl, rfl, rfl⟩ := H
             obtain ⟨hcz28_0, hcz28_1⟩ := zc2 BK177
             obtain ⟨hfz28_0, hfz28_1⟩ := zf2 BK177
             go_wp2
             refine bodyPost_ret (results_ct rfl _ _ gb177 33 #[.int .i64 t182, .int .i64 t184] (0, 0) _ rfl (by refine zL ?_; refine blk_put (cs := #[.int .i64 t182, .int .i64 0]) ?_ 1 _ rfl; refine zL ?_; refine blk_put (cs := #[.int .i64 0, .int .i64 0]) ?_ 0 _ rfl; refine zL ?_; exact BK177.out) Tryd.underlying33 rfl (by kernel_rfl)) rfl ?_
             exact ⟨by first | rfl | (simp [errW_none, errW_some] <;> rfl) | (simp [*, errW_none, errW_some] <;> rfl), by repeat (first | (with_reducible first | exact HB.out | apply below_alloc | apply pw_below_drewN | apply below_drew1 | refine below_set ?_ GE177.out) | exact HB.out)⟩
end Go.Proofs.YtbimdjciacnioaaDoor.Q
end

section
namespace Go.Proofs.YtbimdjciacnioaaDoor.Q
open Go.RowKit Go.Proofs.YtbimdjciacnioaaDoorW.PrintWords Go.Proofs.YtbimdjciacnioaaDoorW.PrintLast Go.Proofs.YtbimdjciacnioaaDoorW.PrintMore
attribute [local go_sem] max2_int min2_int max_two min_two max_three min_three max_four min_four
set_option linter.unusedVariables false
set_option linter.unusedSimpArgs false
mutual
def portset_Parse.j0 : Nat → ByteArray → Bool → Option ((List (S33)) × Int)
  | 0, _, _ => none
  | k + 1, x0, x19 => if x19 = true then (some (([] : List (S33)), 3)) else (if x0.toList = ([97, 110, 121] : List UInt8) then ((portset_All.f).bind fun t187 => (some (t187, 0))) else ((strings_Split.f x0 (⟨#[44]⟩ : ByteArray)).bind fun t190 => (portset_Parse.l0 k ([] : List (S33)) ([] : List (S33)) t190 (t190.length : Int) 0)))
def portset_Parse.l0 : Nat → List (S33) → List (S33) → List ByteArray → Int → Int → Option ((List (S33)) × Int)
  | 0, _, _, _, _, _ => none
  | k + 1, x4, x5, x24, x25, x26 => if x26 < x25 then (if 0 ≤ x26 then (if x26 < (x24.length : Int) then ((strings_CutPrefix.f (rdOf ByteArray.empty x24 x26) (⟨#[33]⟩ : ByteArray)).bind fun bt197 => ((portset_item.f k bt197.1).bind fun bt199 => (if bt199.2.2 = 0 then (if bt197.2 = true then (if x5.length < 8796093022208 then (portset_Parse.l0 k x4 (x5 ++ [(⟨bt199.1, bt199.2.1⟩ : S33)]) x24 x25 (wrap64 (x26 + 1))) else (none)) else (if x4.length < 8796093022208 then (portset_Parse.l0 k (x4 ++ [(⟨bt199.1, bt199.2.1⟩ : S33)]) x5 x24 x25 (wrap64 (x26 + 1))) else (none))) else (some (([] : List (S33)), bt199.2.2))))) else (none)) else (none)) else ((portset_Eval.f k x4 x5).bind fun t193 => (some (t193, 0)))
end
def portset_Parse.f (k : Nat) (a0 : ByteArray) : Option ((List (S33)) × Int) := if (a0.size : Int) > 1024 then (portset_Parse.j0 k a0 true) else ((strings_Count.f a0 (⟨#[44]⟩ : ByteArray)).bind fun t186 => (portset_Parse.j0 k a0 (decide (t186 > 63))))
theorem portset_Parse.mono_l : ∀ k, (∀ y0 y1, LeO (portset_Parse.j0 k y0 y1) (portset_Parse.j0 (k + 1) y0 y1)) ∧ (∀ y0 y1 y2 y3 y4, LeO (portset_Parse.l0 k y0 y1 y2 y3 y4) (portset_Parse.l0 (k + 1) y0 y1 y2 y3 y4))
  | 0 => ⟨fun _ _ r h => by simp [portset_Parse.j0] at h, fun _ _ _ _ _ r h => by simp [portset_Parse.l0] at h⟩
  | k + 1 => by
    obtain ⟨ih0, ih1⟩ := portset_Parse.mono_l k
    refine ⟨?_, ?_⟩
    · intro y0 y1
      unfold portset_Parse.j0
      repeat' first
      | (with_reducible exact ih0 _ _)
      | (with_reducible exact ih1 _ _ _ _ _)
      | (with_reducible exact portset_Eval.mono _ _ _)
      | (with_reducible exact portset_item.mono _ _)
      | (with_reducible exact LeO.refl _)
      | (with_reducible exact LeO.none _)
      | (with_reducible refine LeO.ite ?_ ?_)
      | (with_reducible refine LeO.bind ?_ (fun _ => ?_))
      | exact ih0 _ _
      | exact ih1 _ _ _ _ _
      | exact portset_Eval.mono _ _ _
      | exact portset_item.mono _ _
      | exact LeO.none _
      | refine LeO.ite ?_ ?_
      | refine LeO.bind ?_ (fun _ => ?_)
    · intro y0 y1 y2 y3 y4
      unfold portset_Parse.l0
      repeat' first
      | (with_reducible exact ih0 _ _)
      | (with_reducible exact ih1 _ _ _ _ _)
      | (with_reducible exact portset_Eval.mono _ _ _)
      | (with_reducible exact portset_item.mono _ _)
      | (with_reducible exact LeO.refl _)
      | (with_reducible exact LeO.none _)
      | (with_reducible refine LeO.ite ?_ ?_)
      | (with_reducible refine LeO.bind ?_ (fun _ => ?_))
      | exact ih0 _ _
      | exact ih1 _ _ _ _ _
      | exact portset_Eval.mono _ _ _
      | exact portset_item.mono _ _
      | exact LeO.none _
      | refine LeO.ite ?_ ?_
      | refine LeO.bind ?_ (fun _ => ?_)
theorem portset_Parse.mono : ∀ a0 k, LeO (portset_Parse.f k a0) (portset_Parse.f (k + 1) a0) := by
  intro a0 k
  obtain ⟨ih0, ih1⟩ := portset_Parse.mono_l k
  unfold portset_Parse.f
  repeat' first
      | (with_reducible exact ih0 _ _)
      | (with_reducible exact ih1 _ _ _ _ _)
      | (with_reducible exact portset_Eval.mono _ _ _)
      | (with_reducible exact portset_item.mono _ _)
      | (with_reducible exact LeO.refl _)
      | (with_reducible exact LeO.none _)
      | (with_reducible refine LeO.ite ?_ ?_)
      | (with_reducible refine LeO.bind ?_ (fun _ => ?_))
      | exact ih0 _ _
      | exact ih1 _ _ _ _ _
      | exact portset_Eval.mono _ _ _
      | exact portset_item.mono _ _
      | exact LeO.none _
      | refine LeO.ite ?_ ?_
      | refine LeO.bind ?_ (fun _ => ?_)
set_option maxHeartbeats 8000000 in
set_option maxRecDepth 100000 in
theorem portset_Parse.calls (k : Nat) (a0 : ByteArray) (r1 : List (S33)) (r2 : Int) (w : World) (h : portset_Parse.f k a0 = some (r1, r2)) (hW_ : WOK w) :
 Calls Tryd.prog 10 #[.string a0] w fun e w' => ∃ v0_ : Value, e = .returned (.tuple #[v0_, .int .i64 r2]) ∧ Kd.R k33 33 w' w.heap.size (fun _ => True) v0_ r1 ∧ Below w.heap.size w w' := by
 have hu33 := Tryd.underlying33
 have HB := Aside0.mk (Below.refl w.heap.size w)
 unfold portset_Parse.f at h; have H := h
 clear h
 have HC2 := Aside0.mk H
 clear H
 go_enter Tryd.func10, Tryd.ntmps10
 go_upto_region 1 with (fail)
 go_cut [19] (fun v19 wc => ∃ (kq : Nat) (x19_1 : Bool), v19 = .bool x19_1 ∧ Aside0 (portset_Parse.j0 kq a0 x19_1 = some (r1, r2)) ∧ Aside0 (kq ≤ k) ∧ Aside0 (Below w.heap.size w wc))
 case first =>
  have H := HC2.out
  clear HC2
  by_cases c3 : (a0.size : Int) > 1024
  · rw [if_pos c3] at H
    have c3b0 : decide (1024 < (a0.size : Int)) = true := decide_eq_true c3
    have c3b1 : decide (1024 < a0.size) = true := decide_eq_true (by omega)
    clear c3
    (first | rw [c3b0] | (simp only [i64_w, i32_w]; rw [c3b0]) | skip)
    have H' := Aside0.mk H
    clear H
    go_wp2
    go_meet
    case rel => exact ⟨_, (true), (by first | rfl | (simp; done) | (simp [*]; done)), H', ⟨by first | omega | exact Nat.le_refl _⟩, ⟨zB HB⟩⟩
  · rw [if_neg c3] at H
    have c3b0 : decide (1024 < (a0.size : Int)) = false := decide_eq_false c3
    have c3b1 : decide (1024 < a0.size) = false := decide_eq_false (by omega)
    clear c3
    (first | rw [c3b0] | (simp only [i64_w, i32_w]; rw [c3b0]) | skip)
    replace H := Option.bind_eq_some_iff.mp H
    obtain ⟨t186, A40, H⟩ := H
    replace H : (portset_Parse.j0 k a0 (decide (t186 > 63))) = some (r1, r2) := H
    have A4 := Aside0.mk A40
    clear A40
    have H' := Aside0.mk H
    clear H
    go_wp2_with (first | (go_at_call 24; (with_reducible refine (strings_Count.calls a0 (⟨#[44]⟩ : ByteArray) t186 _ A4.out (WOK.below hW_ (zB HB))).mono ?_); rintro e w5 ⟨rfl, hb⟩; replace HB := Aside0.mk (below_step (zB HB) hb); (try clear hb)))
    go_meet
    case rel => exact ⟨_, (decide (t186 > 63)), (by first | rfl | (simp; done) | (simp [*]; done)), H', ⟨by first | omega | exact Nat.le_refl _⟩, ⟨zB HB⟩⟩
 case rest =>
  clear HC2
  try clear c1
  try clear p2
  try clear c3
  try clear c3b0
  try clear c3b1
  obtain ⟨kq, x19_1, rfl, HA, HJ1, HB⟩ := hcut
  cases kq with
  | zero => exact absurd HA.out (by simp [portset_Parse.j0])
  | succ kj1 =>
   have H := HA.out
   clear HA
   simp only [portset_Parse.j0] at H
   by_cases c6 : x19_1 = true
   · subst c6
     rw [if_pos rfl] at H
     simp only [Option.some.injEq, Prod.mk.injEq] at H
     obtain ⟨rfl, rfl⟩ := H
     go_wp2
     go_ret2
     exact ⟨_, by first | rfl | (simp [errW_none, errW_some] <;> rfl) | (simp [*, errW_none, errW_some] <;> rfl), by first | exact Kd.R_nil _ _ _ _ _ | exact Kd.N_nil _ _ _ _ _ | exact Kd.V_nil _ _ _ _ _ | exact Kd.Q_nil _ _ _ _ _ | exact Kd.S_nil _ _ _ _ _, by repeat (first | (with_reducible first | exact HB.out | apply below_alloc | apply pw_below_drewN | apply below_drew1) | exact HB.out)⟩
   · replace c6 := Bool.eq_false_iff.mpr c6
     subst c6
     rw [if_neg zF] at H
     by_cases c7 : a0.toList = ([97, 110, 121] : List UInt8)
     · rw [if_pos c7] at H
       have c7b0 : (a0.toList == ([97, 110, 121] : List UInt8)) = true := beq_iff_eq.mpr c7
       have c7b1 : (a0.toList != ([97, 110, 121] : List UInt8)) = false := bne_eq_false_iff_eq.mpr c7
       clear c7
       replace H := Option.bind_eq_some_iff.mp H
       obtain ⟨t187, A80, H⟩ := H
       replace H : (some (t187, 0)) = some (r1, r2) := H
       have A8 := Aside0.mk A80
       clear A80
       simp only [Option.some.injEq, Prod.mk.injEq] at H
       obtain ⟨rfl, rfl⟩ := H
       go_wp2_with (first | ((with_reducible refine gate_callee (f := 20) rfl ?_); refine goesL_ (some 22) rfl rfl Tryd.func20 (by kernel_rfl) rfl #[] rfl (by (try simp only [List.map_toArray, List.map_cons, List.map_nil]); first | done | rfl | (simp only [List.length_drop, List.length_take]; rfl)) ?_; (with_reducible refine (portset_All.calls  t187 _ A8.out).mono ?_); rintro e w9 ⟨v188, rfl, ho0, hb⟩; refine ⟨_, rfl, ?_⟩; have HO189 := Aside0.mk (Kd.R_lower ho0 (below_size (zB HB))); replace HB := Aside0.mk (below_step (zB HB) hb); (try clear hb); (try clear ho0)))
       go_ret2
       exact ⟨_, by first | rfl | (simp [errW_none, errW_some] <;> rfl) | (simp [*, errW_none, errW_some] <;> rfl), by (with_reducible repeat (first | apply Kd.R_alloc | apply Kd.R_drewN | apply Kd.R_drew)); exact HO189.out, by repeat (first | (with_reducible first | exact HB.out | apply below_alloc | apply pw_below_drewN | apply below_drew1) | exact HB.out)⟩
     · rw [if_neg c7] at H
       have c7b0 : (a0.toList == ([97, 110, 121] : List UInt8)) = false := beq_eq_false_iff_ne.mpr c7
       have c7b1 : (a0.toList != ([97, 110, 121] : List UInt8)) = true := bne_iff_ne.mpr c7
       replace H := Option.bind_eq_some_iff.mp H
       obtain ⟨t190, A100, H⟩ := H
       replace H : (portset_Parse.l0 kj1 ([] : List (S33)) ([] : List (S33)) t190 (t190.length : Int) 0) = some (r1, r2) := H
       have A10 := Aside0.mk A100
       clear A100
       have H' := Aside0.mk H
       clear H
       go_wp2_with (first | ((with_reducible refine gate_callee (f := 25) rfl ?_); refine goesL_ (some 24) rfl rfl Tryd.func25 (by kernel_rfl) rfl #[.string a0, .string (⟨#[44]⟩ : ByteArray)] rfl (by (try simp only [List.map_toArray, List.map_cons, List.map_nil]); first | done | rfl | (simp only [List.length_drop, List.length_take]; rfl)) ?_; (with_reducible refine (strings_Split.calls a0 (⟨#[44]⟩ : ByteArray) t190 _ A10.out (WOK.below hW_ (zB HB))).mono ?_); rintro e w11 ⟨v191, rfl, ho0, hb⟩; refine ⟨_, rfl, ?_⟩; have HO192 := Aside0.mk (Kd.R_lower ho0 (below_size (zB HB))); replace HB := Aside0.mk (below_step (zB HB) hb); (try clear hb); (try clear ho0); obtain ⟨Ao12, co12, eo12⟩ := Kd.R_slice HO192.out; subst eo12))
       go_loopg [4, 5, 26] kj1 (fun kq v4 v5 v26 w' => ∃ (x4_2 : List (S33)) (x5_2 : List (S33)) (x26_2 : Int), v26 = .int .i64 x26_2 ∧ Aside0 (portset_Parse.l0 kq x4_2 x5_2 t190 (t190.length : Int) x26_2 = some (r1, r2)) ∧ Aside0 (kq ≤ kj1) ∧ Aside0 (Kd.R k33 33 w' w.heap.size (fun k_ => some k_ ≠ (v5 : Value).ownBlock) v4 x4_2) ∧ Aside0 (Kd.R k33 33 w' w.heap.size (fun k_ => some k_ ≠ (v4 : Value).ownBlock) v5 x5_2) ∧ Aside0 (Kd.R Kd.string 9 w' w.heap.size (fun _ => True) (.slice Ao12 t190.length co12) t190) ∧ Aside0 (Below w.heap.size w w'))
       case atStart => exact ⟨(([] : List (S33))), (([] : List (S33))), (0), (by first | rfl | (simp; done) | (simp [*]; done)), H', ⟨Nat.le_refl _⟩, ⟨by first | exact Kd.R_nil _ _ _ _ _ | exact Kd.N_nil _ _ _ _ _ | exact Kd.V_nil _ _ _ _ _ | exact Kd.Q_nil _ _ _ _ _ | exact Kd.S_nil _ _ _ _ _⟩, ⟨by first | exact Kd.R_nil _ _ _ _ _ | exact Kd.N_nil _ _ _ _ _ | exact Kd.V_nil _ _ _ _ _ | exact Kd.Q_nil _ _ _ _ _ | exact Kd.S_nil _ _ _ _ _⟩, ⟨zR HO192⟩, ⟨zB HB⟩⟩
       case round =>
        clear H'
        try clear c1
        try clear c2
        try clear p2
        try clear c3
        try clear c3b0
        try clear c3b1
        try clear c6
        try clear c7
        try clear c7b0
        try clear c7b1
        try clear c10
        try clear p2
        obtain ⟨x4_2, x5_2, x26_2, rfl, HA, HK2, HO_4, HO_5, HO_24, HB⟩ := hrel
        cases gk with
        | zero => exact absurd HA.out (by simp [portset_Parse.l0])
        | succ k2 =>
         have H := HA.out
         clear HA
         simp only [portset_Parse.l0] at H
         by_cases c13 : x26_2 < (t190.length : Int)
         · rw [if_pos c13] at H
           have c13b0 : decide (x26_2 < (t190.length : Int)) = true := decide_eq_true c13
           clear c13
           by_cases c14 : 0 ≤ x26_2
           · rw [if_pos c14] at H
             have c14b0 : decide (0 ≤ x26_2) = true := decide_eq_true c14
             clear c14
             by_cases c15 : x26_2 < (t190.length : Int)
             · rw [if_pos c15] at H
               have c15b0 : decide (x26_2 < (t190.length : Int)) = true := decide_eq_true c15
               clear c15
               replace H := Option.bind_eq_some_iff.mp H
               obtain ⟨⟨t197, t198⟩, A160, H⟩ := H
               replace H : ((portset_item.f k2 t197).bind fun bt199 => (if bt199.2.2 = 0 then (if t198 = true then (if x5_2.length < 8796093022208 then (portset_Parse.l0 k2 x4_2 (x5_2 ++ [(⟨bt199.1, bt199.2.1⟩ : S33)]) t190 (t190.length : Int) (wrap64 (x26_2 + 1))) else (none)) else (if x4_2.length < 8796093022208 then (portset_Parse.l0 k2 (x4_2 ++ [(⟨bt199.1, bt199.2.1⟩ : S33)]) x5_2 t190 (t190.length : Int) (wrap64 (x26_2 + 1))) else (none))) else (some (([] : List (S33)), bt199.2.2)))) = some (r1, r2) := H
               have A16 := Aside0.mk A160
               clear A160
               replace H := Option.bind_eq_some_iff.mp H
               obtain ⟨⟨t199, t200, t201⟩, A170, H⟩ := H
               replace H : (if t201 = 0 then (if t198 = true then (if x5_2.length < 8796093022208 then (portset_Parse.l0 k2 x4_2 (x5_2 ++ [(⟨t199, t200⟩ : S33)]) t190 (t190.length : Int) (wrap64 (x26_2 + 1))) else (none)) else (if x4_2.length < 8796093022208 then (portset_Parse.l0 k2 (x4_2 ++ [(⟨t199, t200⟩ : S33)]) x5_2 t190 (t190.length : Int) (wrap64 (x26_2 + 1))) else (none))) else (some (([] : List (S33)), t201))) = some (r1, r2) := H
               have A17 := Aside0.mk A170
               clear A170
               by_cases c18 : t201 = 0
               · rw [if_pos c18] at H
                 have c18b0 : (t201 == 0) = true := beq_iff_eq.mpr c18
                 have c18b1 : (t201 != 0) = false := bne_eq_false_iff_eq.mpr c18
                 clear c18
                 by_cases c19 : t198 = true
                 · subst c19
                   rw [if_pos rfl] at H
                   by_cases c20 : x5_2.length < 8796093022208
                   · rw [if_pos c20] at H
                     have LMc20 := Aside0.mk c20
                     clear c20
                     obtain ⟨y203, hy203⟩ : ∃ y_ : List (S33), y_ = (x5_2 ++ [(⟨t199, t200⟩ : S33)]) := ⟨_, rfl⟩
                     rw [← hy203] at H; try dsimp only [Option.bind_some] at H
                     have Ny203 := Aside0.mk hy203
                     clear hy203
                     have H' := Aside0.mk H
                     clear H
                     have p196 : 0 ≤ (x26_2 : Int) := za
                     have q196 : x26_2 < (t190.length : Int) := za
                     obtain ⟨ad196, e196, hx196_0⟩ := Kd.at_string (Kd.R_reads' HO_24.out).2.2 x26_2 p196 q196
                     cases e196
                     replace p196 := eq_true p196
                     replace q196 := eq_true q196
                     go_wp2_with (first | ((with_reducible refine gate_callee (f := 26) rfl ?_); refine goesL_ (some 32) rfl rfl Tryd.func26 (by kernel_rfl) rfl #[.string (rdOf ByteArray.empty t190 x26_2), .string (⟨#[33]⟩ : ByteArray)] rfl (by (try simp only [List.map_toArray, List.map_cons, List.map_nil]); first | done | rfl | (simp only [List.length_drop, List.length_take]; rfl)) ?_; (with_reducible refine (strings_CutPrefix.calls (rdOf ByteArray.empty t190 x26_2) (⟨#[33]⟩ : ByteArray) t197 true _ A16.out).mono ?_); rintro e w21 ⟨rfl, hb⟩; refine ⟨_, rfl, ?_⟩; replace HO_4 := Aside0.mk (Kd.R_below (zR HO_4) hb); replace HO_5 := Aside0.mk (Kd.R_below (zR HO_5) hb); replace HO_24 := Aside0.mk (Kd.R_below (zR HO_24) hb); replace HB := Aside0.mk (below_step (zB HB) hb); (try clear hb)) | ((with_reducible refine gate_callee (f := 27) rfl ?_); refine goesL_ (some 37) rfl rfl Tryd.func27 (by kernel_rfl) rfl #[.string t197] rfl (by (try simp only [List.map_toArray, List.map_cons, List.map_nil]); first | done | rfl | (simp only [List.length_drop, List.length_take]; rfl)) ?_; (with_reducible refine (portset_item.calls k2 t197 t199 t200 t201 _ A17.out (WOK.below hW_ (zB HB))).mono ?_); rintro e w22 ⟨rfl, hb⟩; refine ⟨_, rfl, ?_⟩; replace HO_4 := Aside0.mk (Kd.R_below (zR HO_4) hb); replace HO_5 := Aside0.mk (Kd.R_below (zR HO_5) hb); replace HO_24 := Aside0.mk (Kd.R_below (zR HO_24) hb); replace HB := Aside0.mk (below_step (zB HB) hb); (try clear hb)) | ((with_reducible refine gate_dst (N := 10) rfl ?_); refine zx 10 #[.int .i64 0, .int .i64 0] 33 ?_; intro gb202 hg w23 hbox hb; replace HO_4 := Aside0.mk (Kd.R_below (Kd.R_elderB (zR HO_4) gb202 (Nat.le_of_eq hg.symm)) hb); replace HO_5 := Aside0.mk (Kd.R_below (Kd.R_elderB (zR HO_5) gb202 (Nat.le_of_eq hg.symm)) hb); replace HO_24 := Aside0.mk (Kd.R_below (zR HO_24) hb); have BK202 := Aside0.mk (hbox); have GW202 := Aside0.mk ((by rw [hg]; exact (below_size (zB HB)) : w.heap.size ≤ gb202)); have GE202 := Aside0.mk ((by rw [hg]; exact (below_size (zB HB)) : w.heap.size ≤ gb202)); replace HB := Aside0.mk (below_step (zB HB) hb); clear hb hbox hg; obtain ⟨hcz24_0, hcz24_1⟩ := zc2 BK202; obtain ⟨hfz24_0, hfz24_1⟩ := zf2 BK202) | ((with_reducible refine gate_builtin (b := .append) (xs := #[.tmp 44, .tmp 46]) rfl ?_); at_builtin; refine Kd.R_append k33 (w0 := w) w.heap.size rfl (.tmp 44) (.tmp 46) 23 33 (.agg #[(.int .i64 0), (.int .i64 0)]) 16 rfl Tryd.underlying23 info33 rfl (by decide) (by omega) u5 x5_2 (⟨t199, t200⟩ : S33) [.int .i64 t199, .int .i64 t200] (fun k_ => some k_ ≠ (u4 : Value).ownBlock ∧ k_ ≠ gb202) (fun _ => False) rfl (by first | (go_simp; done) | (go_simp; rfl)) ?aP (fun _ hk => hk.elim) ?aF ?aO ?aB ?aS ?aL ?_; (case aP => exact k33_mkM _ _ _ (⟨t199, t200⟩ : S33)); (case aB => exact (zB HB)); (case aF => exact (fun k_ hk => ⟨Kd.fresh' (Kd.R_lt (zQ (Kd.R_mono (Kd.R_far (p := ⟨gb202, 1, none⟩) (Kd.R_far (p := ⟨gb202, 0, none⟩) (Kd.R_mono HO_4.out (fun k_ hk => (⟨hk, hk.2⟩ : _ ∧ k_ ≠ gb202))) (fun _ hk => hk.2) (.int .i64 t199)) (fun _ hk => hk.2) (.int .i64 t200)) (fun _ h_ => h_.1)))) k_ hk, Kd.freshB (g := gb202) (o := .cells #[.int .i64 t199, .int .i64 t200] 33 (0, 0)) (by refine zL ?_; refine blk_put (cs := #[.int .i64 t199, .int .i64 0]) ?_ 1 _ rfl; refine zL ?_; refine blk_put (cs := #[.int .i64 0, .int .i64 0]) ?_ 0 _ rfl; refine zL ?_; exact BK202.out) k_ hk⟩)); (case aO => exact (by (with_reducible repeat (first | apply Kd.R_alloc | apply Kd.R_drewN | apply Kd.R_drew)); exact Kd.R_mono (Kd.R_far (p := ⟨gb202, 1, none⟩) (Kd.R_far (p := ⟨gb202, 0, none⟩) (Kd.R_mono HO_5.out (fun k_ hk => (⟨hk, hk.2⟩ : _ ∧ k_ ≠ gb202))) (fun _ hk => hk.2) (.int .i64 t199)) (fun _ hk => hk.2) (.int .i64 t200)) (fun _ hk => ⟨hk.1.1, hk.1.2⟩))); (case aS => exact (below_size (zB HB))); (case aL => have := LMc20.out; omega); intro v204 w25 ho hb hg hat; rw [← Ny203.out] at ho; replace HO_4 := Aside0.mk (Kd.R_after (ok := (fun k_ => k_ ≠ gb202)) (by (with_reducible repeat (first | apply Kd.R_alloc | apply Kd.R_drewN | apply Kd.R_drew)); exact Kd.R_mono (Kd.R_far (p := ⟨gb202, 1, none⟩) (Kd.R_far (p := ⟨gb202, 0, none⟩) (Kd.R_mono HO_4.out (fun k_ hk => (⟨hk, hk.2⟩ : _ ∧ k_ ≠ gb202))) (fun _ hk => hk.2) (.int .i64 t199)) (fun _ hk => hk.2) (.int .i64 t200)) (fun _ hk => ⟨hk.1.2, hk.1.1⟩)) hg hat); replace HO_24 := Aside0.mk (Kd.R_over' (zQ (Kd.R_mono (Kd.R_far (p := ⟨gb202, 1, none⟩) (Kd.R_far (p := ⟨gb202, 0, none⟩) (Kd.R_types HO_24.out BK202.out (by decide)) (fun _ hk => hk.2) (.int .i64 t199)) (fun _ hk => hk.2) (.int .i64 t200)) (fun _ h_ => h_.1))) (Kd.R_typed (zQ (Kd.R_mono (Kd.R_far (p := ⟨gb202, 1, none⟩) (Kd.R_far (p := ⟨gb202, 0, none⟩) (Kd.R_mono HO_5.out (fun k_ hk => (⟨hk, hk.2⟩ : _ ∧ k_ ≠ gb202))) (fun _ hk => hk.2) (.int .i64 t199)) (fun _ hk => hk.2) (.int .i64 t200)) (fun _ h_ => h_.1)))) (by decide) hg); replace BK202 := Aside0.mk (blk_grown (g := gb202) (o := .cells #[.int .i64 t199, .int .i64 t200] 33 (0, 0)) (by refine zL ?_; refine blk_put (cs := #[.int .i64 t199, .int .i64 0]) ?_ 1 _ rfl; refine zL ?_; refine blk_put (cs := #[.int .i64 0, .int .i64 0]) ?_ 0 _ rfl; refine zL ?_; exact BK202.out) hg (Kd.R_away HO_5.out (fun _ hk => hk.2))); replace HB := Aside0.mk (hb); have HO205 := Aside0.mk (ho); clear HO_5; clear ho hb hg hat))
                     go_roundg k2
                     case measure => have := HJ1.out; have := HK2.out; omega
                     case rel => exact ⟨(x4_2), (y203), (wrap64 (x26_2 + 1)), (by first | rfl | (simp; done) | (simp [*]; done)), H', ⟨by have := HJ1.out; have := HK2.out; omega⟩, ⟨by (with_reducible repeat (first | apply Kd.R_alloc | apply Kd.R_drewN | apply Kd.R_drew)); exact Kd.R_mono HO_4.out (fun _ hk => hk.2)⟩, ⟨by (with_reducible repeat (first | apply Kd.R_alloc | apply Kd.R_drewN | apply Kd.R_drew)); exact Kd.R_mono HO205.out (fun _ hk => hk.1)⟩, ⟨zR HO_24⟩, ⟨zB HB⟩⟩
                   · rw [if_neg c20] at H
                     exact absurd H (by simp)
                 · replace c19 := Bool.eq_false_iff.mpr c19
                   subst c19
                   rw [if_neg zF] at H
                   by_cases c26 : x4_2.length < 8796093022208
                   · rw [if_pos c26] at H
                     have LMc26 := Aside0.mk c26
                     clear c26
                     obtain ⟨y206, hy206⟩ : ∃ y_ : List (S33), y_ = (x4_2 ++ [(⟨t199, t200⟩ : S33)]) := ⟨_, rfl⟩
                     rw [← hy206] at H; try dsimp only [Option.bind_some] at H
                     have Ny206 := Aside0.mk hy206
                     clear hy206
                     have H' := Aside0.mk H
                     clear H
                     have p196 : 0 ≤ (x26_2 : Int) := za
                     have q196 : x26_2 < (t190.length : Int) := za
                     obtain ⟨ad196, e196, hx196_0⟩ := Kd.at_string (Kd.R_reads' HO_24.out).2.2 x26_2 p196 q196
                     cases e196
                     replace p196 := eq_true p196
                     replace q196 := eq_true q196
                     go_wp2_with (first | ((with_reducible refine gate_callee (f := 26) rfl ?_); refine goesL_ (some 32) rfl rfl Tryd.func26 (by kernel_rfl) rfl #[.string (rdOf ByteArray.empty t190 x26_2), .string (⟨#[33]⟩ : ByteArray)] rfl (by (try simp only [List.map_toArray, List.map_cons, List.map_nil]); first | done | rfl | (simp only [List.length_drop, List.length_take]; rfl)) ?_; (with_reducible refine (strings_CutPrefix.calls (rdOf ByteArray.empty t190 x26_2) (⟨#[33]⟩ : ByteArray) t197 false _ A16.out).mono ?_); rintro e w27 ⟨rfl, hb⟩; refine ⟨_, rfl, ?_⟩; replace HO_4 := Aside0.mk (Kd.R_below (zR HO_4) hb); replace HO_5 := Aside0.mk (Kd.R_below (zR HO_5) hb); replace HO_24 := Aside0.mk (Kd.R_below (zR HO_24) hb); replace HB := Aside0.mk (below_step (zB HB) hb); (try clear hb)) | ((with_reducible refine gate_callee (f := 27) rfl ?_); refine goesL_ (some 37) rfl rfl Tryd.func27 (by kernel_rfl) rfl #[.string t197] rfl (by (try simp only [List.map_toArray, List.map_cons, List.map_nil]); first | done | rfl | (simp only [List.length_drop, List.length_take]; rfl)) ?_; (with_reducible refine (portset_item.calls k2 t197 t199 t200 t201 _ A17.out (WOK.below hW_ (zB HB))).mono ?_); rintro e w28 ⟨rfl, hb⟩; refine ⟨_, rfl, ?_⟩; replace HO_4 := Aside0.mk (Kd.R_below (zR HO_4) hb); replace HO_5 := Aside0.mk (Kd.R_below (zR HO_5) hb); replace HO_24 := Aside0.mk (Kd.R_below (zR HO_24) hb); replace HB := Aside0.mk (below_step (zB HB) hb); (try clear hb)) | ((with_reducible refine gate_dst (N := 10) rfl ?_); refine zx 10 #[.int .i64 0, .int .i64 0] 33 ?_; intro gb202 hg w29 hbox hb; replace HO_4 := Aside0.mk (Kd.R_below (Kd.R_elderB (zR HO_4) gb202 (Nat.le_of_eq hg.symm)) hb); replace HO_5 := Aside0.mk (Kd.R_below (Kd.R_elderB (zR HO_5) gb202 (Nat.le_of_eq hg.symm)) hb); replace HO_24 := Aside0.mk (Kd.R_below (zR HO_24) hb); have BK202 := Aside0.mk (hbox); have GW202 := Aside0.mk ((by rw [hg]; exact (below_size (zB HB)) : w.heap.size ≤ gb202)); have GE202 := Aside0.mk ((by rw [hg]; exact (below_size (zB HB)) : w.heap.size ≤ gb202)); replace HB := Aside0.mk (below_step (zB HB) hb); clear hb hbox hg; obtain ⟨hcz30_0, hcz30_1⟩ := zc2 BK202; obtain ⟨hfz30_0, hfz30_1⟩ := zf2 BK202) | ((with_reducible refine gate_builtin (b := .append) (xs := #[.tmp 48, .tmp 50]) rfl ?_); at_builtin; refine Kd.R_append k33 (w0 := w) w.heap.size rfl (.tmp 48) (.tmp 50) 23 33 (.agg #[(.int .i64 0), (.int .i64 0)]) 16 rfl Tryd.underlying23 info33 rfl (by decide) (by omega) u4 x4_2 (⟨t199, t200⟩ : S33) [.int .i64 t199, .int .i64 t200] (fun k_ => some k_ ≠ (u5 : Value).ownBlock ∧ k_ ≠ gb202) (fun _ => False) rfl (by first | (go_simp; done) | (go_simp; rfl)) ?aP (fun _ hk => hk.elim) ?aF ?aO ?aB ?aS ?aL ?_; (case aP => exact k33_mkM _ _ _ (⟨t199, t200⟩ : S33)); (case aB => exact (zB HB)); (case aF => exact (fun k_ hk => ⟨Kd.fresh' (Kd.R_lt (zQ (Kd.R_mono (Kd.R_far (p := ⟨gb202, 1, none⟩) (Kd.R_far (p := ⟨gb202, 0, none⟩) (Kd.R_mono HO_5.out (fun k_ hk => (⟨hk, hk.2⟩ : _ ∧ k_ ≠ gb202))) (fun _ hk => hk.2) (.int .i64 t199)) (fun _ hk => hk.2) (.int .i64 t200)) (fun _ h_ => h_.1)))) k_ hk, Kd.freshB (g := gb202) (o := .cells #[.int .i64 t199, .int .i64 t200] 33 (0, 0)) (by refine zL ?_; refine blk_put (cs := #[.int .i64 t199, .int .i64 0]) ?_ 1 _ rfl; refine zL ?_; refine blk_put (cs := #[.int .i64 0, .int .i64 0]) ?_ 0 _ rfl; refine zL ?_; exact BK202.out) k_ hk⟩)); (case aO => exact (by (with_reducible repeat (first | apply Kd.R_alloc | apply Kd.R_drewN | apply Kd.R_drew)); exact Kd.R_mono (Kd.R_far (p := ⟨gb202, 1, none⟩) (Kd.R_far (p := ⟨gb202, 0, none⟩) (Kd.R_mono HO_4.out (fun k_ hk => (⟨hk, hk.2⟩ : _ ∧ k_ ≠ gb202))) (fun _ hk => hk.2) (.int .i64 t199)) (fun _ hk => hk.2) (.int .i64 t200)) (fun _ hk => ⟨hk.1.1, hk.1.2⟩))); (case aS => exact (below_size (zB HB))); (case aL => have := LMc26.out; omega); intro v207 w31 ho hb hg hat; rw [← Ny206.out] at ho; replace HO_5 := Aside0.mk (Kd.R_after (ok := (fun k_ => k_ ≠ gb202)) (by (with_reducible repeat (first | apply Kd.R_alloc | apply Kd.R_drewN | apply Kd.R_drew)); exact Kd.R_mono (Kd.R_far (p := ⟨gb202, 1, none⟩) (Kd.R_far (p := ⟨gb202, 0, none⟩) (Kd.R_mono HO_5.out (fun k_ hk => (⟨hk, hk.2⟩ : _ ∧ k_ ≠ gb202))) (fun _ hk => hk.2) (.int .i64 t199)) (fun _ hk => hk.2) (.int .i64 t200)) (fun _ hk => ⟨hk.1.2, hk.1.1⟩)) hg hat); replace HO_24 := Aside0.mk (Kd.R_over' (zQ (Kd.R_mono (Kd.R_far (p := ⟨gb202, 1, none⟩) (Kd.R_far (p := ⟨gb202, 0, none⟩) (Kd.R_types HO_24.out BK202.out (by decide)) (fun _ hk => hk.2) (.int .i64 t199)) (fun _ hk => hk.2) (.int .i64 t200)) (fun _ h_ => h_.1))) (Kd.R_typed (zQ (Kd.R_mono (Kd.R_far (p := ⟨gb202, 1, none⟩) (Kd.R_far (p := ⟨gb202, 0, none⟩) (Kd.R_mono HO_4.out (fun k_ hk => (⟨hk, hk.2⟩ : _ ∧ k_ ≠ gb202))) (fun _ hk => hk.2) (.int .i64 t199)) (fun _ hk => hk.2) (.int .i64 t200)) (fun _ h_ => h_.1)))) (by decide) hg); replace BK202 := Aside0.mk (blk_grown (g := gb202) (o := .cells #[.int .i64 t199, .int .i64 t200] 33 (0, 0)) (by refine zL ?_; refine blk_put (cs := #[.int .i64 t199, .int .i64 0]) ?_ 1 _ rfl; refine zL ?_; refine blk_put (cs := #[.int .i64 0, .int .i64 0]) ?_ 0 _ rfl; refine zL ?_; exact BK202.out) hg (Kd.R_away HO_4.out (fun _ hk => hk.2))); replace HB := Aside0.mk (hb); have HO208 := Aside0.mk (ho); clear HO_4; clear ho hb hg hat))
                     go_roundg k2
                     case measure => have := HJ1.out; have := HK2.out; omega
                     case rel => exact ⟨(y206), (x5_2), (wrap64 (x26_2 + 1)), (by first | rfl | (simp; done) | (simp [*]; done)), H', ⟨by have := HJ1.out; have := HK2.out; omega⟩, ⟨by (with_reducible repeat (first | apply Kd.R_alloc | apply Kd.R_drewN | apply Kd.R_drew)); exact Kd.R_mono HO208.out (fun _ hk => hk.1)⟩, ⟨by (with_reducible repeat (first | apply Kd.R_alloc | apply Kd.R_drewN | apply Kd.R_drew)); exact Kd.R_mono HO_5.out (fun _ hk => hk.2)⟩, ⟨zR HO_24⟩, ⟨zB HB⟩⟩
                   · rw [if_neg c26] at H
                     exact absurd H (by simp)
               · rw [if_neg c18] at H
                 have c18b0 : (t201 == 0) = false := beq_eq_false_iff_ne.mpr c18
                 have c18b1 : (t201 != 0) = true := bne_iff_ne.mpr c18
                 simp only [Option.some.injEq, Prod.mk.injEq] at H
                 obtain ⟨rfl, rfl⟩ := H
                 have p196 : 0 ≤ (x26_2 : Int) := za
                 have q196 : x26_2 < (t190.length : Int) := za
                 obtain ⟨ad196, e196, hx196_0⟩ := Kd.at_string (Kd.R_reads' HO_24.out).2.2 x26_2 p196 q196
                 cases e196
                 replace p196 := eq_true p196
                 replace q196 := eq_true q196
                 go_wp2_with (first | ((with_reducible refine gate_callee (f := 26) rfl ?_); refine goesL_ (some 32) rfl rfl Tryd.func26 (by kernel_rfl) rfl #[.string (rdOf ByteArray.empty t190 x26_2), .string (⟨#[33]⟩ : ByteArray)] rfl (by (try simp only [List.map_toArray, List.map_cons, List.map_nil]); first | done | rfl | (simp only [List.length_drop, List.length_take]; rfl)) ?_; (with_reducible refine (strings_CutPrefix.calls (rdOf ByteArray.empty t190 x26_2) (⟨#[33]⟩ : ByteArray) t197 t198 _ A16.out).mono ?_); rintro e w32 ⟨rfl, hb⟩; refine ⟨_, rfl, ?_⟩; replace HO_4 := Aside0.mk (Kd.R_below (zR HO_4) hb); replace HO_5 := Aside0.mk (Kd.R_below (zR HO_5) hb); replace HO_24 := Aside0.mk (Kd.R_below (zR HO_24) hb); replace HB := Aside0.mk (below_step (zB HB) hb); (try clear hb)) | ((with_reducible refine gate_callee (f := 27) rfl ?_); refine goesL_ (some 37) rfl rfl Tryd.func27 (by kernel_rfl) rfl #[.string t197] rfl (by (try simp only [List.map_toArray, List.map_cons, List.map_nil]); first | done | rfl | (simp only [List.length_drop, List.length_take]; rfl)) ?_; (with_reducible refine (portset_item.calls k2 t197 t199 t200 t201 _ A17.out (WOK.below hW_ (zB HB))).mono ?_); rintro e w33 ⟨rfl, hb⟩; refine ⟨_, rfl, ?_⟩; replace HO_4 := Aside0.mk (Kd.R_below (zR HO_4) hb); replace HO_5 := Aside0.mk (Kd.R_below (zR HO_5) hb); replace HO_24 := Aside0.mk (Kd.R_below (zR HO_24) hb); replace HB := Aside0.mk (below_step (zB HB) hb); (try clear hb)) | ((with_reducible refine gate_dst (N := 10) rfl ?_); refine zx 10 #[.int .i64 0, .int .i64 0] 33 ?_; intro gb202 hg w34 hbox hb; replace HO_4 := Aside0.mk (Kd.R_below (Kd.R_elderB (zR HO_4) gb202 (Nat.le_of_eq hg.symm)) hb); replace HO_5 := Aside0.mk (Kd.R_below (Kd.R_elderB (zR HO_5) gb202 (Nat.le_of_eq hg.symm)) hb); replace HO_24 := Aside0.mk (Kd.R_below (zR HO_24) hb); have BK202 := Aside0.mk (hbox); have GW202 := Aside0.mk ((by rw [hg]; exact (below_size (zB HB)) : w.heap.size ≤ gb202)); have GE202 := Aside0.mk ((by rw [hg]; exact (below_size (zB HB)) : w.heap.size ≤ gb202)); replace HB := Aside0.mk (below_step (zB HB) hb); clear hb hbox hg; obtain ⟨hcz35_0, hcz35_1⟩ := zc2 BK202; obtain ⟨hfz35_0, hfz35_1⟩ := zf2 BK202))
                 go_ret2
                 exact ⟨_, by first | rfl | (simp [errW_none, errW_some] <;> rfl) | (simp [*, errW_none, errW_some] <;> rfl), by first | exact Kd.R_nil _ _ _ _ _ | exact Kd.N_nil _ _ _ _ _ | exact Kd.V_nil _ _ _ _ _ | exact Kd.Q_nil _ _ _ _ _ | exact Kd.S_nil _ _ _ _ _, by repeat (first | (with_reducible first | exact HB.out | apply below_alloc | apply pw_below_drewN | apply below_drew1 | refine below_set ?_ GE202.out) | exact HB.out)⟩
             · rw [if_neg c15] at H
               exact absurd H (by simp)
           · rw [if_neg c14] at H
             exact absurd H (by simp)
         · rw [if_neg c13] at H
           have c13b0 : decide (x26_2 < (t190.length : Int)) = false := decide_eq_false c13
           clear c13
           replace H := Option.bind_eq_some_iff.mp H
           obtain ⟨t193, A360, H⟩ := H
           replace H : (some (t193, 0)) = some (r1, r2) := H
           have A36 := Aside0.mk A360
           clear A360
           simp only [Option.some.injEq, Prod.mk.injEq] at H
           obtain ⟨rfl, rfl⟩ := H
           obtain ⟨Ao37, co37, eo37⟩ := Kd.R_slice HO_4.out
           subst eo37
           obtain ⟨Ao38, co38, eo38⟩ := Kd.R_slice HO_5.out
           subst eo38
           go_wp2_with (first | ((with_reducible refine gate_callee (f := 16) rfl ?_); refine goesL_ (some 55) rfl rfl Tryd.func16 (by kernel_rfl) rfl #[.slice Ao37 x4_2.length co37, .slice Ao38 x5_2.length co38] rfl (by (try simp only [List.map_toArray, List.map_cons, List.map_nil]); first | done | rfl | (simp only [List.length_drop, List.length_take]; rfl)) ?_; (with_reducible refine (portset_Eval.calls k2 _ _ x4_2 _ _ x5_2 t193 _ ?side1 ?side2 ?side3 ?side4 A36.out).mono ?_); (case side1 => repeat (first | exact (Kd.R_reads' HO_4.out).2.2 | (with_reducible refine Kd.C_alloc ?_ _) | (with_reducible refine Kd.C_drewN ?_ _) | (with_reducible refine Kd.C_drew ?_))); (case side2 => exact (Kd.R_reads' HO_4.out).2.1); (case side3 => repeat (first | exact (Kd.R_reads' HO_5.out).2.2 | (with_reducible refine Kd.C_alloc ?_ _) | (with_reducible refine Kd.C_drewN ?_ _) | (with_reducible refine Kd.C_drew ?_))); (case side4 => exact (Kd.R_reads' HO_5.out).2.1); rintro e w39 ⟨v194, rfl, ho0, hb⟩; refine ⟨_, rfl, ?_⟩; replace HO_24 := Aside0.mk (Kd.R_below (zR HO_24) hb); have HO195 := Aside0.mk (Kd.R_lower (Kd.R_new' (Kd.R_new' ho0 (Kd.R_lt (zR HO_4))) (Kd.R_lt (zR HO_5))) (below_size (zB HB))); replace HO_4 := Aside0.mk (Kd.R_elder' (zR HO_4) (Kd.R_base ho0) hb); replace HO_5 := Aside0.mk (Kd.R_elder' (zR HO_5) (Kd.R_base ho0) hb); replace HB := Aside0.mk (below_step (zB HB) hb); (try clear hb); (try clear ho0)))
           go_ret2
           exact ⟨_, by first | rfl | (simp [errW_none, errW_some] <;> rfl) | (simp [*, errW_none, errW_some] <;> rfl), by (with_reducible repeat (first | apply Kd.R_alloc | apply Kd.R_drewN | apply Kd.R_drew)); exact Kd.R_mono HO195.out (fun _ hk => trivial), by repeat (first | (with_reducible first | exact HB.out | apply below_alloc | apply pw_below_drewN | apply below_drew1) | exact HB.out)⟩
end Go.Proofs.YtbimdjciacnioaaDoor.Q
end

section
namespace Go.Proofs.YtbimdjciacnioaaDoor.Q
open Go.RowKit Go.Proofs.YtbimdjciacnioaaDoorW.PrintWords Go.Proofs.YtbimdjciacnioaaDoorW.PrintLast Go.Proofs.YtbimdjciacnioaaDoorW.PrintMore
attribute [local go_sem] max2_int min2_int max_two min_two max_three min_three max_four min_four
set_option linter.unusedVariables false
set_option linter.unusedSimpArgs false
attribute [local go_sem high] eqA33
def intrusionlaw08_same.l0 : Nat → List (S33) → List (S33) → Int → Int → Option (Bool)
  | 0, _, _, _, _ => none
  | k + 1, x0, x1, x12, x13 => if x13 < x12 then (if 0 ≤ x13 then (if x13 < (x0.length : Int) then (if x13 < (x1.length : Int) then (if (!(((rd_T33 x0 x13).f0) == ((rd_T33 x1 x13).f0)) || (!(((rd_T33 x0 x13).f1) == ((rd_T33 x1 x13).f1)))) = true then (some false) else (intrusionlaw08_same.l0 k x0 x1 x12 (wrap64 (x13 + 1)))) else (none)) else (none)) else (none)) else (some true)
def intrusionlaw08_same.f (k : Nat) (l0 : List (S33)) (l1 : List (S33)) : Option (Bool) := if (l0.length : Int) = (l1.length : Int) then (intrusionlaw08_same.l0 k l0 l1 (l0.length : Int) 0) else (some false)
theorem intrusionlaw08_same.mono_l : ∀ k, (∀ y0 y1 y2 y3, LeO (intrusionlaw08_same.l0 k y0 y1 y2 y3) (intrusionlaw08_same.l0 (k + 1) y0 y1 y2 y3))
  | 0 => fun _ _ _ _ r h => by simp [intrusionlaw08_same.l0] at h
  | k + 1 => by
    have ih0 := intrusionlaw08_same.mono_l k
    · intro y0 y1 y2 y3
      unfold intrusionlaw08_same.l0
      repeat' first
      | (with_reducible exact ih0 _ _ _ _)
      | (with_reducible exact LeO.refl _)
      | (with_reducible exact LeO.none _)
      | (with_reducible refine LeO.ite ?_ ?_)
      | (with_reducible refine LeO.bind ?_ (fun _ => ?_))
      | exact ih0 _ _ _ _
      | exact LeO.none _
      | refine LeO.ite ?_ ?_
      | refine LeO.bind ?_ (fun _ => ?_)
theorem intrusionlaw08_same.mono : ∀ a0 a1 k, LeO (intrusionlaw08_same.f k a0 a1) (intrusionlaw08_same.f (k + 1) a0 a1) := by
  intro a0 a1 k
  have ih0 := intrusionlaw08_same.mono_l k
  unfold intrusionlaw08_same.f
  repeat' first
      | (with_reducible exact ih0 _ _ _ _)
      | (with_reducible exact LeO.refl _)
      | (with_reducible exact LeO.none _)
      | (with_reducible refine LeO.ite ?_ ?_)
      | (with_reducible refine LeO.bind ?_ (fun _ => ?_))
      | exact ih0 _ _ _ _
      | exact LeO.none _
      | refine LeO.ite ?_ ?_
      | refine LeO.bind ?_ (fun _ => ?_)
set_option maxHeartbeats 8000000 in
set_option maxRecDepth 100000 in
theorem intrusionlaw08_same.calls (k : Nat) (A0 : Option Addr) (c0 : Nat) (l0 : List (S33)) (A1 : Option Addr) (c1 : Nat) (l1 : List (S33)) (r : Bool) (w : World) (hr0 : Kd.C k33 w A0 l0.length l0) (hc0 : l0.length ≤ c0) (hr1 : Kd.C k33 w A1 l1.length l1) (hc1 : l1.length ≤ c1) (h : intrusionlaw08_same.f k l0 l1 = some r) :
 Calls Tryd.prog 12 #[.slice A0 l0.length c0, .slice A1 l1.length c1] w fun e w' => e = .returned (.bool r) ∧ Drawn0 w w' := by
 have hu33 := Tryd.underlying33
 have HR0 := Aside0.mk hr0
 have HC0 := Aside0.mk hc0
 clear hr0 hc0
 have HR1 := Aside0.mk hr1
 have HC1 := Aside0.mk hc1
 clear hr1 hc1
 unfold intrusionlaw08_same.f at h; have H := h
 clear h
 by_cases c3 : (l0.length : Int) = (l1.length : Int)
 · rw [if_pos c3] at H
   have c3b0 : ((l0.length : Int) == (l1.length : Int)) = true := beq_iff_eq.mpr c3
   have c3b1 : ((l0.length : Int) != (l1.length : Int)) = false := bne_eq_false_iff_eq.mpr c3
   have c3b2 : (l0.length == l1.length) = true := by first | simpa using c3 | (simp at c3 ⊢; omega)
   clear c3
   have H' := Aside0.mk H
   clear H
   go_enter Tryd.func12, Tryd.ntmps12
   go_wp2
   repeat (go_quiet (fail); try go_wp2)
   go_loopg [13] k (fun kq v13 w' => ∃ (x13_1 : Int), v13 = .int .i64 x13_1 ∧ Aside0 (intrusionlaw08_same.l0 kq l0 l1 (l0.length : Int) x13_1 = some r) ∧ Aside0 (kq ≤ k) ∧ Drawn0 w w')
   case atStart => exact ⟨(0), (by first | rfl | (simp; done) | (simp [*]; done)), H', ⟨Nat.le_refl _⟩, by repeat (first | exact Drawn0.refl _ | apply Drawn0.step)⟩
   case round =>
    clear H'
    try clear c1
    try clear p2
    try clear c3
    try clear c3b0
    try clear c3b1
    try clear c3b2
    obtain ⟨x13_1, rfl, HA, HK1, ⟨m1, rfl⟩⟩ := hrel
    cases gk with
    | zero => exact absurd HA.out (by simp [intrusionlaw08_same.l0])
    | succ k1 =>
     have H := HA.out
     clear HA
     simp only [intrusionlaw08_same.l0] at H
     by_cases c4 : x13_1 < (l0.length : Int)
     · rw [if_pos c4] at H
       have c4b0 : decide (x13_1 < (l0.length : Int)) = true := decide_eq_true c4
       clear c4
       by_cases c5 : 0 ≤ x13_1
       · rw [if_pos c5] at H
         have c5b0 : decide (0 ≤ x13_1) = true := decide_eq_true c5
         clear c5
         by_cases c6 : x13_1 < (l0.length : Int)
         · rw [if_pos c6] at H
           have c6b0 : decide (x13_1 < (l0.length : Int)) = true := decide_eq_true c6
           clear c6
           by_cases c7 : x13_1 < (l1.length : Int)
           · rw [if_pos c7] at H
             have c7b0 : decide (x13_1 < (l1.length : Int)) = true := decide_eq_true c7
             clear c7
             by_cases c8 : (!(((rd_T33 l0 x13_1).f0) == ((rd_T33 l1 x13_1).f0)) || (!(((rd_T33 l0 x13_1).f1) == ((rd_T33 l1 x13_1).f1)))) = true
             · rw [if_pos c8] at H
               have c8b0 : (!(((rd_T33 l0 x13_1).f0) == ((rd_T33 l1 x13_1).f0)) || (!(((rd_T33 l0 x13_1).f1) == ((rd_T33 l1 x13_1).f1)))) = true := c8
               clear c8
               obtain rfl := Option.some.inj H
               have p209 : 0 ≤ (x13_1 : Int) := za
               have q209 : x13_1 < (l0.length : Int) := za
               obtain ⟨ad209, e209, hx209_0, hx209_1⟩ := at_T33 HR0.out x13_1 p209 q209
               cases e209
               replace p209 := eq_true p209
               replace q209 := eq_true q209
               have p210 : 0 ≤ (x13_1 : Int) := za
               have q210 : x13_1 < (l1.length : Int) := za
               obtain ⟨ad210, e210, hx210_0, hx210_1⟩ := at_T33 HR1.out x13_1 p210 q210
               cases e210
               replace p210 := eq_true p210
               replace q210 := eq_true q210
               go_wp2
               repeat (go_quiet (fail); try go_wp2)
               go_ret
               exact ⟨by first | rfl | (simp; done) | (simp [*]; done), by repeat (first | exact Drawn0.refl _ | apply Drawn0.step)⟩
             · rw [if_neg c8] at H
               have c8b0 : (!(((rd_T33 l0 x13_1).f0) == ((rd_T33 l1 x13_1).f0)) || (!(((rd_T33 l0 x13_1).f1) == ((rd_T33 l1 x13_1).f1)))) = false := by simpa using c8
               clear c8
               have H' := Aside0.mk H
               clear H
               have p209 : 0 ≤ (x13_1 : Int) := za
               have q209 : x13_1 < (l0.length : Int) := za
               obtain ⟨ad209, e209, hx209_0, hx209_1⟩ := at_T33 HR0.out x13_1 p209 q209
               cases e209
               replace p209 := eq_true p209
               replace q209 := eq_true q209
               have p210 : 0 ≤ (x13_1 : Int) := za
               have q210 : x13_1 < (l1.length : Int) := za
               obtain ⟨ad210, e210, hx210_0, hx210_1⟩ := at_T33 HR1.out x13_1 p210 q210
               cases e210
               replace p210 := eq_true p210
               replace q210 := eq_true q210
               go_wp2
               repeat (go_quiet (fail); try go_wp2)
               go_roundg k1
               case measure => have := HK1.out; omega
               case rel => exact ⟨(wrap64 (x13_1 + 1)), (by first | rfl | (simp; done) | (simp [*]; done)), H', ⟨by have := HK1.out; omega⟩, by repeat (first | exact Drawn0.refl _ | apply Drawn0.step)⟩
           · rw [if_neg c7] at H
             exact absurd H (by simp)
         · rw [if_neg c6] at H
           exact absurd H (by simp)
       · rw [if_neg c5] at H
         exact absurd H (by simp)
     · rw [if_neg c4] at H
       have c4b0 : decide (x13_1 < (l0.length : Int)) = false := decide_eq_false c4
       clear c4
       obtain rfl := Option.some.inj H
       go_wp2
       repeat (go_quiet (fail); try go_wp2)
       go_ret
       exact ⟨by first | rfl | (simp; done) | (simp [*]; done), by repeat (first | exact Drawn0.refl _ | apply Drawn0.step)⟩
 · rw [if_neg c3] at H
   have c3b0 : ((l0.length : Int) == (l1.length : Int)) = false := beq_eq_false_iff_ne.mpr c3
   have c3b1 : ((l0.length : Int) != (l1.length : Int)) = true := bne_iff_ne.mpr c3
   have c3b2 : (l0.length == l1.length) = false := by first | simpa using c3 | (simp at c3 ⊢; omega)
   obtain rfl := Option.some.inj H
   go_enter Tryd.func12, Tryd.ntmps12
   go_wp2
   repeat (go_quiet (fail); try go_wp2)
   go_ret
   exact ⟨by first | rfl | (simp; done) | (simp [*]; done), by repeat (first | exact Drawn0.refl _ | apply Drawn0.step)⟩
end Go.Proofs.YtbimdjciacnioaaDoor.Q
end
