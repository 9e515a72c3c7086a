/- The law PortsetFormats answers true for every input and leaves its arguments as they were. No condition. (Part 4 of 4: the kit's printed words and walks, hand-made contracts and plain laws, joined in build order, without what the theorem does not reach.) -/
import Derived.Deep.Slices
import Derived.ChangeArms
import Derived.WideShapes
import Derived.DataElems
import Derived.Shelf.Abstract
import Derived.Test.YtbimdjciacnioaaDoorRows
import Derived.ProofKit
import Derived.OpenShut
import Derived.LaidMore
import Derived.Lay
import Derived.SevenTiedAt
import Derived.Stop.Joined
import Derived.Lib.LaidTab
import Derived.Shelf.Vars
import Derived.HandedShaped
import Derived.WalkKit
import Derived.ShutString
import Derived.ChangeOld
import Derived.Below
import Derived.SizedLaws
import Derived.Carry
import Derived.Test.YtbimdjciacnioaaDoorTie
import Derived.Test.YtbimdjciacnioaaDoorCards
import Derived.Test.YtbimdjciacnioaaDoorGPortsetFormats3
section
namespace Go.Proofs.YtbimdjciacnioaaDoor.Q
open Go.RowKit Go.Proofs.YtbimdjciacnioaaDoorW.PrintWords Go.Proofs.YtbimdjciacnioaaDoorW.PrintLast Go.Proofs.YtbimdjciacnioaaDoorW.PrintMore
attribute [local go_sem] max2_int min2_int max_two min_two max_three min_three max_four min_four
set_option linter.unusedVariables false
set_option linter.unusedSimpArgs false
attribute [local go_sem high] eqA33
mutual
def intrusionref08_Format.l0 : Nat → List (S33) → ByteArray → Int → Option (ByteArray)
  | 0, _, _, _ => none
  | k + 1, x3, x4, x5 => if x5 < (x3.length : Int) then (if x5 > 0 then (if x4.size + 1 ≤ 9223372036854775807 then (intrusionref08_Format.j1 k x3 (x4 ++ (⟨#[44]⟩ : ByteArray)) x5) else (none)) else (intrusionref08_Format.j1 k x3 x4 x5)) else (some x4)
def intrusionref08_Format.j1 : Nat → List (S33) → ByteArray → Int → Option (ByteArray)
  | 0, _, _, _ => none
  | k + 1, x3, x4, x5 => if 0 ≤ x5 then (if x5 < (x3.length : Int) then ((intrusionref08_digits.f k ((rd_T33 x3 x5).f0)).bind fun t451 => (if x4.size + t451.size ≤ 9223372036854775807 then (if ((rd_T33 x3 x5).f0) = ((rd_T33 x3 x5).f1) then (intrusionref08_Format.l0 k x3 (x4 ++ t451) (wrap64 (x5 + 1))) else (if (x4 ++ t451).size + 1 ≤ 9223372036854775807 then ((intrusionref08_digits.f k ((rd_T33 x3 x5).f1)).bind fun t455 => (if ((x4 ++ t451) ++ (⟨#[58]⟩ : ByteArray)).size + t455.size ≤ 9223372036854775807 then (intrusionref08_Format.l0 k x3 (((x4 ++ t451) ++ (⟨#[58]⟩ : ByteArray)) ++ t455) (wrap64 (x5 + 1))) else (none))) else (none))) else (none))) else (none)) else (none)
end
def intrusionref08_Format.f (k : Nat) (l0 : List (S33)) : Option (ByteArray) := (intrusionref08_ports.f k l0).bind fun t446 => (if (t446.length : Int) = 0 then (some (⟨#[33, 48, 58, 54, 53, 53, 51, 53]⟩ : ByteArray)) else (if 0 < (t446.length : Int) then (if (((rd_T33 t446 0).f0) == 0 && (((rd_T33 t446 0).f1) == 65535)) = true then (some (⟨#[97, 110, 121]⟩ : ByteArray)) else (intrusionref08_Format.l0 k t446 (⟨#[]⟩ : ByteArray) 0)) else (none)))
theorem intrusionref08_Format.mono_l : ∀ k, (∀ y0 y1 y2, LeO (intrusionref08_Format.l0 k y0 y1 y2) (intrusionref08_Format.l0 (k + 1) y0 y1 y2)) ∧ (∀ y0 y1 y2, LeO (intrusionref08_Format.j1 k y0 y1 y2) (intrusionref08_Format.j1 (k + 1) y0 y1 y2))
  | 0 => ⟨fun _ _ _ r h => by simp [intrusionref08_Format.l0] at h, fun _ _ _ r h => by simp [intrusionref08_Format.j1] at h⟩
  | k + 1 => by
    obtain ⟨ih0, ih1⟩ := intrusionref08_Format.mono_l k
    refine ⟨?_, ?_⟩
    · intro y0 y1 y2
      unfold intrusionref08_Format.l0
      repeat' first
      | (with_reducible exact ih0 _ _ _)
      | (with_reducible exact ih1 _ _ _)
      | (with_reducible exact intrusionref08_digits.mono _ _)
      | (with_reducible exact intrusionref08_ports.mono _ _)
      | (with_reducible exact LeO.refl _)
      | (with_reducible exact LeO.none _)
      | (with_reducible refine LeO.ite ?_ ?_)
      | (with_reducible refine LeO.bind ?_ (fun _ => ?_))
      | exact ih0 _ _ _
      | exact ih1 _ _ _
      | exact intrusionref08_digits.mono _ _
      | exact intrusionref08_ports.mono _ _
      | exact LeO.none _
      | refine LeO.ite ?_ ?_
      | refine LeO.bind ?_ (fun _ => ?_)
    · intro y0 y1 y2
      unfold intrusionref08_Format.j1
      repeat' first
      | (with_reducible exact ih0 _ _ _)
      | (with_reducible exact ih1 _ _ _)
      | (with_reducible exact intrusionref08_digits.mono _ _)
      | (with_reducible exact intrusionref08_ports.mono _ _)
      | (with_reducible exact LeO.refl _)
      | (with_reducible exact LeO.none _)
      | (with_reducible refine LeO.ite ?_ ?_)
      | (with_reducible refine LeO.bind ?_ (fun _ => ?_))
      | exact ih0 _ _ _
      | exact ih1 _ _ _
      | exact intrusionref08_digits.mono _ _
      | exact intrusionref08_ports.mono _ _
      | exact LeO.none _
      | refine LeO.ite ?_ ?_
      | refine LeO.bind ?_ (fun _ => ?_)
theorem intrusionref08_Format.mono : ∀ a0 k, LeO (intrusionref08_Format.f k a0) (intrusionref08_Format.f (k + 1) a0) := by
  intro a0 k
  obtain ⟨ih0, ih1⟩ := intrusionref08_Format.mono_l k
  unfold intrusionref08_Format.f
  repeat' first
      | (with_reducible exact ih0 _ _ _)
      | (with_reducible exact ih1 _ _ _)
      | (with_reducible exact intrusionref08_digits.mono _ _)
      | (with_reducible exact intrusionref08_ports.mono _ _)
      | (with_reducible exact LeO.refl _)
      | (with_reducible exact LeO.none _)
      | (with_reducible refine LeO.ite ?_ ?_)
      | (with_reducible refine LeO.bind ?_ (fun _ => ?_))
      | exact ih0 _ _ _
      | exact ih1 _ _ _
      | exact intrusionref08_digits.mono _ _
      | exact intrusionref08_ports.mono _ _
      | exact LeO.none _
      | refine LeO.ite ?_ ?_
      | refine LeO.bind ?_ (fun _ => ?_)
set_option maxHeartbeats 8000000 in
set_option maxRecDepth 100000 in
theorem intrusionref08_Format.calls (k : Nat) (A0 : Option Addr) (c0 : Nat) (l0 : List (S33)) (r : ByteArray) (w : World) (hr0 : Kd.C k33 w A0 l0.length l0) (hc0 : l0.length ≤ c0) (h : intrusionref08_Format.f k l0 = some r) :
 Calls Tryd.prog 15 #[.slice A0 l0.length c0] w fun e w' => e = .returned (.string r) ∧ Below w.heap.size w w' := by
 have hu33 := Tryd.underlying33
 have HR0 := Aside0.mk hr0
 have HC0 := Aside0.mk hc0
 clear hr0 hc0
 have HB := Aside0.mk (Below.refl w.heap.size w)
 unfold intrusionref08_Format.f at h; have H := h
 clear h
 replace H := Option.bind_eq_some_iff.mp H
 obtain ⟨t446, A20, H⟩ := H
 try dsimp only at H
 have A2 := Aside0.mk A20
 clear A20
 by_cases c3 : (t446.length : Int) = 0
 · rw [if_pos c3] at H
   have c3b0 : ((t446.length : Int) == 0) = true := beq_iff_eq.mpr c3
   have c3b1 : ((t446.length : Int) != 0) = false := bne_eq_false_iff_eq.mpr c3
   clear c3
   obtain rfl := Option.some.inj H
   go_enter Tryd.func15, Tryd.ntmps15
   go_wp2_with (first | (go_at_call 33; (with_reducible refine (intrusionref08_ports.calls k _ _ l0 t446 _ ?side1 ?side2 A2.out).mono ?_); (case side1 => repeat (first | exact HR0.out | (with_reducible refine Kd.C_alloc ?_ _) | (with_reducible refine Kd.C_drewN ?_ _) | (with_reducible refine Kd.C_drew ?_))); (case side2 => exact HC0.out); rintro e w4 ⟨v447, rfl, ho0, hb⟩; have HO448 := Aside0.mk (Kd.R_lower ho0 (below_size (zB HB))); replace HB := Aside0.mk (below_step (zB HB) hb); (try clear hb); (try clear ho0); obtain ⟨Ao5, co5, eo5⟩ := Kd.R_slice HO448.out; subst eo5))
   repeat (go_quiet (first | (go_at_call 33; (with_reducible refine (intrusionref08_ports.calls k _ _ l0 t446 _ ?side1 ?side2 A2.out).mono ?_); (case side1 => repeat (first | exact HR0.out | (with_reducible refine Kd.C_alloc ?_ _) | (with_reducible refine Kd.C_drewN ?_ _) | (with_reducible refine Kd.C_drew ?_))); (case side2 => exact HC0.out); rintro e w4 ⟨v447, rfl, ho0, hb⟩; have HO448 := Aside0.mk (Kd.R_lower ho0 (below_size (zB HB))); replace HB := Aside0.mk (below_step (zB HB) hb); (try clear hb); (try clear ho0); obtain ⟨Ao5, co5, eo5⟩ := Kd.R_slice HO448.out; subst eo5)); try go_wp2_with (first | (go_at_call 33; (with_reducible refine (intrusionref08_ports.calls k _ _ l0 t446 _ ?side1 ?side2 A2.out).mono ?_); (case side1 => repeat (first | exact HR0.out | (with_reducible refine Kd.C_alloc ?_ _) | (with_reducible refine Kd.C_drewN ?_ _) | (with_reducible refine Kd.C_drew ?_))); (case side2 => exact HC0.out); rintro e w4 ⟨v447, rfl, ho0, hb⟩; have HO448 := Aside0.mk (Kd.R_lower ho0 (below_size (zB HB))); replace HB := Aside0.mk (below_step (zB HB) hb); (try clear hb); (try clear ho0); obtain ⟨Ao5, co5, eo5⟩ := Kd.R_slice HO448.out; subst eo5)))
   go_ret
   exact ⟨by first | rfl | (simp [errW_none, errW_some] <;> rfl) | (simp [*, errW_none, errW_some] <;> rfl), by repeat (first | (with_reducible first | exact HB.out | apply below_alloc | apply pw_below_drewN | apply below_drew1) | exact HB.out)⟩
 · rw [if_neg c3] at H
   have c3b0 : ((t446.length : Int) == 0) = false := beq_eq_false_iff_ne.mpr c3
   have c3b1 : ((t446.length : Int) != 0) = true := bne_iff_ne.mpr c3
   have c3b2 : ¬ (t446 = []) := fun h_ => c3 (by rw [h_]; rfl)
   by_cases c6 : 0 < (t446.length : Int)
   · rw [if_pos c6] at H
     have c6b0 : decide (0 < (t446.length : Int)) = true := decide_eq_true c6
     have c6b1 : decide (0 < t446.length) = true := decide_eq_true (by omega)
     clear c6
     by_cases c7 : (((rd_T33 t446 0).f0) == 0 && (((rd_T33 t446 0).f1) == 65535)) = true
     · rw [if_pos c7] at H
       have c7b0 : (((rd_T33 t446 0).f0) == 0 && (((rd_T33 t446 0).f1) == 65535)) = true := c7
       (try (have c7b1 : decide (((rd_T33 t446 0).f0) = 0 && (((rd_T33 t446 0).f1) == 65535)) = true := by first | (simpa using c7) | exact decide_eq_true (Decidable.not_not.1 (fun hn => c7 (bne_iff_ne.2 hn))) | exact beq_iff_eq.2 (Decidable.not_not.1 (fun hn => c7 (bne_iff_ne.2 hn))) | exact decide_eq_false (bne_iff_ne.1 c7) | exact beq_eq_false_iff_ne.2 (bne_iff_ne.1 c7) | exact bne_iff_ne.1 c7))
       (try (have c7b2 : (((rd_T33 t446 0).f0) == 0 && (((rd_T33 t446 0).f1) == 65535)) = true := by first | (simpa using c7) | exact decide_eq_true (Decidable.not_not.1 (fun hn => c7 (bne_iff_ne.2 hn))) | exact beq_iff_eq.2 (Decidable.not_not.1 (fun hn => c7 (bne_iff_ne.2 hn))) | exact decide_eq_false (bne_iff_ne.1 c7) | exact beq_eq_false_iff_ne.2 (bne_iff_ne.1 c7) | exact bne_iff_ne.1 c7))
       clear c7
       obtain rfl := Option.some.inj H
       go_enter Tryd.func15, Tryd.ntmps15
       (try (obtain ⟨Ax_, cx_, ex_⟩ := Kd.R_slice HO448.out; subst ex_))
       go_wp2_with (first | (go_at_call 33; (with_reducible refine (intrusionref08_ports.calls k _ _ l0 t446 _ ?side1 ?side2 A2.out).mono ?_); (case side1 => repeat (first | exact HR0.out | (with_reducible refine Kd.C_alloc ?_ _) | (with_reducible refine Kd.C_drewN ?_ _) | (with_reducible refine Kd.C_drew ?_))); (case side2 => exact HC0.out); rintro e w8 ⟨v447, rfl, ho0, hb⟩; have HO448 := Aside0.mk (Kd.R_lower ho0 (below_size (zB HB))); replace HB := Aside0.mk (below_step (zB HB) hb); (try clear hb); (try clear ho0); obtain ⟨Ao9, co9, eo9⟩ := Kd.R_slice HO448.out; subst eo9; have p449 : 0 ≤ (0 : Int) := (by omega); have q449 : 0 < (t446.length : Int) := za; obtain ⟨ad449, e449, hx449_0, hx449_1⟩ := at_T33 (Kd.R_reads' HO448.out).2.2 0 p449 q449; cases e449; have qi449 : (0 < t446.length) = True := eq_true (by omega); (try rw [show ((0 : Int)).toNat = 0 from rfl] at hx449_0); (try rw [show 0 * 2 = 0 from rfl] at hx449_0); (try rw [Addr.add_zero'] at hx449_0); (try rw [show ((0 : Int)).toNat = 0 from rfl] at hx449_1); (try rw [show 0 * 2 = 0 from rfl] at hx449_1); (try rw [Addr.add_zero'] at hx449_1); replace p449 := eq_true p449; replace q449 := eq_true q449))
       repeat (go_quiet (first | (go_at_call 33; (with_reducible refine (intrusionref08_ports.calls k _ _ l0 t446 _ ?side1 ?side2 A2.out).mono ?_); (case side1 => repeat (first | exact HR0.out | (with_reducible refine Kd.C_alloc ?_ _) | (with_reducible refine Kd.C_drewN ?_ _) | (with_reducible refine Kd.C_drew ?_))); (case side2 => exact HC0.out); rintro e w8 ⟨v447, rfl, ho0, hb⟩; have HO448 := Aside0.mk (Kd.R_lower ho0 (below_size (zB HB))); replace HB := Aside0.mk (below_step (zB HB) hb); (try clear hb); (try clear ho0); obtain ⟨Ao9, co9, eo9⟩ := Kd.R_slice HO448.out; subst eo9; have p449 : 0 ≤ (0 : Int) := (by omega); have q449 : 0 < (t446.length : Int) := za; obtain ⟨ad449, e449, hx449_0, hx449_1⟩ := at_T33 (Kd.R_reads' HO448.out).2.2 0 p449 q449; cases e449; have qi449 : (0 < t446.length) = True := eq_true (by omega); (try rw [show ((0 : Int)).toNat = 0 from rfl] at hx449_0); (try rw [show 0 * 2 = 0 from rfl] at hx449_0); (try rw [Addr.add_zero'] at hx449_0); (try rw [show ((0 : Int)).toNat = 0 from rfl] at hx449_1); (try rw [show 0 * 2 = 0 from rfl] at hx449_1); (try rw [Addr.add_zero'] at hx449_1); replace p449 := eq_true p449; replace q449 := eq_true q449)); try go_wp2_with (first | (go_at_call 33; (with_reducible refine (intrusionref08_ports.calls k _ _ l0 t446 _ ?side1 ?side2 A2.out).mono ?_); (case side1 => repeat (first | exact HR0.out | (with_reducible refine Kd.C_alloc ?_ _) | (with_reducible refine Kd.C_drewN ?_ _) | (with_reducible refine Kd.C_drew ?_))); (case side2 => exact HC0.out); rintro e w8 ⟨v447, rfl, ho0, hb⟩; have HO448 := Aside0.mk (Kd.R_lower ho0 (below_size (zB HB))); replace HB := Aside0.mk (below_step (zB HB) hb); (try clear hb); (try clear ho0); obtain ⟨Ao9, co9, eo9⟩ := Kd.R_slice HO448.out; subst eo9; have p449 : 0 ≤ (0 : Int) := (by omega); have q449 : 0 < (t446.length : Int) := za; obtain ⟨ad449, e449, hx449_0, hx449_1⟩ := at_T33 (Kd.R_reads' HO448.out).2.2 0 p449 q449; cases e449; have qi449 : (0 < t446.length) = True := eq_true (by omega); (try rw [show ((0 : Int)).toNat = 0 from rfl] at hx449_0); (try rw [show 0 * 2 = 0 from rfl] at hx449_0); (try rw [Addr.add_zero'] at hx449_0); (try rw [show ((0 : Int)).toNat = 0 from rfl] at hx449_1); (try rw [show 0 * 2 = 0 from rfl] at hx449_1); (try rw [Addr.add_zero'] at hx449_1); replace p449 := eq_true p449; replace q449 := eq_true q449)))
       go_ret
       exact ⟨by first | rfl | (simp [errW_none, errW_some] <;> rfl) | (simp [*, errW_none, errW_some] <;> rfl), by repeat (first | (with_reducible first | exact HB.out | apply below_alloc | apply pw_below_drewN | apply below_drew1) | exact HB.out)⟩
     · rw [if_neg c7] at H
       have c7b0 : (((rd_T33 t446 0).f0) == 0 && (((rd_T33 t446 0).f1) == 65535)) = false := by simpa using c7
       (try (have c7b1 : decide (((rd_T33 t446 0).f0) = 0 && (((rd_T33 t446 0).f1) == 65535)) = false := by first | (simpa using c7) | exact decide_eq_true (Decidable.not_not.1 (fun hn => c7 (bne_iff_ne.2 hn))) | exact beq_iff_eq.2 (Decidable.not_not.1 (fun hn => c7 (bne_iff_ne.2 hn))) | exact decide_eq_false (bne_iff_ne.1 c7) | exact beq_eq_false_iff_ne.2 (bne_iff_ne.1 c7) | exact bne_iff_ne.1 c7))
       (try (have c7b2 : (((rd_T33 t446 0).f0) == 0 && (((rd_T33 t446 0).f1) == 65535)) = false := by first | (simpa using c7) | exact decide_eq_true (Decidable.not_not.1 (fun hn => c7 (bne_iff_ne.2 hn))) | exact beq_iff_eq.2 (Decidable.not_not.1 (fun hn => c7 (bne_iff_ne.2 hn))) | exact decide_eq_false (bne_iff_ne.1 c7) | exact beq_eq_false_iff_ne.2 (bne_iff_ne.1 c7) | exact bne_iff_ne.1 c7))
       (try (have c7b3 : ¬ (((rd_T33 t446 0).f0) = 0 && (((rd_T33 t446 0).f1) == 65535)) := by first | (simpa using c7) | exact decide_eq_true (Decidable.not_not.1 (fun hn => c7 (bne_iff_ne.2 hn))) | exact beq_iff_eq.2 (Decidable.not_not.1 (fun hn => c7 (bne_iff_ne.2 hn))) | exact decide_eq_false (bne_iff_ne.1 c7) | exact beq_eq_false_iff_ne.2 (bne_iff_ne.1 c7) | exact bne_iff_ne.1 c7))
       clear c7
       have H' := Aside0.mk H
       clear H
       go_enter Tryd.func15, Tryd.ntmps15
       (try (obtain ⟨Ax_, cx_, ex_⟩ := Kd.R_slice HO448.out; subst ex_))
       go_wp2_with (first | (go_at_call 33; (with_reducible refine (intrusionref08_ports.calls k _ _ l0 t446 _ ?side1 ?side2 A2.out).mono ?_); (case side1 => repeat (first | exact HR0.out | (with_reducible refine Kd.C_alloc ?_ _) | (with_reducible refine Kd.C_drewN ?_ _) | (with_reducible refine Kd.C_drew ?_))); (case side2 => exact HC0.out); rintro e w10 ⟨v447, rfl, ho0, hb⟩; have HO448 := Aside0.mk (Kd.R_lower ho0 (below_size (zB HB))); replace HB := Aside0.mk (below_step (zB HB) hb); (try clear hb); (try clear ho0); obtain ⟨Ao11, co11, eo11⟩ := Kd.R_slice HO448.out; subst eo11; have p449 : 0 ≤ (0 : Int) := (by omega); have q449 : 0 < (t446.length : Int) := za; obtain ⟨ad449, e449, hx449_0, hx449_1⟩ := at_T33 (Kd.R_reads' HO448.out).2.2 0 p449 q449; cases e449; have qi449 : (0 < t446.length) = True := eq_true (by omega); (try rw [show ((0 : Int)).toNat = 0 from rfl] at hx449_0); (try rw [show 0 * 2 = 0 from rfl] at hx449_0); (try rw [Addr.add_zero'] at hx449_0); (try rw [show ((0 : Int)).toNat = 0 from rfl] at hx449_1); (try rw [show 0 * 2 = 0 from rfl] at hx449_1); (try rw [Addr.add_zero'] at hx449_1); replace p449 := eq_true p449; replace q449 := eq_true q449))
       repeat (go_quiet (first | (go_at_call 33; (with_reducible refine (intrusionref08_ports.calls k _ _ l0 t446 _ ?side1 ?side2 A2.out).mono ?_); (case side1 => repeat (first | exact HR0.out | (with_reducible refine Kd.C_alloc ?_ _) | (with_reducible refine Kd.C_drewN ?_ _) | (with_reducible refine Kd.C_drew ?_))); (case side2 => exact HC0.out); rintro e w10 ⟨v447, rfl, ho0, hb⟩; have HO448 := Aside0.mk (Kd.R_lower ho0 (below_size (zB HB))); replace HB := Aside0.mk (below_step (zB HB) hb); (try clear hb); (try clear ho0); obtain ⟨Ao11, co11, eo11⟩ := Kd.R_slice HO448.out; subst eo11; have p449 : 0 ≤ (0 : Int) := (by omega); have q449 : 0 < (t446.length : Int) := za; obtain ⟨ad449, e449, hx449_0, hx449_1⟩ := at_T33 (Kd.R_reads' HO448.out).2.2 0 p449 q449; cases e449; have qi449 : (0 < t446.length) = True := eq_true (by omega); (try rw [show ((0 : Int)).toNat = 0 from rfl] at hx449_0); (try rw [show 0 * 2 = 0 from rfl] at hx449_0); (try rw [Addr.add_zero'] at hx449_0); (try rw [show ((0 : Int)).toNat = 0 from rfl] at hx449_1); (try rw [show 0 * 2 = 0 from rfl] at hx449_1); (try rw [Addr.add_zero'] at hx449_1); replace p449 := eq_true p449; replace q449 := eq_true q449)); try go_wp2_with (first | (go_at_call 33; (with_reducible refine (intrusionref08_ports.calls k _ _ l0 t446 _ ?side1 ?side2 A2.out).mono ?_); (case side1 => repeat (first | exact HR0.out | (with_reducible refine Kd.C_alloc ?_ _) | (with_reducible refine Kd.C_drewN ?_ _) | (with_reducible refine Kd.C_drew ?_))); (case side2 => exact HC0.out); rintro e w10 ⟨v447, rfl, ho0, hb⟩; have HO448 := Aside0.mk (Kd.R_lower ho0 (below_size (zB HB))); replace HB := Aside0.mk (below_step (zB HB) hb); (try clear hb); (try clear ho0); obtain ⟨Ao11, co11, eo11⟩ := Kd.R_slice HO448.out; subst eo11; have p449 : 0 ≤ (0 : Int) := (by omega); have q449 : 0 < (t446.length : Int) := za; obtain ⟨ad449, e449, hx449_0, hx449_1⟩ := at_T33 (Kd.R_reads' HO448.out).2.2 0 p449 q449; cases e449; have qi449 : (0 < t446.length) = True := eq_true (by omega); (try rw [show ((0 : Int)).toNat = 0 from rfl] at hx449_0); (try rw [show 0 * 2 = 0 from rfl] at hx449_0); (try rw [Addr.add_zero'] at hx449_0); (try rw [show ((0 : Int)).toNat = 0 from rfl] at hx449_1); (try rw [show 0 * 2 = 0 from rfl] at hx449_1); (try rw [Addr.add_zero'] at hx449_1); replace p449 := eq_true p449; replace q449 := eq_true q449)))
       go_loopg [4, 5] k (fun kq v4 v5 w' => ∃ (x4_1 : ByteArray) (x5_1 : Int), v4 = .string x4_1 ∧ v5 = .int .i64 x5_1 ∧ Aside0 (intrusionref08_Format.l0 kq t446 x4_1 x5_1 = some r) ∧ Aside0 (kq ≤ k) ∧ Aside0 (Kd.R k33 33 w' w.heap.size (fun _ => True) (.slice (some ad449) t446.length co11) t446) ∧ Aside0 (Below w.heap.size w w'))
       case atStart => exact ⟨((⟨#[]⟩ : ByteArray)), (0), (by first | rfl | (simp; done) | (simp [*]; done)), (by first | rfl | (simp; done) | (simp [*]; done)), H', ⟨Nat.le_refl _⟩, ⟨zR HO448⟩, ⟨zB HB⟩⟩
       case round =>
        clear H'
        try clear c1
        try clear p2
        try clear c3
        try clear c3b0
        try clear c3b1
        try clear c3b2
        try clear p4
        try clear q4
        try clear hx4
        try clear qi4
        try clear c6
        try clear c6b0
        try clear c6b1
        try clear c7
        try clear c7b0
        try clear c7b1
        try clear c7b2
        try clear hx449_0
        try clear hx449_1
        try clear p449
        try clear q449
        obtain ⟨x4_1, x5_1, rfl, rfl, HA, HK1, HO_3, HB⟩ := hrel
        cases gk with
        | zero => exact absurd HA.out (by simp [intrusionref08_Format.l0])
        | succ k1 =>
         have H := HA.out
         clear HA
         simp only [intrusionref08_Format.l0] at H
         by_cases c12 : x5_1 < (t446.length : Int)
         · rw [if_pos c12] at H
           have c12b0 : decide (x5_1 < (t446.length : Int)) = true := decide_eq_true c12
           clear c12
           have HC13 := Aside0.mk H
           clear H
           go_upto_if 23 with (fail)
           repeat (go_quiet (fail); go_upto_if 23 with (fail))
           go_cut [4] (fun v4 wc => ∃ (kq : Nat) (x4_12 : ByteArray), v4 = .string x4_12 ∧ Aside0 (intrusionref08_Format.j1 kq t446 x4_12 x5_1 = some r) ∧ Aside0 (kq ≤ k1) ∧ Aside0 (Kd.R k33 33 wc w.heap.size (fun _ => True) (.slice (some ad449) t446.length co11) t446) ∧ Aside0 (Below w.heap.size w wc))
           case first =>
            have H := HC13.out
            clear HC13
            by_cases c14 : x5_1 > 0
            · rw [if_pos c14] at H
              have c14b0 : decide (0 < x5_1) = true := decide_eq_true c14
              clear c14
              (first | rw [c14b0] | (simp only [i64_w, i32_w]; rw [c14b0]) | skip)
              by_cases c15 : x4_1.size + 1 ≤ 9223372036854775807
              · rw [if_pos c15] at H
                have c15b0 := eq_true c15
                have c15b1 : decide (x4_1.size + 1 ≤ 9223372036854775807) = true := decide_eq_true c15
                try have c15b2 : (9223372036854775807 < x4_1.size + 1) = False := eq_false (Nat.not_lt.2 c15)
                have H' := Aside0.mk H
                clear H
                go_wp2
                repeat (go_quiet (fail); try go_wp2)
                go_meet
                case rel => exact ⟨_, (x4_1 ++ (⟨#[44]⟩ : ByteArray)), (by first | rfl | (simp; done) | (simp [*]; done)), H', ⟨by have := HK1.out; first | omega | exact Nat.le_refl _⟩, ⟨zR HO_3⟩, ⟨zB HB⟩⟩
              · rw [if_neg c15] at H
                exact absurd H (by simp)
            · rw [if_neg c14] at H
              have c14b0 : decide (0 < x5_1) = false := decide_eq_false c14
              clear c14
              (first | rw [c14b0] | (simp only [i64_w, i32_w]; rw [c14b0]) | skip)
              have H' := Aside0.mk H
              clear H
              go_wp2
              repeat (go_quiet (fail); try go_wp2)
              go_meet
              case rel => exact ⟨_, (x4_1), (by first | rfl | (simp; done) | (simp [*]; done)), H', ⟨by have := HK1.out; first | omega | exact Nat.le_refl _⟩, ⟨zR HO_3⟩, ⟨zB HB⟩⟩
           case rest =>
            clear HC13
            try clear c1
            try clear p2
            try clear c3
            try clear c3b0
            try clear c3b1
            try clear c3b2
            try clear p4
            try clear q4
            try clear hx4
            try clear qi4
            try clear c6
            try clear c6b0
            try clear c6b1
            try clear c7
            try clear c7b0
            try clear c7b1
            try clear c7b2
            try clear c12
            try clear c12b0
            try clear c14
            try clear c14b0
            try clear c15
            try clear c15b0
            try clear c15b1
            try clear c15b2
            try clear hx449_0
            try clear hx449_1
            try clear p2
            try clear p4
            try clear p449
            try clear q4
            try clear q449
            obtain ⟨kq, x4_12, rfl, HA, HJ12, HO_3, HB⟩ := hcut
            cases kq with
            | zero => exact absurd HA.out (by simp [intrusionref08_Format.j1])
            | succ kj12 =>
             have H := HA.out
             clear HA
             simp only [intrusionref08_Format.j1] at H
             by_cases c16 : 0 ≤ x5_1
             · rw [if_pos c16] at H
               have c16b0 : decide (0 ≤ x5_1) = true := decide_eq_true c16
               clear c16
               by_cases c17 : x5_1 < (t446.length : Int)
               · rw [if_pos c17] at H
                 have c17b0 : decide (x5_1 < (t446.length : Int)) = true := decide_eq_true c17
                 clear c17
                 replace H := Option.bind_eq_some_iff.mp H
                 obtain ⟨t451, A180, H⟩ := H
                 try dsimp only at H
                 have A18 := Aside0.mk A180
                 clear A180
                 by_cases c19 : x4_12.size + t451.size ≤ 9223372036854775807
                 · rw [if_pos c19] at H
                   have c19b0 := eq_true c19
                   have c19b1 : decide (x4_12.size + t451.size ≤ 9223372036854775807) = true := decide_eq_true c19
                   try have c19b2 : (9223372036854775807 < x4_12.size + t451.size) = False := eq_false (Nat.not_lt.2 c19)
                   by_cases c20 : ((rd_T33 t446 x5_1).f0) = ((rd_T33 t446 x5_1).f1)
                   · rw [if_pos c20] at H
                     have c20b0 : (((rd_T33 t446 x5_1).f0) == ((rd_T33 t446 x5_1).f1)) = true := beq_iff_eq.mpr c20
                     have c20b1 : (((rd_T33 t446 x5_1).f0) != ((rd_T33 t446 x5_1).f1)) = false := bne_eq_false_iff_eq.mpr c20
                     clear c20
                     have H' := Aside0.mk H
                     clear H
                     have p450 : 0 ≤ (x5_1 : Int) := za
                     have q450 : x5_1 < (t446.length : Int) := za
                     (try (obtain ⟨Ax_, cx_, ex_⟩ := Kd.R_slice HO_3.out; subst ex_))
                     obtain ⟨ad450, e450, hx450_0, hx450_1⟩ := at_T33 (Kd.R_reads' HO_3.out).2.2 x5_1 p450 q450
                     obtain rfl : ad449 = ad450 := (by injection e450)
                     replace p450 := eq_true p450
                     replace q450 := eq_true q450
                     go_wp2_with (first | (go_at_call 34; (with_reducible refine (intrusionref08_digits.calls kj12 ((rd_T33 t446 x5_1).f0) t451 _ A18.out).mono ?_); rintro e w21 ⟨rfl, hb⟩; replace HO_3 := Aside0.mk (Kd.R_below (zR HO_3) hb); replace HB := Aside0.mk (below_step (zB HB) hb); (try clear hb); have p452 : 0 ≤ (x5_1 : Int) := za; have q452 : x5_1 < (t446.length : Int) := za; obtain ⟨ad452, e452, hx452_0, hx452_1⟩ := at_T33 (Kd.R_reads' HO_3.out).2.2 x5_1 p452 q452; obtain rfl : ad449 = ad452 := (by injection e452); replace p452 := eq_true p452; replace q452 := eq_true q452; have p453 : 0 ≤ (x5_1 : Int) := za; have q453 : x5_1 < (t446.length : Int) := za; obtain ⟨ad453, e453, hx453_0, hx453_1⟩ := at_T33 (Kd.R_reads' HO_3.out).2.2 x5_1 p453 q453; obtain rfl : ad449 = ad453 := (by injection e453); replace p453 := eq_true p453; replace q453 := eq_true q453))
                     repeat (go_quiet (first | (go_at_call 34; (with_reducible refine (intrusionref08_digits.calls kj12 ((rd_T33 t446 x5_1).f0) t451 _ A18.out).mono ?_); rintro e w21 ⟨rfl, hb⟩; replace HO_3 := Aside0.mk (Kd.R_below (zR HO_3) hb); replace HB := Aside0.mk (below_step (zB HB) hb); (try clear hb); have p452 : 0 ≤ (x5_1 : Int) := za; have q452 : x5_1 < (t446.length : Int) := za; obtain ⟨ad452, e452, hx452_0, hx452_1⟩ := at_T33 (Kd.R_reads' HO_3.out).2.2 x5_1 p452 q452; obtain rfl : ad449 = ad452 := (by injection e452); replace p452 := eq_true p452; replace q452 := eq_true q452; have p453 : 0 ≤ (x5_1 : Int) := za; have q453 : x5_1 < (t446.length : Int) := za; obtain ⟨ad453, e453, hx453_0, hx453_1⟩ := at_T33 (Kd.R_reads' HO_3.out).2.2 x5_1 p453 q453; obtain rfl : ad449 = ad453 := (by injection e453); replace p453 := eq_true p453; replace q453 := eq_true q453)); try go_wp2_with (first | (go_at_call 34; (with_reducible refine (intrusionref08_digits.calls kj12 ((rd_T33 t446 x5_1).f0) t451 _ A18.out).mono ?_); rintro e w21 ⟨rfl, hb⟩; replace HO_3 := Aside0.mk (Kd.R_below (zR HO_3) hb); replace HB := Aside0.mk (below_step (zB HB) hb); (try clear hb); have p452 : 0 ≤ (x5_1 : Int) := za; have q452 : x5_1 < (t446.length : Int) := za; obtain ⟨ad452, e452, hx452_0, hx452_1⟩ := at_T33 (Kd.R_reads' HO_3.out).2.2 x5_1 p452 q452; obtain rfl : ad449 = ad452 := (by injection e452); replace p452 := eq_true p452; replace q452 := eq_true q452; have p453 : 0 ≤ (x5_1 : Int) := za; have q453 : x5_1 < (t446.length : Int) := za; obtain ⟨ad453, e453, hx453_0, hx453_1⟩ := at_T33 (Kd.R_reads' HO_3.out).2.2 x5_1 p453 q453; obtain rfl : ad449 = ad453 := (by injection e453); replace p453 := eq_true p453; replace q453 := eq_true q453)))
                     go_roundg kj12
                     case measure => have := HK1.out; have := HJ12.out; omega
                     case rel => exact ⟨(x4_12 ++ t451), (wrap64 (x5_1 + 1)), (by first | rfl | (simp; done) | (simp [*]; done)), (by first | rfl | (simp; done) | (simp [*]; done)), H', ⟨by have := HK1.out; have := HJ12.out; omega⟩, ⟨zR HO_3⟩, ⟨zB HB⟩⟩
                   · rw [if_neg c20] at H
                     have c20b0 : (((rd_T33 t446 x5_1).f0) == ((rd_T33 t446 x5_1).f1)) = false := beq_eq_false_iff_ne.mpr c20
                     have c20b1 : (((rd_T33 t446 x5_1).f0) != ((rd_T33 t446 x5_1).f1)) = true := bne_iff_ne.mpr c20
                     by_cases c22 : (x4_12 ++ t451).size + 1 ≤ 9223372036854775807
                     · rw [if_pos c22] at H
                       have c22b0 := eq_true c22
                       have c22b8 : x4_12.size + t451.size + 1 ≤ 9223372036854775807 := by have q_ := c22; simp only [ByteArray.size_append] at q_; first | exact q_ | (rw [Nat.add_assoc]; exact q_)
                       have c22b7 : (9223372036854775807 < x4_12.size + t451.size + 1) = False := eq_false (Nat.not_lt.2 c22b8)
                       replace c22b8 := eq_true c22b8
                       have c22b1 : decide ((x4_12 ++ t451).size + 1 ≤ 9223372036854775807) = true := decide_eq_true c22
                       try have c22b2 : (9223372036854775807 < (x4_12 ++ t451).size + 1) = False := eq_false (Nat.not_lt.2 c22)
                       replace H := Option.bind_eq_some_iff.mp H
                       obtain ⟨t455, A230, H⟩ := H
                       try dsimp only at H
                       have A23 := Aside0.mk A230
                       clear A230
                       by_cases c24 : ((x4_12 ++ t451) ++ (⟨#[58]⟩ : ByteArray)).size + t455.size ≤ 9223372036854775807
                       · rw [if_pos c24] at H
                         have c24b0 := eq_true c24
                         have c24b8 : x4_12.size + t451.size + 1 + t455.size ≤ 9223372036854775807 := by have q_ := c24; simp only [ByteArray.size_append] at q_; first | exact q_ | (rw [Nat.add_assoc]; exact q_)
                         have c24b7 : (9223372036854775807 < x4_12.size + t451.size + 1 + t455.size) = False := eq_false (Nat.not_lt.2 c24b8)
                         replace c24b8 := eq_true c24b8
                         have c24b1 : decide (((x4_12 ++ t451) ++ (⟨#[58]⟩ : ByteArray)).size + t455.size ≤ 9223372036854775807) = true := decide_eq_true c24
                         try have c24b2 : (9223372036854775807 < ((x4_12 ++ t451) ++ (⟨#[58]⟩ : ByteArray)).size + t455.size) = False := eq_false (Nat.not_lt.2 c24)
                         have H' := Aside0.mk H
                         clear H
                         have p450 : 0 ≤ (x5_1 : Int) := za
                         have q450 : x5_1 < (t446.length : Int) := za
                         (try (obtain ⟨Ax_, cx_, ex_⟩ := Kd.R_slice HO_3.out; subst ex_))
                         obtain ⟨ad450, e450, hx450_0, hx450_1⟩ := at_T33 (Kd.R_reads' HO_3.out).2.2 x5_1 p450 q450
                         obtain rfl : ad449 = ad450 := (by injection e450)
                         replace p450 := eq_true p450
                         replace q450 := eq_true q450
                         go_wp2_with (first | (go_at_call 34; (with_reducible refine (intrusionref08_digits.calls kj12 ((rd_T33 t446 x5_1).f0) t451 _ A18.out).mono ?_); rintro e w25 ⟨rfl, hb⟩; replace HO_3 := Aside0.mk (Kd.R_below (zR HO_3) hb); replace HB := Aside0.mk (below_step (zB HB) hb); (try clear hb); have p452 : 0 ≤ (x5_1 : Int) := za; have q452 : x5_1 < (t446.length : Int) := za; obtain ⟨ad452, e452, hx452_0, hx452_1⟩ := at_T33 (Kd.R_reads' HO_3.out).2.2 x5_1 p452 q452; obtain rfl : ad449 = ad452 := (by injection e452); replace p452 := eq_true p452; replace q452 := eq_true q452; have p453 : 0 ≤ (x5_1 : Int) := za; have q453 : x5_1 < (t446.length : Int) := za; obtain ⟨ad453, e453, hx453_0, hx453_1⟩ := at_T33 (Kd.R_reads' HO_3.out).2.2 x5_1 p453 q453; obtain rfl : ad449 = ad453 := (by injection e453); replace p453 := eq_true p453; replace q453 := eq_true q453; have p454 : 0 ≤ (x5_1 : Int) := za; have q454 : x5_1 < (t446.length : Int) := za; obtain ⟨ad454, e454, hx454_0, hx454_1⟩ := at_T33 (Kd.R_reads' HO_3.out).2.2 x5_1 p454 q454; obtain rfl : ad449 = ad454 := (by injection e454); replace p454 := eq_true p454; replace q454 := eq_true q454) | (go_at_call 34; (with_reducible refine (intrusionref08_digits.calls kj12 ((rd_T33 t446 x5_1).f1) t455 _ A23.out).mono ?_); rintro e w26 ⟨rfl, hb⟩; replace HO_3 := Aside0.mk (Kd.R_below (zR HO_3) hb); replace HB := Aside0.mk (below_step (zB HB) hb); (try clear hb)))
                         repeat (go_quiet (first | (go_at_call 34; (with_reducible refine (intrusionref08_digits.calls kj12 ((rd_T33 t446 x5_1).f0) t451 _ A18.out).mono ?_); rintro e w25 ⟨rfl, hb⟩; replace HO_3 := Aside0.mk (Kd.R_below (zR HO_3) hb); replace HB := Aside0.mk (below_step (zB HB) hb); (try clear hb); have p452 : 0 ≤ (x5_1 : Int) := za; have q452 : x5_1 < (t446.length : Int) := za; obtain ⟨ad452, e452, hx452_0, hx452_1⟩ := at_T33 (Kd.R_reads' HO_3.out).2.2 x5_1 p452 q452; obtain rfl : ad449 = ad452 := (by injection e452); replace p452 := eq_true p452; replace q452 := eq_true q452; have p453 : 0 ≤ (x5_1 : Int) := za; have q453 : x5_1 < (t446.length : Int) := za; obtain ⟨ad453, e453, hx453_0, hx453_1⟩ := at_T33 (Kd.R_reads' HO_3.out).2.2 x5_1 p453 q453; obtain rfl : ad449 = ad453 := (by injection e453); replace p453 := eq_true p453; replace q453 := eq_true q453; have p454 : 0 ≤ (x5_1 : Int) := za; have q454 : x5_1 < (t446.length : Int) := za; obtain ⟨ad454, e454, hx454_0, hx454_1⟩ := at_T33 (Kd.R_reads' HO_3.out).2.2 x5_1 p454 q454; obtain rfl : ad449 = ad454 := (by injection e454); replace p454 := eq_true p454; replace q454 := eq_true q454) | (go_at_call 34; (with_reducible refine (intrusionref08_digits.calls kj12 ((rd_T33 t446 x5_1).f1) t455 _ A23.out).mono ?_); rintro e w26 ⟨rfl, hb⟩; replace HO_3 := Aside0.mk (Kd.R_below (zR HO_3) hb); replace HB := Aside0.mk (below_step (zB HB) hb); (try clear hb))); try go_wp2_with (first | (go_at_call 34; (with_reducible refine (intrusionref08_digits.calls kj12 ((rd_T33 t446 x5_1).f0) t451 _ A18.out).mono ?_); rintro e w25 ⟨rfl, hb⟩; replace HO_3 := Aside0.mk (Kd.R_below (zR HO_3) hb); replace HB := Aside0.mk (below_step (zB HB) hb); (try clear hb); have p452 : 0 ≤ (x5_1 : Int) := za; have q452 : x5_1 < (t446.length : Int) := za; obtain ⟨ad452, e452, hx452_0, hx452_1⟩ := at_T33 (Kd.R_reads' HO_3.out).2.2 x5_1 p452 q452; obtain rfl : ad449 = ad452 := (by injection e452); replace p452 := eq_true p452; replace q452 := eq_true q452; have p453 : 0 ≤ (x5_1 : Int) := za; have q453 : x5_1 < (t446.length : Int) := za; obtain ⟨ad453, e453, hx453_0, hx453_1⟩ := at_T33 (Kd.R_reads' HO_3.out).2.2 x5_1 p453 q453; obtain rfl : ad449 = ad453 := (by injection e453); replace p453 := eq_true p453; replace q453 := eq_true q453; have p454 : 0 ≤ (x5_1 : Int) := za; have q454 : x5_1 < (t446.length : Int) := za; obtain ⟨ad454, e454, hx454_0, hx454_1⟩ := at_T33 (Kd.R_reads' HO_3.out).2.2 x5_1 p454 q454; obtain rfl : ad449 = ad454 := (by injection e454); replace p454 := eq_true p454; replace q454 := eq_true q454) | (go_at_call 34; (with_reducible refine (intrusionref08_digits.calls kj12 ((rd_T33 t446 x5_1).f1) t455 _ A23.out).mono ?_); rintro e w26 ⟨rfl, hb⟩; replace HO_3 := Aside0.mk (Kd.R_below (zR HO_3) hb); replace HB := Aside0.mk (below_step (zB HB) hb); (try clear hb))))
                         go_roundg kj12
                         case measure => have := HK1.out; have := HJ12.out; omega
                         case rel => exact ⟨(((x4_12 ++ t451) ++ (⟨#[58]⟩ : ByteArray)) ++ t455), (wrap64 (x5_1 + 1)), (by first | rfl | (simp; done) | (simp [*]; done)), (by first | rfl | (simp; done) | (simp [*]; done)), H', ⟨by have := HK1.out; have := HJ12.out; omega⟩, ⟨zR HO_3⟩, ⟨zB HB⟩⟩
                       · rw [if_neg c24] at H
                         exact absurd H (by simp)
                     · rw [if_neg c22] at H
                       exact absurd H (by simp)
                 · rw [if_neg c19] at H
                   exact absurd H (by simp)
               · rw [if_neg c17] at H
                 exact absurd H (by simp)
             · rw [if_neg c16] at H
               exact absurd H (by simp)
         · rw [if_neg c12] at H
           have c12b0 : decide (x5_1 < (t446.length : Int)) = false := decide_eq_false c12
           clear c12
           obtain rfl := Option.some.inj H
           go_wp2
           repeat (go_quiet (fail); try go_wp2)
           go_ret
           exact ⟨by first | rfl | (simp [errW_none, errW_some] <;> rfl) | (simp [*, errW_none, errW_some] <;> rfl), by repeat (first | (with_reducible first | exact HB.out | apply below_alloc | apply pw_below_drewN | apply below_drew1) | exact HB.out)⟩
   · rw [if_neg c6] at H
     exact absurd H (by simp)
end Go.Proofs.YtbimdjciacnioaaDoor.Q
end

section
namespace Go.Proofs.YtbimdjciacnioaaDoor.Q
open Go.RowKit Go.Proofs.YtbimdjciacnioaaDoorW.PrintWords Go.Proofs.YtbimdjciacnioaaDoorW.PrintLast Go.Proofs.YtbimdjciacnioaaDoorW.PrintMore
attribute [local go_sem] max2_int min2_int max_two min_two max_three min_three max_four min_four
set_option linter.unusedVariables false
set_option linter.unusedSimpArgs false
def intrusionlaw08_PortsetFormats.f (k : Nat) (l0 : List (S33)) : Option (Bool) := (intrusionlaw08_large.f l0).bind fun t456 => (if t456 = true then ((intrusionlaw08_awake.f k).bind fun t457 => (if t457 = true then (some true) else ((portset_Format.f k l0).bind fun t458 => ((intrusionref08_Format.f k l0).bind fun t459 => (if t458.toList = t459.toList then ((intrusionlaw08_awake.f k).bind fun t460 => (some t460)) else (some false)))))) else ((portset_Format.f k l0).bind fun t461 => ((intrusionref08_Format.f k l0).bind fun t462 => (if t461.toList = t462.toList then ((intrusionlaw08_awake.f k).bind fun t463 => (some t463)) else (some false)))))
theorem intrusionlaw08_PortsetFormats.mono : ∀ a0 k, LeO (intrusionlaw08_PortsetFormats.f k a0) (intrusionlaw08_PortsetFormats.f (k + 1) a0) := by
  intro a0 k
  unfold intrusionlaw08_PortsetFormats.f
  repeat' first
      | (with_reducible exact intrusionlaw08_awake.mono _)
      | (with_reducible exact intrusionref08_Format.mono _ _)
      | (with_reducible exact portset_Format.mono _ _)
      | (with_reducible exact LeO.refl _)
      | (with_reducible exact LeO.none _)
      | (with_reducible refine LeO.ite ?_ ?_)
      | (with_reducible refine LeO.bind ?_ (fun _ => ?_))
      | exact intrusionlaw08_awake.mono _
      | exact intrusionref08_Format.mono _ _
      | exact portset_Format.mono _ _
      | exact LeO.none _
      | refine LeO.ite ?_ ?_
      | refine LeO.bind ?_ (fun _ => ?_)
set_option maxHeartbeats 8000000 in
set_option maxRecDepth 100000 in
theorem intrusionlaw08_PortsetFormats.calls (k : Nat) (A0 : Option Addr) (c0 : Nat) (l0 : List (S33)) (r : Bool) (w : World) (hr0 : Kd.C k33 w A0 l0.length l0) (hc0 : l0.length ≤ c0) (h : intrusionlaw08_PortsetFormats.f k l0 = some r) (hW_ : WOK w) :
 Calls Tryd.prog 4 #[.slice A0 l0.length c0] w fun e w' => e = .returned (.bool r) ∧ Below w.heap.size w w' := by
 have HR0 := Aside0.mk hr0
 have HC0 := Aside0.mk hc0
 clear hr0 hc0
 have HB := Aside0.mk (Below.refl w.heap.size w)
 unfold intrusionlaw08_PortsetFormats.f at h; have H := h
 clear h
 replace H := Option.bind_eq_some_iff.mp H
 obtain ⟨t456, A20, H⟩ := H
 try dsimp only at H
 have A2 := Aside0.mk A20
 clear A20
 by_cases c3 : t456 = true
 · subst c3
   rw [if_pos rfl] at H
   replace H := Option.bind_eq_some_iff.mp H
   obtain ⟨t457, A40, H⟩ := H
   try dsimp only at H
   have A4 := Aside0.mk A40
   clear A40
   by_cases c5 : t457 = true
   · subst c5
     rw [if_pos rfl] at H
     obtain rfl := Option.some.inj H
     go_enter Tryd.func4, Tryd.ntmps4
     go_wp2_with (first | ((with_reducible refine gate_callee (f := 13) rfl ?_); refine goesL_ (some 4) rfl rfl Tryd.func13 (by kernel_rfl) rfl #[.slice A0 l0.length c0] rfl (by (try simp only [List.map_toArray, List.map_cons, List.map_nil]); first | done | rfl | (simp only [List.length_drop, List.length_take]; rfl)) ?_; (with_reducible refine (intrusionlaw08_large.calls _ _ l0 true _ ?side1 ?side2 A2.out).mono ?_); (case side1 => repeat (first | exact HR0.out | (with_reducible refine Kd.C_alloc ?_ _) | (with_reducible refine Kd.C_drewN ?_ _) | (with_reducible refine Kd.C_drew ?_))); (case side2 => exact HC0.out); rintro e w' ⟨rfl, ⟨nd, rfl⟩⟩; refine ⟨_, rfl, ?_⟩) | (go_at_call 9; (with_reducible refine (intrusionlaw08_awake.calls k  true _ A4.out (WOK.below hW_ (zB HB))).mono ?_); rintro e w6 ⟨rfl, hb⟩; replace HB := Aside0.mk (below_step (zB HB) hb); (try clear hb)))
     go_ret
     exact ⟨by first | rfl | (simp [errW_none, errW_some] <;> rfl) | (simp [*, errW_none, errW_some] <;> rfl), by repeat (first | (with_reducible first | exact HB.out | apply below_alloc | apply pw_below_drewN | apply below_drew1) | exact HB.out)⟩
   · replace c5 := Bool.eq_false_iff.mpr c5
     subst c5
     rw [if_neg zF] at H
     replace H := Option.bind_eq_some_iff.mp H
     obtain ⟨t458, A70, H⟩ := H
     try dsimp only at H
     have A7 := Aside0.mk A70
     clear A70
     replace H := Option.bind_eq_some_iff.mp H
     obtain ⟨t459, A80, H⟩ := H
     try dsimp only at H
     have A8 := Aside0.mk A80
     clear A80
     by_cases c9 : t458.toList = t459.toList
     · rw [if_pos c9] at H
       have c9b0 : (t458.toList == t459.toList) = true := beq_iff_eq.mpr c9
       have c9b1 : (t458.toList != t459.toList) = false := bne_eq_false_iff_eq.mpr c9
       clear c9
       replace H := Option.bind_eq_some_iff.mp H
       obtain ⟨t460, A100, H⟩ := H
       try dsimp only at H
       have A10 := Aside0.mk A100
       have E_ := Option.some.inj (A10.out.symm.trans A4.out)
       subst E_
       clear A100
       obtain rfl := Option.some.inj H
       go_enter Tryd.func4, Tryd.ntmps4
       go_wp2_with (first | ((with_reducible refine gate_callee (f := 13) rfl ?_); refine goesL_ (some 4) rfl rfl Tryd.func13 (by kernel_rfl) rfl #[.slice A0 l0.length c0] rfl (by (try simp only [List.map_toArray, List.map_cons, List.map_nil]); first | done | rfl | (simp only [List.length_drop, List.length_take]; rfl)) ?_; (with_reducible refine (intrusionlaw08_large.calls _ _ l0 true _ ?side1 ?side2 A2.out).mono ?_); (case side1 => repeat (first | exact HR0.out | (with_reducible refine Kd.C_alloc ?_ _) | (with_reducible refine Kd.C_drewN ?_ _) | (with_reducible refine Kd.C_drew ?_))); (case side2 => exact HC0.out); rintro e w' ⟨rfl, ⟨nd, rfl⟩⟩; refine ⟨_, rfl, ?_⟩) | (go_at_call 9; (with_reducible refine (intrusionlaw08_awake.calls k  false _ A4.out (WOK.below hW_ (zB HB))).mono ?_); rintro e w11 ⟨rfl, hb⟩; replace HB := Aside0.mk (below_step (zB HB) hb); (try clear hb)) | (go_at_call 14; (with_reducible refine (portset_Format.calls k _ _ l0 t458 _ ?side1 ?side2 A7.out (WOK.below hW_ (zB HB))).mono ?_); (case side1 => repeat (first | exact (Kd.C_below HR0.out HB.out) | (with_reducible refine Kd.C_alloc ?_ _) | (with_reducible refine Kd.C_drewN ?_ _) | (with_reducible refine Kd.C_drew ?_))); (case side2 => exact HC0.out); rintro e w12 ⟨rfl, hb⟩; replace HB := Aside0.mk (below_step (zB HB) hb); (try clear hb)) | (go_at_call 15; (with_reducible refine (intrusionref08_Format.calls k _ _ l0 t459 _ ?side1 ?side2 A8.out).mono ?_); (case side1 => repeat (first | exact (Kd.C_below HR0.out HB.out) | (with_reducible refine Kd.C_alloc ?_ _) | (with_reducible refine Kd.C_drewN ?_ _) | (with_reducible refine Kd.C_drew ?_))); (case side2 => exact HC0.out); rintro e w13 ⟨rfl, hb⟩; replace HB := Aside0.mk (below_step (zB HB) hb); (try clear hb)) | (go_at_call 9; (with_reducible refine (intrusionlaw08_awake.calls k  t460 _ A10.out (WOK.below hW_ (zB HB))).mono ?_); rintro e w14 ⟨rfl, hb⟩; replace HB := Aside0.mk (below_step (zB HB) hb); (try clear hb)))
       go_ret
       exact ⟨by first | rfl | (simp [errW_none, errW_some] <;> rfl) | (simp [*, errW_none, errW_some] <;> rfl), by repeat (first | (with_reducible first | exact HB.out | apply below_alloc | apply pw_below_drewN | apply below_drew1) | exact HB.out)⟩
     · rw [if_neg c9] at H
       have c9b0 : (t458.toList == t459.toList) = false := beq_eq_false_iff_ne.mpr c9
       have c9b1 : (t458.toList != t459.toList) = true := bne_iff_ne.mpr c9
       obtain rfl := Option.some.inj H
       go_enter Tryd.func4, Tryd.ntmps4
       go_wp2_with (first | ((with_reducible refine gate_callee (f := 13) rfl ?_); refine goesL_ (some 4) rfl rfl Tryd.func13 (by kernel_rfl) rfl #[.slice A0 l0.length c0] rfl (by (try simp only [List.map_toArray, List.map_cons, List.map_nil]); first | done | rfl | (simp only [List.length_drop, List.length_take]; rfl)) ?_; (with_reducible refine (intrusionlaw08_large.calls _ _ l0 true _ ?side1 ?side2 A2.out).mono ?_); (case side1 => repeat (first | exact HR0.out | (with_reducible refine Kd.C_alloc ?_ _) | (with_reducible refine Kd.C_drewN ?_ _) | (with_reducible refine Kd.C_drew ?_))); (case side2 => exact HC0.out); rintro e w' ⟨rfl, ⟨nd, rfl⟩⟩; refine ⟨_, rfl, ?_⟩) | (go_at_call 9; (with_reducible refine (intrusionlaw08_awake.calls k  false _ A4.out (WOK.below hW_ (zB HB))).mono ?_); rintro e w15 ⟨rfl, hb⟩; replace HB := Aside0.mk (below_step (zB HB) hb); (try clear hb)) | (go_at_call 14; (with_reducible refine (portset_Format.calls k _ _ l0 t458 _ ?side1 ?side2 A7.out (WOK.below hW_ (zB HB))).mono ?_); (case side1 => repeat (first | exact (Kd.C_below HR0.out HB.out) | (with_reducible refine Kd.C_alloc ?_ _) | (with_reducible refine Kd.C_drewN ?_ _) | (with_reducible refine Kd.C_drew ?_))); (case side2 => exact HC0.out); rintro e w16 ⟨rfl, hb⟩; replace HB := Aside0.mk (below_step (zB HB) hb); (try clear hb)) | (go_at_call 15; (with_reducible refine (intrusionref08_Format.calls k _ _ l0 t459 _ ?side1 ?side2 A8.out).mono ?_); (case side1 => repeat (first | exact (Kd.C_below HR0.out HB.out) | (with_reducible refine Kd.C_alloc ?_ _) | (with_reducible refine Kd.C_drewN ?_ _) | (with_reducible refine Kd.C_drew ?_))); (case side2 => exact HC0.out); rintro e w17 ⟨rfl, hb⟩; replace HB := Aside0.mk (below_step (zB HB) hb); (try clear hb)))
       go_ret
       exact ⟨by first | rfl | (simp [errW_none, errW_some] <;> rfl) | (simp [*, errW_none, errW_some] <;> rfl), by repeat (first | (with_reducible first | exact HB.out | apply below_alloc | apply pw_below_drewN | apply below_drew1) | exact HB.out)⟩
 · replace c3 := Bool.eq_false_iff.mpr c3
   subst c3
   rw [if_neg zF] at H
   replace H := Option.bind_eq_some_iff.mp H
   obtain ⟨t461, A180, H⟩ := H
   try dsimp only at H
   have A18 := Aside0.mk A180
   clear A180
   replace H := Option.bind_eq_some_iff.mp H
   obtain ⟨t462, A190, H⟩ := H
   try dsimp only at H
   have A19 := Aside0.mk A190
   clear A190
   by_cases c20 : t461.toList = t462.toList
   · rw [if_pos c20] at H
     have c20b0 : (t461.toList == t462.toList) = true := beq_iff_eq.mpr c20
     have c20b1 : (t461.toList != t462.toList) = false := bne_eq_false_iff_eq.mpr c20
     clear c20
     replace H := Option.bind_eq_some_iff.mp H
     obtain ⟨t463, A210, H⟩ := H
     try dsimp only at H
     have A21 := Aside0.mk A210
     clear A210
     obtain rfl := Option.some.inj H
     go_enter Tryd.func4, Tryd.ntmps4
     go_wp2_with (first | ((with_reducible refine gate_callee (f := 13) rfl ?_); refine goesL_ (some 4) rfl rfl Tryd.func13 (by kernel_rfl) rfl #[.slice A0 l0.length c0] rfl (by (try simp only [List.map_toArray, List.map_cons, List.map_nil]); first | done | rfl | (simp only [List.length_drop, List.length_take]; rfl)) ?_; (with_reducible refine (intrusionlaw08_large.calls _ _ l0 false _ ?side1 ?side2 A2.out).mono ?_); (case side1 => repeat (first | exact HR0.out | (with_reducible refine Kd.C_alloc ?_ _) | (with_reducible refine Kd.C_drewN ?_ _) | (with_reducible refine Kd.C_drew ?_))); (case side2 => exact HC0.out); rintro e w' ⟨rfl, ⟨nd, rfl⟩⟩; refine ⟨_, rfl, ?_⟩) | (go_at_call 14; (with_reducible refine (portset_Format.calls k _ _ l0 t461 _ ?side1 ?side2 A18.out (WOK.below hW_ (zB HB))).mono ?_); (case side1 => repeat (first | exact HR0.out | (with_reducible refine Kd.C_alloc ?_ _) | (with_reducible refine Kd.C_drewN ?_ _) | (with_reducible refine Kd.C_drew ?_))); (case side2 => exact HC0.out); rintro e w22 ⟨rfl, hb⟩; replace HB := Aside0.mk (below_step (zB HB) hb); (try clear hb)) | (go_at_call 15; (with_reducible refine (intrusionref08_Format.calls k _ _ l0 t462 _ ?side1 ?side2 A19.out).mono ?_); (case side1 => repeat (first | exact (Kd.C_below HR0.out HB.out) | (with_reducible refine Kd.C_alloc ?_ _) | (with_reducible refine Kd.C_drewN ?_ _) | (with_reducible refine Kd.C_drew ?_))); (case side2 => exact HC0.out); rintro e w23 ⟨rfl, hb⟩; replace HB := Aside0.mk (below_step (zB HB) hb); (try clear hb)) | (go_at_call 9; (with_reducible refine (intrusionlaw08_awake.calls k  t463 _ A21.out (WOK.below hW_ (zB HB))).mono ?_); rintro e w24 ⟨rfl, hb⟩; replace HB := Aside0.mk (below_step (zB HB) hb); (try clear hb)))
     go_ret
     exact ⟨by first | rfl | (simp [errW_none, errW_some] <;> rfl) | (simp [*, errW_none, errW_some] <;> rfl), by repeat (first | (with_reducible first | exact HB.out | apply below_alloc | apply pw_below_drewN | apply below_drew1) | exact HB.out)⟩
   · rw [if_neg c20] at H
     have c20b0 : (t461.toList == t462.toList) = false := beq_eq_false_iff_ne.mpr c20
     have c20b1 : (t461.toList != t462.toList) = true := bne_iff_ne.mpr c20
     obtain rfl := Option.some.inj H
     go_enter Tryd.func4, Tryd.ntmps4
     go_wp2_with (first | ((with_reducible refine gate_callee (f := 13) rfl ?_); refine goesL_ (some 4) rfl rfl Tryd.func13 (by kernel_rfl) rfl #[.slice A0 l0.length c0] rfl (by (try simp only [List.map_toArray, List.map_cons, List.map_nil]); first | done | rfl | (simp only [List.length_drop, List.length_take]; rfl)) ?_; (with_reducible refine (intrusionlaw08_large.calls _ _ l0 false _ ?side1 ?side2 A2.out).mono ?_); (case side1 => repeat (first | exact HR0.out | (with_reducible refine Kd.C_alloc ?_ _) | (with_reducible refine Kd.C_drewN ?_ _) | (with_reducible refine Kd.C_drew ?_))); (case side2 => exact HC0.out); rintro e w' ⟨rfl, ⟨nd, rfl⟩⟩; refine ⟨_, rfl, ?_⟩) | (go_at_call 14; (with_reducible refine (portset_Format.calls k _ _ l0 t461 _ ?side1 ?side2 A18.out (WOK.below hW_ (zB HB))).mono ?_); (case side1 => repeat (first | exact HR0.out | (with_reducible refine Kd.C_alloc ?_ _) | (with_reducible refine Kd.C_drewN ?_ _) | (with_reducible refine Kd.C_drew ?_))); (case side2 => exact HC0.out); rintro e w25 ⟨rfl, hb⟩; replace HB := Aside0.mk (below_step (zB HB) hb); (try clear hb)) | (go_at_call 15; (with_reducible refine (intrusionref08_Format.calls k _ _ l0 t462 _ ?side1 ?side2 A19.out).mono ?_); (case side1 => repeat (first | exact (Kd.C_below HR0.out HB.out) | (with_reducible refine Kd.C_alloc ?_ _) | (with_reducible refine Kd.C_drewN ?_ _) | (with_reducible refine Kd.C_drew ?_))); (case side2 => exact HC0.out); rintro e w26 ⟨rfl, hb⟩; replace HB := Aside0.mk (below_step (zB HB) hb); (try clear hb)))
     go_ret
     exact ⟨by first | rfl | (simp [errW_none, errW_some] <;> rfl) | (simp [*, errW_none, errW_some] <;> rfl), by repeat (first | (with_reducible first | exact HB.out | apply below_alloc | apply pw_below_drewN | apply below_drew1) | exact HB.out)⟩
end Go.Proofs.YtbimdjciacnioaaDoor.Q
end

section
set_option linter.unusedVariables false
namespace Go.Proofs.YtbimdjciacnioaaDoor.Read
open Go.RowKit Go.Deep Go.WideShapes Go.Proofs.YtbimdjciacnioaaDoorW.PrintWords
def Reads {α : Type} (P : Program) (W : World) (d : Kd α) (Q : α → Prop) (t : TypeId) : Prop :=
  ∀ (H : Type) (enc : TypeId × Value → H) (fuel : Nat) (cs : List Value) (x : DataW H × List MemPlace), DataW.trod enc P W 0 (fun _ => true) true fuel t cs = some x → ∃ y, d.K W y cs ∧ Q y
section
variable {P : Program} {W : World}
theorem reads_int {k : IntKind} {t : TypeId} (ht : P.underlying t = some (.int k)) : Reads P W (Kd.int k) (fun n => (Lit.int k n).wf = true) t := by
  intro H enc fuel cs x h
  obtain ⟨n, rfl, _, hw⟩ := DataW.trod_int ht h
  exact ⟨n, rfl, hw⟩
theorem cells_at {a : Addr} {n : Nat} {cs : List Value} (h : W.cells? 0 a n = some cs) : ∀ i u, cs[i]? = some u → W.cell? (a.add i) = some u := by
  obtain ⟨_, hl, hc⟩ := World.cells?_some h
  intro i u hi
  have hlt : i < cs.length := (List.getElem?_eq_some_iff.1 hi).1
  rw [hc i (by omega), hi]
theorem reads_slice {α : Type} {d : Kd α} {Q : α → Prop} {t e : TypeId} (ht : P.underlying t = some (.slice e)) (hc : P.cellsOf e = d.sz) (he : Reads P W d Q e) :
    Reads P W (Kd.slice e d) (fun xs => xs.length ≤ maxLen ∧ ∀ x ∈ xs, Q x) t := by
  intro H enc fuel cs x h
  rcases open_slice ht h with ⟨rfl, _⟩ | ⟨a, len, cap, m, n, D, Pl, rfl, _, hl, hm, hmm, _, hx⟩
  · exact ⟨[], ⟨none, 0, rfl, Nat.le_refl _, ⟨rfl, by simp, fun h => absurd h (by simp)⟩⟩, by simp⟩
  · have hml : m = cap := by simpa using hmm
    have hy : ∀ i : Fin len, ∃ y, (∃ cs', cs'.length = d.sz ∧ d.K W y cs' ∧ ∀ j u, cs'[j]? = some u → W.cell? (a.add (i.1 * d.sz + j)) = some u) ∧ Q y := by
      intro i
      obtain ⟨cs', h1, h2⟩ := hx i.1 (by omega)
      obtain ⟨y, hk, hq⟩ := he H enc n cs' _ h2
      refine ⟨y, ⟨cs', d.K_len hk, hk, fun j u hj => ?_⟩, hq⟩
      have := cells_at h1 j u hj
      rwa [hc, Addr.add_add] at this
    have hf : ∃ f : Fin len → α, ∀ i, (∃ cs', cs'.length = d.sz ∧ d.K W (f i) cs' ∧ ∀ j u, cs'[j]? = some u → W.cell? (a.add (i.1 * d.sz + j)) = some u) ∧ Q (f i) := ⟨fun i => Classical.choose (hy i), fun i => Classical.choose_spec (hy i)⟩
    obtain ⟨f, hf⟩ := hf
    refine ⟨List.ofFn f, ⟨some a, cap, by simp, by simpa using hl, ⟨rfl, by simp [maxLen] at hm ⊢; omega, fun _ => ⟨a, rfl, fun j p hj => ?_⟩⟩⟩, by simpa using Nat.le_trans hl hm, fun y hy => ?_⟩
    · obtain ⟨hlt, rfl⟩ := List.getElem?_eq_some_iff.1 hj
      have hjl : j < len := by simpa using hlt
      rw [List.getElem_ofFn]
      exact (hf ⟨j, hjl⟩).1
    · obtain ⟨j, hj, rfl⟩ := List.getElem_of_mem hy
      rw [List.getElem_ofFn]
      exact (hf _).2
theorem pair_mk {α β : Type} {a : Kd α} {b : Kd β} {x : α} {y : β} {cs : List Value} (s : Nat) (h0 : a.K W x (cs.take s)) (h1 : b.K W y (cs.drop s)) : (Kd.pair a b).K W (x, y) cs :=
  ⟨cs.take s, cs.drop s, (List.take_append_drop s cs).symm, h0, h1⟩
theorem field_at {α : Type} {d : Kd α} {Q : α → Prop} {fs : Array Field} {H : Type} {enc : TypeId × Value → H} {n : Nat} {cs : List Value} {xs : List (DataW H × List MemPlace)} (hl : xs.length = fs.size)
    (hf : ∀ (i : Nat) (f : Field), fs[i]? = some f → DataW.trod enc P W 0 (fun _ => true) true n f.type ((cs.drop f.offset).take (P.cellsOf f.type)) = xs[i]?)
    (i : Nat) {f : Field} (hi : fs[i]? = some f) {t off sz : Nat} (ht : f.type = t) (ho : f.offset = off) (hc : P.cellsOf t = sz) (hr : Reads P W d Q t) : ∃ y, d.K W y ((cs.drop off).take sz) ∧ Q y := by
  subst ht ho hc
  have h := hf i f hi
  have hlt : i < xs.length := by rw [hl]; exact (Array.getElem?_eq_some_iff.1 hi).1
  rw [List.getElem?_eq_getElem hlt] at h
  exact hr H enc n _ _ h
end
end Go.Proofs.YtbimdjciacnioaaDoor.Read
end

section
set_option linter.unusedVariables false
namespace Go.Proofs.YtbimdjciacnioaaDoor.Q
open Go.RowKit Go.Proofs.YtbimdjciacnioaaDoorW.PrintWords Go.Proofs.YtbimdjciacnioaaDoor.Read
def q33 (x : S33) : Prop := (Lit.int .i64 x.f0).wf = true ∧ (Lit.int .i64 x.f1).wf = true
theorem reads_k33 (W : World) : Reads Tryd.prog W k33 q33 33 := by
  intro H enc fuel cs x h
  obtain ⟨xs, n, rfl, _, hcl, hxl, hf⟩ := DataW.trod_struct Tryd.underlying33 h
  have hc : cs.length = 2 := hcl.trans (by kernel_rfl)
  obtain ⟨y0, h0, g0⟩ := field_at hxl hf 0 rfl (t := 3) (off := 0) (sz := 1) rfl rfl (by kernel_rfl) (reads_int Tryd.underlying3)
  obtain ⟨y1, h1, g1⟩ := field_at hxl hf 1 rfl (t := 3) (off := 1) (sz := 1) rfl rfl (by kernel_rfl) (reads_int Tryd.underlying3)
  refine ⟨⟨y0, y1⟩, ?_, ⟨g0, g1⟩⟩
  rw [show (cs.drop 0).take 1 = (cs.drop 0).take 1 from rfl] at h0
  rw [show (cs.drop 1).take 1 = (cs.drop 1) from List.take_of_length_le (by rw [List.length_drop, hc]; decide)] at h1
  skip
  have e0 : cs.drop 0 = cs := rfl
  rw [e0] at h0
  exact pair_mk (a := (Kd.int .i64)) 1 h0 (h1)
end Go.Proofs.YtbimdjciacnioaaDoor.Q
end

section
namespace Go.Proofs.YtbimdjciacnioaaDoor.Q
open Go.RowKit Go.Proofs.YtbimdjciacnioaaDoorW.PrintWords Go.Proofs.YtbimdjciacnioaaDoorW.PrintLast Go.Proofs.YtbimdjciacnioaaDoorW.PrintMore
attribute [local go_sem] max2_int min2_int max_two min_two max_three min_three max_four min_four
set_option linter.unusedVariables false
set_option linter.unusedSimpArgs false
def intrusionref08_split.l0 : Nat → ByteArray → Int → List ByteArray → Int → Int → Option (List ByteArray)
  | 0, _, _, _, _, _ => none
  | k + 1, x0, x1, x5, x6, x7 => if x7 ≤ (x0.size : Int) then (if x7 = (x0.size : Int) then (if 0 ≤ x6 then (if x6 ≤ x7 then (if x5.length < 8796093022208 then (intrusionref08_split.l0 k x0 x1 (x5 ++ [x0.extract (x6 : Int).toNat (x7 : Int).toNat]) (wrap64 (x7 + 1)) (wrap64 (x7 + 1))) else (none)) else (none)) else (none)) else (if 0 ≤ x7 then (if x7 < (x0.size : Int) then (if (bt x0 x7) = x1 then (if 0 ≤ x6 then (if x6 ≤ x7 then (if x5.length < 8796093022208 then (intrusionref08_split.l0 k x0 x1 (x5 ++ [x0.extract (x6 : Int).toNat (x7 : Int).toNat]) (wrap64 (x7 + 1)) (wrap64 (x7 + 1))) else (none)) else (none)) else (none)) else (intrusionref08_split.l0 k x0 x1 x5 x6 (wrap64 (x7 + 1)))) else (none)) else (none))) else (some x5)
def intrusionref08_split.f (k : Nat) (a0 : ByteArray) (a1 : Int) : Option (List ByteArray) := intrusionref08_split.l0 k a0 a1 (([] : List ByteArray)) 0 0
theorem intrusionref08_split.mono_l : ∀ k, (∀ y0 y1 y2 y3 y4, LeO (intrusionref08_split.l0 k y0 y1 y2 y3 y4) (intrusionref08_split.l0 (k + 1) y0 y1 y2 y3 y4))
  | 0 => fun _ _ _ _ _ r h => by simp [intrusionref08_split.l0] at h
  | k + 1 => by
    have ih0 := intrusionref08_split.mono_l k
    · intro y0 y1 y2 y3 y4
      unfold intrusionref08_split.l0
      repeat' first
      | (with_reducible exact ih0 _ _ _ _ _)
      | (with_reducible exact LeO.refl _)
      | (with_reducible exact LeO.none _)
      | (with_reducible refine LeO.ite ?_ ?_)
      | (with_reducible refine LeO.bind ?_ (fun _ => ?_))
      | exact ih0 _ _ _ _ _
      | exact LeO.none _
      | refine LeO.ite ?_ ?_
      | refine LeO.bind ?_ (fun _ => ?_)
theorem intrusionref08_split.mono : ∀ a0 a1 k, LeO (intrusionref08_split.f k a0 a1) (intrusionref08_split.f (k + 1) a0 a1) := by
  intro a0 a1 k
  have ih0 := intrusionref08_split.mono_l k
  unfold intrusionref08_split.f
  repeat' first
      | (with_reducible exact ih0 _ _ _ _ _)
      | (with_reducible exact LeO.refl _)
      | (with_reducible exact LeO.none _)
      | (with_reducible refine LeO.ite ?_ ?_)
      | (with_reducible refine LeO.bind ?_ (fun _ => ?_))
      | exact ih0 _ _ _ _ _
      | exact LeO.none _
      | refine LeO.ite ?_ ?_
      | refine LeO.bind ?_ (fun _ => ?_)
end Go.Proofs.YtbimdjciacnioaaDoor.Q
end

section
namespace Go.Proofs.YtbimdjciacnioaaDoor.Q
open Go.RowKit Go.Proofs.YtbimdjciacnioaaDoorW.PrintWords Go.Proofs.YtbimdjciacnioaaDoorW.PrintLast Go.Proofs.YtbimdjciacnioaaDoorW.PrintMore
attribute [local go_sem] max2_int min2_int max_two min_two max_three min_three max_four min_four
set_option linter.unusedVariables false
set_option linter.unusedSimpArgs false
mutual
def intrusionref08_number.j0 : Nat → ByteArray → Bool → Option (Int × Bool)
  | 0, _, _ => none
  | k + 1, x0, x17 => if x17 = true then (some (0, false)) else (intrusionref08_number.l0 k x0 0 0)
def intrusionref08_number.l0 : Nat → ByteArray → Int → Int → Option (Int × Bool)
  | 0, _, _, _ => none
  | k + 1, x0, x4, x5 => if x5 < (x0.size : Int) then (if 0 ≤ x5 then (if (bt x0 x5) < 48 then (some (0, false)) else (if (bt x0 x5) > 57 then (some (0, false)) else (intrusionref08_number.l0 k x0 (mn (wrap64 ((wrap64 (x4 * 10)) + (((bt x0 x5) - 48) % 256))) 65536) (wrap64 (x5 + 1))))) else (none)) else (some (x4, true))
end
def intrusionref08_number.f (k : Nat) (a0 : ByteArray) : Option (Int × Bool) := if a0.toList = ([] : List UInt8) then (intrusionref08_number.j0 k a0 true) else (if (a0.size : Int) > 1 then (if 0 < (a0.size : Int) then (intrusionref08_number.j0 k a0 ((bt a0 0) == 48)) else (none)) else (intrusionref08_number.j0 k a0 false))
theorem intrusionref08_number.mono_l : ∀ k, (∀ y0 y1, LeO (intrusionref08_number.j0 k y0 y1) (intrusionref08_number.j0 (k + 1) y0 y1)) ∧ (∀ y0 y1 y2, LeO (intrusionref08_number.l0 k y0 y1 y2) (intrusionref08_number.l0 (k + 1) y0 y1 y2))
  | 0 => ⟨fun _ _ r h => by simp [intrusionref08_number.j0] at h, fun _ _ _ r h => by simp [intrusionref08_number.l0] at h⟩
  | k + 1 => by
    obtain ⟨ih0, ih1⟩ := intrusionref08_number.mono_l k
    refine ⟨?_, ?_⟩
    · intro y0 y1
      unfold intrusionref08_number.j0
      repeat' first
      | (with_reducible exact ih0 _ _)
      | (with_reducible exact ih1 _ _ _)
      | (with_reducible exact LeO.refl _)
      | (with_reducible exact LeO.none _)
      | (with_reducible refine LeO.ite ?_ ?_)
      | (with_reducible refine LeO.bind ?_ (fun _ => ?_))
      | exact ih0 _ _
      | exact ih1 _ _ _
      | exact LeO.none _
      | refine LeO.ite ?_ ?_
      | refine LeO.bind ?_ (fun _ => ?_)
    · intro y0 y1 y2
      unfold intrusionref08_number.l0
      repeat' first
      | (with_reducible exact ih0 _ _)
      | (with_reducible exact ih1 _ _ _)
      | (with_reducible exact LeO.refl _)
      | (with_reducible exact LeO.none _)
      | (with_reducible refine LeO.ite ?_ ?_)
      | (with_reducible refine LeO.bind ?_ (fun _ => ?_))
      | exact ih0 _ _
      | exact ih1 _ _ _
      | exact LeO.none _
      | refine LeO.ite ?_ ?_
      | refine LeO.bind ?_ (fun _ => ?_)
theorem intrusionref08_number.mono : ∀ a0 k, LeO (intrusionref08_number.f k a0) (intrusionref08_number.f (k + 1) a0) := by
  intro a0 k
  obtain ⟨ih0, ih1⟩ := intrusionref08_number.mono_l k
  unfold intrusionref08_number.f
  repeat' first
      | (with_reducible exact ih0 _ _)
      | (with_reducible exact ih1 _ _ _)
      | (with_reducible exact LeO.refl _)
      | (with_reducible exact LeO.none _)
      | (with_reducible refine LeO.ite ?_ ?_)
      | (with_reducible refine LeO.bind ?_ (fun _ => ?_))
      | exact ih0 _ _
      | exact ih1 _ _ _
      | exact LeO.none _
      | refine LeO.ite ?_ ?_
      | refine LeO.bind ?_ (fun _ => ?_)
end Go.Proofs.YtbimdjciacnioaaDoor.Q
end

section
namespace Go.Proofs.YtbimdjciacnioaaDoor.Q
open Go.RowKit Go.Proofs.YtbimdjciacnioaaDoorW.PrintWords Go.Proofs.YtbimdjciacnioaaDoorW.PrintLast Go.Proofs.YtbimdjciacnioaaDoorW.PrintMore
attribute [local go_sem] max2_int min2_int max_two min_two max_three min_three max_four min_four
set_option linter.unusedVariables false
set_option linter.unusedSimpArgs false
mutual
def intrusionref08_item.j0 : Nat → List ByteArray → Bool → Option (Int × Int × Int)
  | 0, _, _ => none
  | k + 1, x4, x18 => if x18 = true then (some (0, 0, 14)) else (if 0 < (x4.length : Int) then (if (rdOf ByteArray.empty x4 0).toList = ([] : List UInt8) then (intrusionref08_item.j1 k x4 ((x4.length : Int) == 1) 0 65535) else (intrusionref08_item.j1 k x4 true 0 65535)) else (none))
def intrusionref08_item.j1 : Nat → List ByteArray → Bool → Int → Int → Option (Int × Int × Int)
  | 0, _, _, _, _ => none
  | k + 1, x4, x29, x398000, x398001 => if x29 = true then (if 0 < (x4.length : Int) then ((intrusionref08_number.f k (rdOf ByteArray.empty x4 0)).bind fun bt400 => (if bt400.2 = true then (intrusionref08_item.j2 k x4 bt400.1 x398001) else (some (0, 0, 14)))) else (none)) else (intrusionref08_item.j2 k x4 x398000 x398001)
def intrusionref08_item.j2 : Nat → List ByteArray → Int → Int → Option (Int × Int × Int)
  | 0, _, _, _ => none
  | k + 1, x4, x398000, x398001 => if (x4.length : Int) = 1 then (if x398000 > 65535 then (some (0, 0, 4)) else (if x398000 > x398000 then (some (0, 0, 4)) else (some (x398000, x398000, 0)))) else (if 1 < (x4.length : Int) then (if (rdOf ByteArray.empty x4 1).toList = ([] : List UInt8) then (if x398000 > 65535 then (some (0, 0, 4)) else (if x398001 > 65535 then (some (0, 0, 4)) else (if x398000 > x398001 then (some (0, 0, 4)) else (some (x398000, x398001, 0))))) else ((intrusionref08_number.f k (rdOf ByteArray.empty x4 1)).bind fun bt404 => (if bt404.2 = true then (if x398000 > 65535 then (some (0, 0, 4)) else (if bt404.1 > 65535 then (some (0, 0, 4)) else (if x398000 > bt404.1 then (some (0, 0, 4)) else (some (x398000, bt404.1, 0))))) else (some (0, 0, 14))))) else (none))
end
def intrusionref08_item.f (k : Nat) (a0 : ByteArray) : Option (Int × Int × Int) := (intrusionref08_split.f k a0 58).bind fun t394 => (if (t394.length : Int) > 2 then (intrusionref08_item.j0 k t394 true) else (intrusionref08_item.j0 k t394 (a0.toList == ([58] : List UInt8))))
theorem intrusionref08_item.mono_l : ∀ k, (∀ y0 y1, LeO (intrusionref08_item.j0 k y0 y1) (intrusionref08_item.j0 (k + 1) y0 y1)) ∧ (∀ y0 y1 y2 y3, LeO (intrusionref08_item.j1 k y0 y1 y2 y3) (intrusionref08_item.j1 (k + 1) y0 y1 y2 y3)) ∧ (∀ y0 y1 y2, LeO (intrusionref08_item.j2 k y0 y1 y2) (intrusionref08_item.j2 (k + 1) y0 y1 y2))
  | 0 => ⟨fun _ _ r h => by simp [intrusionref08_item.j0] at h, fun _ _ _ _ r h => by simp [intrusionref08_item.j1] at h, fun _ _ _ r h => by simp [intrusionref08_item.j2] at h⟩
  | k + 1 => by
    obtain ⟨ih0, ih1, ih2⟩ := intrusionref08_item.mono_l k
    refine ⟨?_, ?_, ?_⟩
    · intro y0 y1
      unfold intrusionref08_item.j0
      repeat' first
      | (with_reducible exact ih0 _ _)
      | (with_reducible exact ih1 _ _ _ _)
      | (with_reducible exact ih2 _ _ _)
      | (with_reducible exact intrusionref08_number.mono _ _)
      | (with_reducible exact intrusionref08_split.mono _ _ _)
      | (with_reducible exact LeO.refl _)
      | (with_reducible exact LeO.none _)
      | (with_reducible refine LeO.ite ?_ ?_)
      | (with_reducible refine LeO.bind ?_ (fun _ => ?_))
      | exact ih0 _ _
      | exact ih1 _ _ _ _
      | exact ih2 _ _ _
      | exact intrusionref08_number.mono _ _
      | exact intrusionref08_split.mono _ _ _
      | exact LeO.none _
      | refine LeO.ite ?_ ?_
      | refine LeO.bind ?_ (fun _ => ?_)
    · intro y0 y1 y2 y3
      unfold intrusionref08_item.j1
      repeat' first
      | (with_reducible exact ih0 _ _)
      | (with_reducible exact ih1 _ _ _ _)
      | (with_reducible exact ih2 _ _ _)
      | (with_reducible exact intrusionref08_number.mono _ _)
      | (with_reducible exact intrusionref08_split.mono _ _ _)
      | (with_reducible exact LeO.refl _)
      | (with_reducible exact LeO.none _)
      | (with_reducible refine LeO.ite ?_ ?_)
      | (with_reducible refine LeO.bind ?_ (fun _ => ?_))
      | exact ih0 _ _
      | exact ih1 _ _ _ _
      | exact ih2 _ _ _
      | exact intrusionref08_number.mono _ _
      | exact intrusionref08_split.mono _ _ _
      | exact LeO.none _
      | refine LeO.ite ?_ ?_
      | refine LeO.bind ?_ (fun _ => ?_)
    · intro y0 y1 y2
      unfold intrusionref08_item.j2
      repeat' first
      | (with_reducible exact ih0 _ _)
      | (with_reducible exact ih1 _ _ _ _)
      | (with_reducible exact ih2 _ _ _)
      | (with_reducible exact intrusionref08_number.mono _ _)
      | (with_reducible exact intrusionref08_split.mono _ _ _)
      | (with_reducible exact LeO.refl _)
      | (with_reducible exact LeO.none _)
      | (with_reducible refine LeO.ite ?_ ?_)
      | (with_reducible refine LeO.bind ?_ (fun _ => ?_))
      | exact ih0 _ _
      | exact ih1 _ _ _ _
      | exact ih2 _ _ _
      | exact intrusionref08_number.mono _ _
      | exact intrusionref08_split.mono _ _ _
      | exact LeO.none _
      | refine LeO.ite ?_ ?_
      | refine LeO.bind ?_ (fun _ => ?_)
theorem intrusionref08_item.mono : ∀ a0 k, LeO (intrusionref08_item.f k a0) (intrusionref08_item.f (k + 1) a0) := by
  intro a0 k
  obtain ⟨ih0, ih1, ih2⟩ := intrusionref08_item.mono_l k
  unfold intrusionref08_item.f
  repeat' first
      | (with_reducible exact ih0 _ _)
      | (with_reducible exact ih1 _ _ _ _)
      | (with_reducible exact ih2 _ _ _)
      | (with_reducible exact intrusionref08_number.mono _ _)
      | (with_reducible exact intrusionref08_split.mono _ _ _)
      | (with_reducible exact LeO.refl _)
      | (with_reducible exact LeO.none _)
      | (with_reducible refine LeO.ite ?_ ?_)
      | (with_reducible refine LeO.bind ?_ (fun _ => ?_))
      | exact ih0 _ _
      | exact ih1 _ _ _ _
      | exact ih2 _ _ _
      | exact intrusionref08_number.mono _ _
      | exact intrusionref08_split.mono _ _ _
      | exact LeO.none _
      | refine LeO.ite ?_ ?_
      | refine LeO.bind ?_ (fun _ => ?_)
end Go.Proofs.YtbimdjciacnioaaDoor.Q
end

section
set_option linter.unusedVariables false
set_option linter.unusedSimpArgs false
namespace Go.Proofs.YtbimdjciacnioaaDoor.Q
open Go.RowKit Go.Proofs.YtbimdjciacnioaaDoorW.PrintWords Go.Proofs.YtbimdjciacnioaaDoorW.PrintLast Go.Proofs.YtbimdjciacnioaaDoorW.PrintMore
theorem up_b {i : Nat} (h : i < 1000000) : wrap64 ((i : Int) + 1) = ((i + 1 : Nat) : Int) := by rw [wid (by omega) (by omega)]; omega
def itFin (a b : Int × Bool) : Int × Int × Int := if a.2 = true ∧ b.2 = true then (if a.1 > 65535 then (0, 0, 4) else if b.1 > 65535 then (0, 0, 4) else if a.1 > b.1 then (0, 0, 4) else (a.1, b.1, 0)) else (0, 0, 14)
def itLo (c : List UInt8 × List UInt8 × Bool) : List UInt8 := if c.2.2 = true ∧ c.1 = [] ∧ c.2.1 ≠ [] then [48] else c.1
def itHi (c : List UInt8 × List UInt8 × Bool) : List UInt8 := if c.2.2 = false then c.1 else if c.2.1 = [] ∧ c.1 ≠ [] then Lib.itoa 65535 else c.2.1
def itemV (l : List UInt8) : Int × Int × Int := itFin (pnum (itLo (Lib.cut l [58]))) (pnum (itHi (Lib.cut l [58])))
theorem item_j1 (x y : List UInt8) : Ev (fun k => portset_item.j1 k (mkB x) (mkB y)) (itFin (pnum x) (pnum y)) := by
  refine Ev.step (f := fun k => if (pnum x).2 = true then portset_item.j2 k (pnum x).1 (pnum y).1 (!(pnum y).2) else portset_item.j2 k (pnum x).1 (pnum y).1 true) (fun k => ?_) ?_
  · rw [portset_item.j1]
    unfold portset_number.f
    rw [mkB_list, mkB_list, Option.bind_some, Option.bind_some]
  · unfold itFin
    generalize pnum x = a
    generalize pnum y = b
    obtain ⟨a1, a2⟩ := a
    obtain ⟨b1, b2⟩ := b
    dsimp only
    cases a2
    · rw [if_neg (by simp)]
      simp only [Bool.false_eq_true, if_false]
      refine Ev.step (f := fun _ => some ((0 : Int), (0 : Int), (14 : Int))) (fun k => ?_) (Ev.now _)
      rw [portset_item.j2, if_pos rfl]
    · simp only [if_true]
      cases b2
      · rw [if_neg (by simp)]
        refine Ev.step (f := fun _ => some ((0 : Int), (0 : Int), (14 : Int))) (fun k => ?_) (Ev.now _)
        rw [portset_item.j2, if_pos (by rfl)]
      · rw [if_pos (by simp)]
        refine Ev.step (f := fun _ => some (if a1 > 65535 then ((0 : Int), (0 : Int), (4 : Int)) else if b1 > 65535 then (0, 0, 4) else if a1 > b1 then (0, 0, 4) else (a1, b1, 0))) (fun k => ?_) (Ev.now _)
        rw [portset_item.j2, if_neg (by simp)]
        split
        · rfl
        · split
          · rfl
          · split <;> rfl
theorem item_j0 (x y : List UInt8) : Ev (fun k => portset_item.j0 k (mkB x) (mkB y) false) (itFin (pnum x) (pnum (if y = [] ∧ x ≠ [] then Lib.itoa 65535 else y))) := by
  by_cases hy : y = []
  · by_cases hx : x = []
    · rw [if_neg (fun h => h.2 hx)]
      refine Ev.step (fun k => ?_) (item_j1 x y)
      rw [portset_item.j0, if_neg Bool.false_ne_true, ByteArray.toList_eq, ByteArray.toList_eq, mkB_list, mkB_list, if_pos hy, if_pos hx]
    · rw [if_pos ⟨hy, hx⟩]
      refine Ev.step (fun k => ?_) (item_j1 x _)
      rw [portset_item.j0, if_neg Bool.false_ne_true, ByteArray.toList_eq, ByteArray.toList_eq, mkB_list, mkB_list, if_pos hy, if_neg hx]
      unfold strconv_Itoa.f
      rw [if_pos (by omega), Option.bind_some]
      rfl
  · rw [if_neg (fun h => hy h.1)]
    refine Ev.step (fun k => ?_) (item_j1 x y)
    rw [portset_item.j0, if_neg Bool.false_ne_true, ByteArray.toList_eq, mkB_list, if_neg hy]
theorem item_ev (s : ByteArray) (hs : s.size < 4294967281) : Ev (fun k => portset_item.f k s) (itemV s.data.toList) := by
  refine Ev.congr (fun k => ?_) (f := fun k => if (Lib.cut s.data.toList [58]).2.2 = true then (if (Lib.cut s.data.toList [58]).1 = ([] : List UInt8) then (portset_item.j0 k (mkB (Lib.cut s.data.toList [58]).1) (mkB (Lib.cut s.data.toList [58]).2.1) ((Lib.cut s.data.toList [58]).2.1 != ([] : List UInt8))) else (portset_item.j0 k (mkB (Lib.cut s.data.toList [58]).1) (mkB (Lib.cut s.data.toList [58]).2.1) false)) else (portset_item.j1 k (mkB (Lib.cut s.data.toList [58]).1) (mkB (Lib.cut s.data.toList [58]).1))) ?_
  · unfold portset_item.f
    rw [cut_eq s _ hs, Option.bind_some]
    simp only [ByteArray.toList_eq, mkB_list]
  · unfold itemV
    generalize Lib.cut s.data.toList [58] = c
    obtain ⟨T, D, b⟩ := c
    unfold itLo itHi
    dsimp only
    cases b
    · simp only [Bool.false_eq_true, if_false, false_and, if_true]
      exact item_j1 T T
    · simp only [if_true, true_and, Bool.true_eq_false, if_false]
      by_cases hT : T = []
      · simp only [hT, if_true, true_and, ne_eq, not_true_eq_false, and_false, if_false]
        by_cases hD : D = []
        · subst hD
          simp only [not_true_eq_false, if_false]
          have := item_j0 [] []
          simpa using this
        · rw [if_pos hD]
          refine Ev.step (fun k => ?_) (item_j1 [48] D)
          rw [portset_item.j0, if_pos (bne_iff_ne.2 hD)]
          rfl
      · simp only [hT, if_false, false_and, ne_eq, not_false_eq_true, and_true]
        have := item_j0 T D
        simpa only [hT, ne_eq, not_false_eq_true, and_true] using this
end Go.Proofs.YtbimdjciacnioaaDoor.Q
end

section
namespace Go.Proofs.YtbimdjciacnioaaDoor.Canon
abbrev Sp := Int × Int
def Mem (l : List Sp) (n : Int) : Prop := ∃ x, x ∈ l ∧ x.1 ≤ n ∧ n ≤ x.2
def CanFrom : Int → List Sp → Prop
  | _, [] => True
  | lo, x :: t => lo ≤ x.1 ∧ x.1 ≤ x.2 ∧ CanFrom (x.2 + 2) t
theorem mem_nil (n : Int) : Mem [] n ↔ False := by simp [Mem]
theorem mem_cons (x : Sp) (t : List Sp) (n : Int) : Mem (x :: t) n ↔ (x.1 ≤ n ∧ n ≤ x.2) ∨ Mem t n := by
  simp only [Mem, List.mem_cons]
  constructor
  · rintro ⟨y, rfl | hy, h⟩
    · exact .inl h
    · exact .inr ⟨y, hy, h⟩
  · rintro (h | ⟨y, hy, h⟩)
    · exact ⟨x, .inl rfl, h⟩
    · exact ⟨y, .inr hy, h⟩
theorem mem_append (a b : List Sp) (n : Int) : Mem (a ++ b) n ↔ Mem a n ∨ Mem b n := by
  induction a with
  | nil => simp [mem_nil]
  | cons x t ih => simp only [List.cons_append, mem_cons, ih]; exact or_assoc.symm
theorem CanFrom.mono {lo lo' : Int} {l : List Sp} (h : lo' ≤ lo) (c : CanFrom lo l) : CanFrom lo' l := by
  cases l with
  | nil => trivial
  | cons x t => exact ⟨Int.le_trans h c.1, c.2⟩
theorem CanFrom.ge : ∀ {l : List Sp} {lo n : Int}, CanFrom lo l → Mem l n → lo ≤ n
  | [], _, _, _, h => ((mem_nil _).1 h).elim
  | x :: t, lo, n, c, h => by
    rcases (mem_cons x t n).1 h with h | h
    · have := c.1; omega
    · have := CanFrom.ge c.2.2 h; have := c.1; have := c.2.1; omega
theorem uniq : ∀ (a b : List Sp) (lo : Int), CanFrom lo a → CanFrom lo b → (∀ n, Mem a n ↔ Mem b n) → a = b
  | [], [], _, _, _, _ => rfl
  | [], y :: t, _, _, cb, h => by
    have := (h y.1).2 ((mem_cons y t _).2 (.inl ⟨Int.le_refl _, cb.2.1⟩))
    exact ((mem_nil _).1 this).elim
  | x :: s, [], _, ca, _, h => by
    have := (h x.1).1 ((mem_cons x s _).2 (.inl ⟨Int.le_refl _, ca.2.1⟩))
    exact ((mem_nil _).1 this).elim
  | x :: s, y :: t, lo, ca, cb, h => by
    have hx : ∀ n, Mem (x :: s) n → x.1 ≤ n := fun n hn => CanFrom.ge (lo := x.1) (l := x :: s) ⟨Int.le_refl _, ca.2⟩ hn
    have hy : ∀ n, Mem (y :: t) n → y.1 ≤ n := fun n hn => CanFrom.ge (lo := y.1) (l := y :: t) ⟨Int.le_refl _, cb.2⟩ hn
    have e1 : x.1 = y.1 := by
      have a1 := hy _ ((h x.1).1 ((mem_cons x s _).2 (.inl ⟨Int.le_refl _, ca.2.1⟩)))
      have a2 := hx _ ((h y.1).2 ((mem_cons y t _).2 (.inl ⟨Int.le_refl _, cb.2.1⟩)))
      omega
    have e2 : x.2 = y.2 := by
      have k1 : ¬ x.2 < y.2 := fun hlt => by
        have := (h (x.2 + 1)).2 ((mem_cons y t _).2 (.inl ⟨by have := ca.2.1; omega, by omega⟩))
        rcases (mem_cons x s _).1 this with m | m
        · omega
        · have := ca.2.2.ge m; omega
      have k2 : ¬ y.2 < x.2 := fun hlt => by
        have := (h (y.2 + 1)).1 ((mem_cons x s _).2 (.inl ⟨by have := cb.2.1; omega, by omega⟩))
        rcases (mem_cons y t _).1 this with m | m
        · omega
        · have := cb.2.2.ge m; omega
      omega
    have e : x = y := Prod.ext e1 e2
    subst e
    rw [uniq s t (x.2 + 2) ca.2.2 cb.2.2 (fun n => by
      constructor
      · intro hn
        have g := ca.2.2.ge hn
        rcases (mem_cons x t _).1 ((h n).1 ((mem_cons x s _).2 (.inr hn))) with m | m
        · omega
        · exact m
      · intro hn
        have g := cb.2.2.ge hn
        rcases (mem_cons x s _).1 ((h n).2 ((mem_cons x t _).2 (.inr hn))) with m | m
        · omega
        · exact m)]
theorem can_append : ∀ (a b : List Sp) (lo : Int), CanFrom lo (a ++ b) ↔ CanFrom lo a ∧ (∀ x ∈ a, ∀ y ∈ b, x.2 + 1 < y.1) ∧ (∃ lo', CanFrom lo' b) ∧ (∀ y ∈ b, lo ≤ y.1)
  | [], b, lo => by
    constructor
    · intro c
      refine ⟨trivial, by simp, ⟨lo, c⟩, fun y hy => ?_⟩
      have hm : Mem b y.1 → lo ≤ y.1 := c.ge
      refine hm ⟨y, hy, Int.le_refl _, ?_⟩
      have : ∀ (b : List Sp) (lo : Int), CanFrom lo b → ∀ y ∈ b, y.1 ≤ y.2 := by
        intro b
        induction b with
        | nil => simp
        | cons z t ih =>
          intro lo c y hy
          rcases List.mem_cons.1 hy with rfl | hy
          · exact c.2.1
          · exact ih _ c.2.2 y hy
      exact this b lo c y hy
    · rintro ⟨_, _, ⟨lo', c⟩, h⟩
      cases b with
      | nil => trivial
      | cons z t => exact ⟨h z (List.mem_cons_self ..), c.2⟩
  | x :: a, b, lo => by
    have ih := can_append a b (x.2 + 2)
    constructor
    · rintro ⟨c1, c2, c3⟩
      obtain ⟨i1, i2, i3, i4⟩ := ih.1 c3
      refine ⟨⟨c1, c2, i1⟩, fun z hz y hy => ?_, i3, fun y hy => ?_⟩
      · rcases List.mem_cons.1 hz with rfl | hz
        · have := i4 y hy; omega
        · exact i2 z hz y hy
      · have := i4 y hy; omega
    · rintro ⟨⟨c1, c2, c3⟩, h2, h3, h4⟩
      refine ⟨c1, c2, ih.2 ⟨c3, fun z hz => h2 z (List.mem_cons_of_mem _ hz), h3, fun y hy => ?_⟩⟩
      have := h2 x (List.mem_cons_self ..) y hy
      omega
theorem can_wf : ∀ (b : List Sp) (lo : Int), CanFrom lo b → ∀ y ∈ b, lo ≤ y.1 ∧ y.1 ≤ y.2
  | [], _, _, y, hy => by simp at hy
  | z :: t, lo, c, y, hy => by
    rcases List.mem_cons.1 hy with rfl | hy
    · exact ⟨c.1, c.2.1⟩
    · have := can_wf t _ c.2.2 y hy
      have := c.1; have := c.2.1
      exact ⟨by omega, by omega⟩
end Go.Proofs.YtbimdjciacnioaaDoor.Canon
end

section
set_option linter.unusedVariables false
set_option linter.unusedSimpArgs false
namespace Go.Proofs.YtbimdjciacnioaaDoor.Q
open Go.RowKit Go.Proofs.YtbimdjciacnioaaDoorW.PrintWords Go.Proofs.YtbimdjciacnioaaDoorW.PrintLast Go.Proofs.YtbimdjciacnioaaDoorW.PrintMore Go.Proofs.YtbimdjciacnioaaDoor.Canon
abbrev Sn := S33
def sp (x : Sn) : Sp := (x.f0, x.f1)
theorem sp_inj {x y : Sn} (h : sp x = sp y) : x = y := by
  cases x; cases y
  simp [sp] at h
  simp [h.1, h.2]
def SM (l : List Sn) (n : Int) : Prop := Mem (l.map sp) n
theorem sm_cons (x : Sn) (t : List Sn) (n : Int) : SM (x :: t) n ↔ (x.f0 ≤ n ∧ n ≤ x.f1) ∨ SM t n := by unfold SM; rw [List.map_cons, mem_cons]; rfl
theorem sm_nil (n : Int) : SM [] n ↔ False := mem_nil n
theorem sm_append (a b : List Sn) (n : Int) : SM (a ++ b) n ↔ SM a n ∨ SM b n := by unfold SM; rw [List.map_append, mem_append]
theorem sm_iff (l : List Sn) (n : Int) : SM l n ↔ ∃ x ∈ l, x.f0 ≤ n ∧ n ≤ x.f1 := by
  unfold SM Mem
  constructor
  · rintro ⟨y, hy, h⟩
    obtain ⟨x, hx, rfl⟩ := List.mem_map.1 hy
    exact ⟨x, hx, h⟩
  · rintro ⟨x, hx, h⟩
    exact ⟨sp x, List.mem_map.2 ⟨x, hx, rfl⟩, h⟩
def Can (P : Int → Prop) (r : List Sn) : Prop := CanFrom 0 (r.map sp) ∧ (∀ x ∈ r, x.f1 ≤ 4294967296) ∧ ∀ n, SM r n ↔ P n
theorem map_sp_inj : ∀ {a b : List Sn}, a.map sp = b.map sp → a = b
  | [], [], _ => rfl
  | [], y :: t, h => by simp at h
  | x :: s, [], h => by simp at h
  | x :: s, y :: t, h => by
    simp only [List.map_cons, List.cons.injEq] at h
    rw [sp_inj h.1, map_sp_inj h.2]
theorem Can.uniq {P : Int → Prop} {a b : List Sn} (ha : Can P a) (hb : Can P b) : a = b :=
  map_sp_inj (Canon.uniq _ _ 0 ha.1 hb.1 (fun n => (ha.2.2 n).trans (hb.2.2 n).symm))
theorem Can.congr {P Q : Int → Prop} {r : List Sn} (h : Can P r) (e : ∀ n, P n ↔ Q n) : Can Q r := ⟨h.1, h.2.1, fun n => (h.2.2 n).trans (e n)⟩
theorem Can.wf {P : Int → Prop} {r : List Sn} (h : Can P r) : ∀ x ∈ r, 0 ≤ x.f0 ∧ x.f0 ≤ x.f1 ∧ x.f1 ≤ 4294967296 := fun x hx => by
  have := can_wf _ _ h.1 (sp x) (List.mem_map.2 ⟨x, hx, rfl⟩)
  exact ⟨this.1, this.2, h.2.1 x hx⟩
theorem Can.range {P : Int → Prop} {r : List Sn} (h : Can P r) (n : Int) (hn : P n) : 0 ≤ n ∧ n ≤ 4294967296 := by
  obtain ⟨x, hx, h1, h2⟩ := (sm_iff r n).1 ((h.2.2 n).2 hn)
  have := h.wf x hx
  omega
theorem rd_at (l : List Sn) (i : Nat) (h : i < l.length) : rd_T33 l (i : Int) = l[i] := by
  simp [rd_T33, List.getD_eq_getElem?_getD, List.getElem?_eq_getElem h]
theorem wrap_id {x : Int} (h0 : -9223372036854775808 ≤ x) (h1 : x ≤ 9223372036854775807) : wrap64 x = x := by unfold wrap64; omega
theorem wrap_succ (i : Nat) (h : i < 9223372036854775807) : wrap64 ((i : Int) + 1) = ((i + 1 : Nat) : Int) := by rw [wrap_id (by omega) (by omega)]; simp
theorem drop_cons {α : Type} (l : List α) (i : Nat) (h : i < l.length) : l.drop i = l[i] :: l.drop (i + 1) := (List.drop_eq_getElem_cons h)
theorem ev_cutp (a b : Int) : interval_cut_1.f a b = some (decide (a ≤ b)) := by unfold interval_cut_1.f; simp
theorem ev_sel (L : List Sn) (hl : L.length < 8796093022208) : ∀ (d i : Nat) (out : List Sn), L.length - i = d → i ≤ L.length → out.length ≤ i → Ev (fun k => interval_selected_at_interval_cut_1.l0 k out L (L.length : Int) (i : Int)) (out ++ (L.drop i).filter (fun x => decide (x.f0 ≤ x.f1))) := by
  intro d
  induction d with
  | zero =>
    intro i out hd hi ho
    have : i = L.length := by omega
    subst this
    refine Ev.step (f := fun _ => some out) (fun k => ?_) ?_
    · simp only [interval_selected_at_interval_cut_1.l0]; rw [if_neg (by omega)]
    · simpa using Ev.now out
  | succ d ih =>
    intro i out hd hi ho
    have hlt : i < L.length := by omega
    rw [drop_cons L i hlt, List.filter_cons]
    by_cases hc : L[i].f0 ≤ L[i].f1
    · rw [if_pos (by simpa using hc)]
      have h2 := ih (i + 1) (out ++ [L[i]]) (by omega) (by omega) (by simp; omega)
      rw [List.append_assoc] at h2
      refine Ev.step (fun k => ?_) h2
      simp only [interval_selected_at_interval_cut_1.l0]
      rw [if_pos (by omega), if_pos (by omega), if_pos (by omega), rd_at L i hlt, ev_cutp]
      simp only [Option.bind_some]
      rw [if_pos (by simpa using hc), if_pos (by omega), wrap_succ i (by omega)]
    · rw [if_neg (by simpa using hc)]
      refine Ev.step (fun k => ?_) (ih (i + 1) out (by omega) (by omega) (by omega))
      simp only [interval_selected_at_interval_cut_1.l0]
      rw [if_pos (by omega), if_pos (by omega), if_pos (by omega), rd_at L i hlt, ev_cutp]
      simp only [Option.bind_some]
      rw [if_neg (by simpa using hc), wrap_succ i (by omega)]
def clip (lo hi : Int) (x : Sn) : Sn := ⟨mx x.f0 lo, mn x.f1 hi⟩
theorem ev_cut0 (L : List Sn) (lo hi : Int) (hl : L.length < 8796093022208) : ∀ (d i : Nat) (out : List Sn), L.length - i = d → i ≤ L.length → out.length = i → Ev (fun k => interval_cut.l0 k lo hi out L (L.length : Int) (i : Int)) ((out ++ (L.drop i).map (clip lo hi)).filter (fun x => decide (x.f0 ≤ x.f1))) := by
  intro d
  induction d with
  | zero =>
    intro i out hd hle ho
    have : i = L.length := by omega
    subst this
    refine Ev.step (f := fun k => (interval_selected_at_interval_cut_1.f k out).bind fun t => some t) (fun k => ?_) ?_
    · simp only [interval_cut.l0]; rw [if_neg (by omega)]
    · refine Ev.bind (a := out.filter (fun x => decide (x.f0 ≤ x.f1))) ?_ ?_
      · have := ev_sel out (by omega) out.length 0 [] (by omega) (by omega) (by simp)
        simpa [interval_selected_at_interval_cut_1.f] using this
      · simpa using Ev.now _
  | succ d ih =>
    intro i out hd hle ho
    have hlt : i < L.length := by omega
    have h2 := ih (i + 1) (out ++ [clip lo hi L[i]]) (by omega) (by omega) (by simp; omega)
    rw [List.append_assoc] at h2
    rw [drop_cons L i hlt, List.map_cons]
    refine Ev.step (fun k => ?_) h2
    simp only [interval_cut.l0]
    rw [if_pos (by omega), if_pos (by omega), if_pos (by omega), rd_at L i hlt, if_pos (by omega), wrap_succ i (by omega)]
    rfl
def clipped (lo hi : Int) (L : List Sn) : List Sn := (L.map (clip lo hi)).filter (fun x => decide (x.f0 ≤ x.f1))
theorem ev_cut (L : List Sn) (lo hi : Int) (hl : L.length < 8796093022208) : Ev (fun k => interval_cut.f k L lo hi) (clipped lo hi L) := by
  have h := ev_cut0 L lo hi hl L.length 0 [] (by omega) (by omega) rfl
  refine Ev.congr (fun k => ?_) h
  unfold interval_cut.f
  rw [if_pos (by omega), if_pos (by omega)]
  rfl
theorem clipped_spec (L : List Sn) : (clipped 0 4294967296 L).length ≤ L.length ∧ (∀ x ∈ clipped 0 4294967296 L, 0 ≤ x.f0 ∧ x.f0 ≤ x.f1 ∧ x.f1 ≤ 4294967296) ∧ ∀ n, SM (clipped 0 4294967296 L) n ↔ SM L n ∧ 0 ≤ n ∧ n ≤ 4294967296 := by
  refine ⟨?_, ?_, ?_⟩
  · unfold clipped
    refine Nat.le_trans (List.length_filter_le _ _) (by simp)
  · intro x hx
    unfold clipped at hx
    obtain ⟨h1, h2⟩ := List.mem_filter.1 hx
    obtain ⟨y, hy, rfl⟩ := List.mem_map.1 h1
    have h3 := of_decide_eq_true h2
    simp only [clip, mx, mn] at h3 ⊢
    refine ⟨?_, h3, ?_⟩
    · split <;> omega
    · split <;> omega
  · intro n
    rw [sm_iff, sm_iff]
    unfold clipped
    constructor
    · rintro ⟨x, hx, h1, h2⟩
      obtain ⟨h3, h4⟩ := List.mem_filter.1 hx
      obtain ⟨y, hy, rfl⟩ := List.mem_map.1 h3
      simp only [clip, mx, mn] at h1 h2
      refine ⟨⟨y, hy, ?_, ?_⟩, ?_, ?_⟩
      · split at h1 <;> omega
      · split at h2 <;> omega
      · split at h1 <;> omega
      · split at h2 <;> omega
    · rintro ⟨⟨y, hy, h1, h2⟩, h3, h4⟩
      refine ⟨clip 0 4294967296 y, List.mem_filter.2 ⟨List.mem_map.2 ⟨y, hy, rfl⟩, ?_⟩, ?_, ?_⟩
      · refine decide_eq_true ?_
        simp only [clip, mx, mn]
        split <;> split <;> omega
      · simp only [clip, mx]
        split <;> omega
      · simp only [clip, mn]
        split <;> omega
def mrg (out : List Sn) (x : Sn) : List Sn :=
  if h : 0 < out.length then (if x.f0 ≤ (out[out.length - 1]'(by omega)).f1 + 1 then out.set (out.length - 1) ⟨(out[out.length - 1]'(by omega)).f0, mx (out[out.length - 1]'(by omega)).f1 x.f1⟩ else out ++ [x]) else out ++ [x]
theorem mrg_nil (x : Sn) : mrg [] x = [x] := by simp [mrg]
theorem mrg_snoc (i : List Sn) (y x : Sn) : mrg (i ++ [y]) x = if x.f0 ≤ y.f1 + 1 then i ++ [(⟨y.f0, mx y.f1 x.f1⟩ : Sn)] else i ++ [y] ++ [x] := by
  have hl : (i ++ [y]).length - 1 = i.length := by simp
  have hg : (i ++ [y])[(i ++ [y]).length - 1]'(by simp) = y := by simp
  unfold mrg
  rw [dif_pos (by simp)]
  rw [hg, hl]
  split
  · simp
  · rfl
theorem mrg_len (out : List Sn) (x : Sn) : out.length ≤ (mrg out x).length ∧ (mrg out x).length ≤ out.length + 1 := by
  unfold mrg
  split
  · split <;> simp
  · simp
theorem fold_len : ∀ (L out : List Sn), (L.foldl mrg out).length ≤ out.length + L.length
  | [], out => by simp
  | x :: t, out => by
    have h1 := fold_len t (mrg out x)
    have h2 := (mrg_len out x).2
    simp only [List.foldl_cons, List.length_cons]
    omega
def WF (x : Sn) : Prop := 0 ≤ x.f0 ∧ x.f0 ≤ x.f1 ∧ x.f1 ≤ 4294967296
theorem ev_nl (L : List Sn) (hl : L.length < 8796093022208) (hL : ∀ x ∈ L, WF x) : ∀ (d i : Nat) (out : List Sn), L.length - i = d → i ≤ L.length → out.length ≤ i → (∀ x ∈ out, WF x) → Ev (fun k => interval_Normal.l0 k out L (L.length : Int) (i : Int)) ((L.drop i).foldl mrg out) := by
  intro d
  induction d with
  | zero =>
    intro i out hd hi ho _
    have : i = L.length := by omega
    subst this
    refine Ev.step (f := fun _ => some out) (fun k => ?_) ?_
    · simp only [interval_Normal.l0]; rw [if_neg (by omega)]
    · simpa using Ev.now out
  | succ d ih =>
    intro i out hd hi ho hw
    have hlt : i < L.length := by omega
    have hx := hL L[i] (List.getElem_mem hlt)
    rw [drop_cons L i hlt, List.foldl_cons]
    have hm : ∀ x ∈ mrg out L[i], WF x := by
      rcases List.eq_nil_or_concat out with rfl | ⟨j, y, rfl⟩
      · rw [mrg_nil]; intro x h; rw [List.mem_singleton.1 h]; exact hx
      · have hy := hw y (by simp)
        rw [List.concat_eq_append, mrg_snoc]
        split
        · intro x h
          rcases List.mem_append.1 h with h | h
          · exact hw x (by simp [h])
          · rw [List.mem_singleton.1 h]
            obtain ⟨y1, y2, y3⟩ := hy
            obtain ⟨x1, x2, x3⟩ := hx
            refine ⟨y1, ?_, ?_⟩ <;> simp only [mx] <;> split <;> omega
        · intro x h
          rcases List.mem_append.1 h with h | h
          · exact hw x (by rw [List.concat_eq_append]; exact h)
          · rw [List.mem_singleton.1 h]; exact hx
    have h2 := ih (i + 1) (mrg out L[i]) (by omega) (by omega) (by have := (mrg_len out L[i]).2; omega) hm
    refine Ev.step (fun k => ?_) h2
    simp only [interval_Normal.l0]
    rw [if_pos (by omega), if_pos (by omega), if_pos (by omega), rd_at L i hlt]
    by_cases h0 : 0 < out.length
    · have hy := hw (out[out.length - 1]'(by omega)) (List.getElem_mem _)
      rw [if_pos (by omega), show wrap64 ((out.length : Int) - 1) = ((out.length - 1 : Nat) : Int) from by rw [wrap_id (by omega) (by omega)]; omega, if_pos (by omega), if_pos (by omega), rd_at out (out.length - 1) (by omega)]
      obtain ⟨y1, y2, y3⟩ := hy
      rw [wrap_id (x := (out[out.length - 1]'(by omega)).f1 + 1) (by omega) (by omega), wrap_succ i (by omega)]
      unfold mrg
      rw [dif_pos h0]
      split
      · rfl
      · rw [if_pos (by omega)]
    · rw [if_neg (by omega), if_pos (by omega), wrap_succ i (by omega)]
      unfold mrg
      rw [dif_neg h0]
theorem mrg_spec : ∀ (L i : List Sn) (y : Sn), (∀ x ∈ L, WF x) → L.Pairwise (fun a b => a.f0 ≤ b.f0) → (∀ x ∈ L, y.f0 ≤ x.f0) → WF y → CanFrom 0 ((i ++ [y]).map sp) → (∀ x ∈ i ++ [y], x.f1 ≤ 4294967296) → Can (fun n => SM (i ++ [y]) n ∨ SM L n) (L.foldl mrg (i ++ [y]))
  | [], i, y, _, _, _, _, hc, hm => by
    refine ⟨hc, hm, fun n => ?_⟩
    simp [sm_nil]
  | x :: t, i, y, hL, hp, hy, hwy, hc, hm => by
    have hx := hL x (List.mem_cons_self ..)
    have ht : ∀ z ∈ t, WF z := fun z hz => hL z (List.mem_cons_of_mem _ hz)
    obtain ⟨p1, p2⟩ := List.pairwise_cons.1 hp
    rw [List.foldl_cons, mrg_snoc]
    have hxy := hy x (List.mem_cons_self ..)
    rw [List.map_append, can_append] at hc
    obtain ⟨c1, c2, _, c4⟩ := hc
    simp only [List.map_cons, List.map_nil, List.mem_singleton, forall_eq] at c2 c4
    obtain ⟨w1, w2, w3⟩ := hwy
    obtain ⟨x1, x2, x3⟩ := hx
    split
    · rename_i hj
      have hmx : y.f1 ≤ mx y.f1 x.f1 ∧ x.f1 ≤ mx y.f1 x.f1 ∧ mx y.f1 x.f1 ≤ 4294967296 ∧ (mx y.f1 x.f1 = y.f1 ∨ mx y.f1 x.f1 = x.f1) := by
        simp only [mx]
        split <;> omega
      generalize mx y.f1 x.f1 = m at hmx
      have h := mrg_spec t i ⟨y.f0, m⟩ ht p2 (fun z hz => Int.le_trans hxy (p1 z hz)) ⟨w1, by simp; omega, hmx.2.2.1⟩ (by
        rw [List.map_append, can_append]
        refine ⟨c1, ?_, ⟨y.f0, by simp [sp, CanFrom]; omega⟩, ?_⟩
        · intro z hz u hu
          simp only [List.map_cons, List.map_nil, List.mem_singleton] at hu
          subst hu
          exact c2 z hz
        · intro u hu
          simp only [List.map_cons, List.map_nil, List.mem_singleton] at hu
          subst hu
          exact c4) (by
        intro z hz
        rcases List.mem_append.1 hz with hz | hz
        · exact hm z (by simp [hz])
        · rw [List.mem_singleton.1 hz]; exact hmx.2.2.1)
      refine h.congr (fun n => ?_)
      rw [sm_append, sm_append, sm_cons, sm_cons, sm_cons, sm_nil]
      simp only [or_false]
      constructor
      · rintro ((h | h) | h)
        · exact .inl (.inl h)
        · by_cases hn : n ≤ y.f1
          · exact .inl (.inr ⟨h.1, hn⟩)
          · exact .inr (.inl ⟨by omega, by have h3 : n ≤ m := h.2; omega⟩)
        · exact .inr (.inr h)
      · rintro ((h | h) | h | h)
        · exact .inl (.inl h)
        · exact .inl (.inr ⟨h.1, show n ≤ m from by omega⟩)
        · exact .inl (.inr ⟨show y.f0 ≤ n from by omega, show n ≤ m from by omega⟩)
        · exact .inr h
    · rename_i hj
      have h := mrg_spec t (i ++ [y]) x ht p2 p1 ⟨x1, x2, x3⟩ (by
        rw [List.map_append, can_append]
        refine ⟨?_, ?_, ⟨x.f0, by simp [sp, CanFrom]; omega⟩, ?_⟩
        · rw [List.map_append, can_append]
          refine ⟨c1, ?_, ⟨y.f0, by simp [sp, CanFrom]; omega⟩, ?_⟩
          · intro z hz u hu
            simp only [List.map_cons, List.map_nil, List.mem_singleton] at hu
            subst hu
            exact c2 z hz
          · intro u hu
            simp only [List.map_cons, List.map_nil, List.mem_singleton] at hu
            subst hu
            exact c4
        · intro z hz u hu
          simp only [List.map_cons, List.map_nil, List.mem_singleton] at hu
          subst hu
          rw [List.map_append] at hz
          rcases List.mem_append.1 hz with hz | hz
          · have := c2 z hz
            simp only [sp] at this ⊢
            omega
          · simp only [List.map_cons, List.map_nil, List.mem_singleton] at hz
            subst hz
            simp only [sp]
            omega
        · intro u hu
          simp only [List.map_cons, List.map_nil, List.mem_singleton] at hu
          subst hu
          exact x1) (by
        intro z hz
        rcases List.mem_append.1 hz with hz | hz
        · exact hm z hz
        · rw [List.mem_singleton.1 hz]; exact x3)
      refine h.congr (fun n => ?_)
      rw [sm_append (i ++ [y]) [x], sm_cons x t, sm_cons x [], sm_nil]
      simp only [or_false, or_assoc]
theorem merge_spec (L : List Sn) (hL : ∀ x ∈ L, WF x) (hp : L.Pairwise (fun a b => a.f0 ≤ b.f0)) : Can (SM L) (L.foldl mrg []) := by
  cases L with
  | nil => exact ⟨trivial, by simp, fun n => Iff.rfl⟩
  | cons x t =>
    obtain ⟨p1, p2⟩ := List.pairwise_cons.1 hp
    have hx := hL x (List.mem_cons_self ..)
    have h := mrg_spec t [] x (fun z hz => hL z (List.mem_cons_of_mem _ hz)) p2 p1 hx ⟨hx.1, hx.2.1, trivial⟩ (by simp; exact hx.2.2)
    rw [List.foldl_cons, mrg_nil]
    refine h.congr (fun n => ?_)
    rw [List.nil_append, sm_cons, sm_cons, sm_nil, or_false]
theorem normal_spec (l : List Sn) (hl : l.length < 8796093022208) : ∃ r, Ev (fun k => interval_Normal.f k l) r ∧ Can (fun n => SM l n ∧ 0 ≤ n ∧ n ≤ 4294967296) r ∧ r.length ≤ l.length := by
  obtain ⟨c1, c2, c3⟩ := clipped_spec l
  obtain ⟨s1, s2, s3⟩ := sortSpans_spec (clipped 0 4294967296 l)
  have hw : ∀ x ∈ sortSpans (clipped 0 4294967296 l), WF x := fun x hx => c2 x (s2.mem_iff.1 hx)
  refine ⟨(sortSpans (clipped 0 4294967296 l)).foldl mrg [], ?_, ?_, ?_⟩
  · refine Ev.congr (fun k => by unfold interval_Normal.f; rfl) (Ev.bind (ev_cut l 0 4294967296 hl) (Ev.bind (g := fun _ => sort_Span.f (clipped 0 4294967296 l)) (a := sortSpans (clipped 0 4294967296 l)) ?_ ?_))
    · refine Ev.congr (fun k => ?_) (Ev.now _)
      unfold sort_Span.f
      rw [if_pos (by omega)]
    · have h := ev_nl (sortSpans (clipped 0 4294967296 l)) (by omega) hw _ 0 [] rfl (Nat.zero_le _) (Nat.le_refl _) (by simp)
      rw [s1] at h
      simpa using h
  · refine (merge_spec _ hw s3).congr (fun n => ?_)
    rw [← c3 n, sm_iff, sm_iff]
    constructor
    · rintro ⟨x, hx, h⟩
      exact ⟨x, s2.mem_iff.1 hx, h⟩
    · rintro ⟨x, hx, h⟩
      exact ⟨x, s2.mem_iff.2 hx, h⟩
  · have := fold_len (sortSpans (clipped 0 4294967296 l)) []
    simp at this
    omega
end Go.Proofs.YtbimdjciacnioaaDoor.Q
end

section
set_option linter.unusedVariables false
set_option linter.unusedSimpArgs false
namespace Go.Proofs.YtbimdjciacnioaaDoor.Q
open Go.RowKit Go.Proofs.YtbimdjciacnioaaDoorW.PrintWords Go.Proofs.YtbimdjciacnioaaDoorW.PrintLast Go.Proofs.YtbimdjciacnioaaDoorW.PrintMore Go.Proofs.YtbimdjciacnioaaDoor.Canon
def minS (c x : Sn) : Sn := if x.f0 < c.f0 then x else c
theorem min_spec (W : List Sn) : ∀ (T : List Sn) (c : Sn), (∀ x ∈ T, x ∈ W) → c ∈ W → (T.foldl minS c) ∈ W ∧ (T.foldl minS c).f0 ≤ c.f0 ∧ ∀ x ∈ T, (T.foldl minS c).f0 ≤ x.f0
  | [], c, _, hc => ⟨hc, Int.le_refl _, by simp⟩
  | x :: t, c, hT, hc => by
    have hm : minS c x ∈ W := by
      unfold minS
      split
      · exact hT x (List.mem_cons_self ..)
      · exact hc
    obtain ⟨h1, h2, h3⟩ := min_spec W t (minS c x) (fun z hz => hT z (List.mem_cons_of_mem _ hz)) hm
    have h4 : (minS c x).f0 ≤ c.f0 ∧ (minS c x).f0 ≤ x.f0 := by unfold minS; split <;> constructor <;> omega
    refine ⟨h1, Int.le_trans h2 h4.1, fun z hz => ?_⟩
    rcases List.mem_cons.1 hz with rfl | hz
    · exact Int.le_trans h2 h4.2
    · exact h3 z hz
theorem ev_min {r : Int × Int × List Sn} (W : List Sn) (hl : W.length < 8796093022208) : ∀ (d i : Nat) (c : Sn), W.length - i = d → i ≤ W.length → Ev (fun k => intrusionref05_least.l1 k W true ((W.drop i).foldl minS c).f0 ((W.drop i).foldl minS c).f1) r → Ev (fun k => intrusionref05_least.l0 k W (i : Int) c.f0 c.f1) r := by
  intro d
  induction d with
  | zero =>
    intro i c hd hi h
    have : i = W.length := by omega
    subst this
    refine Ev.step (fun k => ?_) h
    simp only [intrusionref05_least.l0]
    rw [if_neg (by omega)]
    simp
  | succ d ih =>
    intro i c hd hi h
    have hlt : i < W.length := by omega
    rw [drop_cons W i hlt, List.foldl_cons] at h
    refine Ev.step (fun k => ?_) (ih (i + 1) (minS c W[i]) (by omega) (by omega) h)
    simp only [intrusionref05_least.l0]
    rw [if_pos (by omega), if_pos (by omega), rd_at W i hlt, wrap_succ i (by omega)]
    unfold minS
    split <;> rfl
def pass (s : Int × Bool) (x : Sn) : Int × Bool := if x.f0 ≤ s.1 + 1 ∧ x.f1 > s.1 then (x.f1, true) else s
theorem pass_spec (a : Int) (W : List Sn) (hW : ∀ x ∈ W, WF x) : ∀ (T : List Sn) (s : Int × Bool), (∀ x ∈ T, x ∈ W) → 0 ≤ s.1 → s.1 ≤ 4294967296 → (∀ n, a ≤ n → n ≤ s.1 → SM W n) →
    s.1 ≤ (T.foldl pass s).1 ∧ (T.foldl pass s).1 ≤ 4294967296 ∧ (∀ n, a ≤ n → n ≤ (T.foldl pass s).1 → SM W n) ∧ ((T.foldl pass s).2 = false → (T.foldl pass s).1 = s.1 ∧ ∀ x ∈ T, ¬ (x.f0 ≤ s.1 + 1 ∧ x.f1 > s.1)) ∧
    ((T.foldl pass s).1 = s.1 ∨ ∃ x ∈ T, x.f1 = (T.foldl pass s).1) ∧ ((T.foldl pass s).2 = true → s.2 = true ∨ s.1 < (T.foldl pass s).1) ∧ ((T.foldl pass s).2 = false → s.2 = false)
  | [], s, _, h0, h1, hc => ⟨Int.le_refl _, h1, hc, fun _ => ⟨rfl, by simp⟩, .inl rfl, fun h => .inl h, fun h => h⟩
  | x :: t, s, hT, h0, h1, hc => by
    have hx := hT x (List.mem_cons_self ..)
    have wx := hW x hx
    have ht := fun z hz => hT z (List.mem_cons_of_mem _ hz)
    rw [List.foldl_cons]
    by_cases hp : x.f0 ≤ s.1 + 1 ∧ x.f1 > s.1
    · have e : pass s x = (x.f1, true) := by unfold pass; rw [if_pos hp]
      rw [e]
      obtain ⟨i1, i2, i3, i4, i5, i6, i7⟩ := pass_spec a W hW t (x.f1, true) ht (by have := wx.1; have := wx.2.1; simp; omega) wx.2.2 (fun n n1 n2 => by
        by_cases hn : n ≤ s.1
        · exact hc n n1 hn
        · exact (sm_iff W n).2 ⟨x, hx, by omega, n2⟩)
      simp only at i1 i2 i3 i4 i5 i6 i7
      refine ⟨by omega, i2, i3, fun h => ?_, ?_, fun _ => .inr (by omega), fun h => by simpa using i7 h⟩
      · have := i7 h
        simp at this
      · rcases i5 with e5 | ⟨z, hz, e5⟩
        · exact .inr ⟨x, List.mem_cons_self .., e5.symm⟩
        · exact .inr ⟨z, List.mem_cons_of_mem _ hz, e5⟩
    · have e : pass s x = s := by unfold pass; rw [if_neg hp]
      rw [e]
      obtain ⟨i1, i2, i3, i4, i5, i6, i7⟩ := pass_spec a W hW t s ht h0 h1 hc
      refine ⟨i1, i2, i3, fun h => ⟨(i4 h).1, fun z hz => ?_⟩, ?_, i6, i7⟩
      · rcases List.mem_cons.1 hz with rfl | hz
        · exact hp
        · exact (i4 h).2 z hz
      · rcases i5 with e5 | ⟨z, hz, e5⟩
        · exact .inl e5
        · exact .inr ⟨z, List.mem_cons_of_mem _ hz, e5⟩
theorem ev_pass {r : Int × Int × List Sn} (a : Int) (W : List Sn) (hl : W.length < 8796093022208) (hW : ∀ x ∈ W, WF x) : ∀ (d i : Nat) (s : Int × Bool), W.length - i = d → i ≤ W.length → 0 ≤ s.1 → s.1 ≤ 4294967296 →
    Ev (fun k => intrusionref05_least.l1 k W ((W.drop i).foldl pass s).2 a ((W.drop i).foldl pass s).1) r → Ev (fun k => intrusionref05_least.l2 k W s.2 (i : Int) a s.1) r := by
  intro d
  induction d with
  | zero =>
    intro i s hd hi h0 h1 h
    have : i = W.length := by omega
    subst this
    refine Ev.step (fun k => ?_) h
    simp only [intrusionref05_least.l2]
    rw [if_neg (by omega)]
    simp
  | succ d ih =>
    intro i s hd hi h0 h1 h
    have hlt : i < W.length := by omega
    have wx := hW W[i] (List.getElem_mem hlt)
    rw [drop_cons W i hlt, List.foldl_cons] at h
    have hr : 0 ≤ (pass s W[i]).1 ∧ (pass s W[i]).1 ≤ 4294967296 := by
      unfold pass
      split
      · exact ⟨by have := wx.1; have := wx.2.1; simp; omega, wx.2.2⟩
      · exact ⟨h0, h1⟩
    refine Ev.step (fun k => ?_) (ih (i + 1) (pass s W[i]) (by omega) (by omega) hr.1 hr.2 h)
    simp only [intrusionref05_least.l2]
    rw [if_pos (by omega), if_pos (by omega), rd_at W i hlt, wrap_succ i (by omega), wrap_id (by omega) (by omega)]
    unfold pass
    by_cases c1 : W[i].f0 ≤ s.1 + 1
    · by_cases c2 : W[i].f1 > s.1
      · rw [if_pos c1, if_pos c2, if_pos ⟨c1, c2⟩]
      · rw [if_pos c1, if_neg c2, if_neg (fun h => c2 h.2)]
    · rw [if_neg c1, if_neg (fun h => c1 h.1)]
theorem ev_rest (a b : Int) (W : List Sn) (hl : W.length < 8796093022208) : ∀ (d i : Nat) (out : List Sn), W.length - i = d → i ≤ W.length → out.length ≤ i → Ev (fun k => intrusionref05_least.l3 k W out (i : Int) a b) (a, b, out ++ (W.drop i).filter (fun x => decide (b < x.f0))) := by
  intro d
  induction d with
  | zero =>
    intro i out hd hi ho
    have : i = W.length := by omega
    subst this
    refine Ev.step (f := fun _ => some (a, b, out)) (fun k => ?_) ?_
    · simp only [intrusionref05_least.l3]; rw [if_neg (by omega)]
    · simpa using Ev.now (a, b, out)
  | succ d ih =>
    intro i out hd hi ho
    have hlt : i < W.length := by omega
    rw [drop_cons W i hlt, List.filter_cons]
    by_cases hc : b < W[i].f0
    · rw [if_pos (by simpa using hc)]
      have h2 := ih (i + 1) (out ++ [W[i]]) (by omega) (by omega) (by simp; omega)
      rw [List.append_assoc] at h2
      refine Ev.step (fun k => ?_) h2
      simp only [intrusionref05_least.l3]
      rw [if_pos (by omega), if_pos (by omega), rd_at W i hlt, if_pos (by omega), if_pos (by omega), wrap_succ i (by omega)]
    · rw [if_neg (by simpa using hc)]
      refine Ev.step (fun k => ?_) (ih (i + 1) out (by omega) (by omega) (by omega))
      simp only [intrusionref05_least.l3]
      rw [if_pos (by omega), if_pos (by omega), rd_at W i hlt, if_neg (by omega), wrap_succ i (by omega)]
theorem count_lt {h h' : Int} (hlt : h < h') : ∀ (W : List Sn), (∃ x ∈ W, x.f1 = h') → (W.countP fun x => decide (h' < x.f1)) < (W.countP fun x => decide (h < x.f1))
  | [], hx => by simp at hx
  | y :: t, hx => by
    have hle : ∀ T : List Sn, (T.countP fun x => decide (h' < x.f1)) ≤ (T.countP fun x => decide (h < x.f1)) := fun T => List.countP_mono_left (fun x _ hp => by simp at hp ⊢; omega)
    rw [List.countP_cons, List.countP_cons]
    obtain ⟨x, hx, e⟩ := hx
    rcases List.mem_cons.1 hx with rfl | hx
    · have := hle t
      rw [if_neg (by simp; omega), if_pos (by simp; omega)]
      omega
    · have h1 := count_lt hlt t ⟨x, hx, e⟩
      by_cases c : h' < y.f1
      · rw [if_pos (by simpa using c), if_pos (by simp; omega)]
        omega
      · rw [if_neg (by simpa using c)]
        omega
theorem fix_spec (a : Int) (W : List Sn) (hl : W.length < 8796093022208) (hW : ∀ x ∈ W, WF x) : ∀ (c : Nat) (hi : Int), (W.countP fun x => decide (hi < x.f1)) = c → 0 ≤ hi → hi ≤ 4294967296 → (∀ n, a ≤ n → n ≤ hi → SM W n) →
    ∃ b, hi ≤ b ∧ b ≤ 4294967296 ∧ Ev (fun k => intrusionref05_least.l1 k W true a hi) (a, b, W.filter (fun x => decide (b < x.f0))) ∧ (∀ n, a ≤ n → n ≤ b → SM W n) ∧ ∀ x ∈ W, x.f0 ≤ b + 1 → x.f1 ≤ b := by
  intro c
  induction c using Nat.strongRecOn with
  | _ c ih =>
    intro hi hc h0 h1 hcov
    obtain ⟨p1, p2, p3, p4, p5, p6, p7⟩ := pass_spec a W hW W (hi, false) (fun _ h => h) h0 h1 hcov
    simp only at p1 p2 p3 p4 p5 p6 p7
    have hgo : ∀ {r : Int × Int × List Sn}, Ev (fun k => intrusionref05_least.l1 k W (W.foldl pass (hi, false)).2 a (W.foldl pass (hi, false)).1) r → Ev (fun k => intrusionref05_least.l1 k W true a hi) r := by
      intro r h
      have h2 := ev_pass a W hl hW W.length 0 (hi, false) (by omega) (by omega) h0 h1 (by simpa using h)
      refine Ev.step (fun k => ?_) h2
      simp only [intrusionref05_least.l1]
      rfl
    cases hb : (W.foldl pass (hi, false)).2 with
    | true =>
      have hlt : hi < (W.foldl pass (hi, false)).1 := by
        rcases p6 hb with h | h
        · simp at h
        · exact h
      have hex : ∃ x ∈ W, x.f1 = (W.foldl pass (hi, false)).1 := by
        rcases p5 with h | h
        · omega
        · exact h
      obtain ⟨b, b1, b2, b3, b4, b5⟩ := ih _ (by rw [← hc]; exact count_lt hlt W hex) (W.foldl pass (hi, false)).1 rfl (by omega) p2 p3
      refine ⟨b, by omega, b2, hgo ?_, b4, b5⟩
      rw [hb]
      exact b3
    | false =>
      obtain ⟨e1, e2⟩ := p4 hb
      refine ⟨hi, Int.le_refl _, h1, hgo ?_, hcov, fun x hx hle => ?_⟩
      · rw [hb, e1]
        have h3 := ev_rest a hi W hl W.length 0 [] (by omega) (by omega) (by simp)
        refine Ev.step (fun k => ?_) (by simpa using h3)
        simp only [intrusionref05_least.l1]
        rfl
      · have := e2 x hx
        omega
theorem least_spec (W : List Sn) (hl : W.length < 8796093022208) (hW : ∀ x ∈ W, WF x) (hne : 0 < W.length) :
    ∃ a b, (∃ x ∈ W, x.f0 = a) ∧ a ≤ b ∧ b ≤ 4294967296 ∧ Ev (fun k => intrusionref05_least.f k W) (a, b, W.filter (fun x => decide (b < x.f0))) ∧ (∀ n, a ≤ n → n ≤ b → SM W n) ∧ (∀ x ∈ W, a ≤ x.f0) ∧ ∀ x ∈ W, x.f0 ≤ b + 1 → x.f1 ≤ b := by
  obtain ⟨m1, m2, m3⟩ := min_spec W W W[0] (fun _ h => h) (List.getElem_mem hne)
  have wm := hW _ m1
  obtain ⟨b, b1, b2, b3, b4, b5⟩ := fix_spec (W.foldl minS W[0]).f0 W hl hW _ (W.foldl minS W[0]).f1 rfl (by have := wm.1; have := wm.2.1; omega) wm.2.2 (fun n n1 n2 => (sm_iff W n).2 ⟨_, m1, n1, n2⟩)
  refine ⟨(W.foldl minS W[0]).f0, b, ⟨_, m1, rfl⟩, by have := wm.2.1; omega, b2, ?_, b4, m3, b5⟩
  have h := ev_min W hl W.length 0 W[0] (by omega) (by omega) (by simpa using b3)
  refine Ev.congr (fun k => ?_) h
  unfold intrusionref05_least.f
  rw [if_pos (by omega), show rd_T33 W 0 = W[0] from rd_at W 0 hne]
  rfl
theorem rn_spec : ∀ (m : Nat) (W : List Sn), W.length = m → m < 8796093022208 → (∀ x ∈ W, WF x) →
    ∃ r : List Sn, (∀ out : List Sn, out.length + m < 8796093022208 → Ev (fun k => intrusionref05_Normal.l1 k W out) (out ++ r)) ∧ r.length ≤ m ∧ (∀ p, (∀ x ∈ W, p ≤ x.f0) → CanFrom p (r.map sp)) ∧ (∀ x ∈ r, x.f1 ≤ 4294967296) ∧ ∀ n, SM r n ↔ SM W n := by
  intro m
  induction m using Nat.strongRecOn with
  | _ m ih =>
    intro W hm hl hW
    by_cases hne : 0 < W.length
    · obtain ⟨a, b, ⟨x0, hx0, e0⟩, hab, hb, hev, hcov, hmin, hclo⟩ := least_spec W (by omega) hW hne
      have hlen : (W.filter (fun x => decide (b < x.f0))).length < W.length := by
        refine Nat.lt_of_le_of_ne (List.length_filter_le _ _) (fun e => ?_)
        have := List.length_filter_eq_length_iff.1 e x0 hx0
        simp at this
        omega
      obtain ⟨r, r1, r2, r3, r4, r5⟩ := ih _ (by omega) (W.filter (fun x => decide (b < x.f0))) rfl (by omega) (fun x hx => hW x ((List.mem_filter.1 hx).1))
      have hrest : ∀ x ∈ W.filter (fun x => decide (b < x.f0)), b + 2 ≤ x.f0 := by
        intro x hx
        obtain ⟨h1, h2⟩ := List.mem_filter.1 hx
        simp at h2
        have := (hW x h1).2.1
        have := hclo x h1
        omega
      refine ⟨(⟨a, b⟩ : Sn) :: r, fun out ho => ?_, by simp; omega, fun p hp => ⟨?_, hab, r3 (b + 2) hrest⟩, ?_, fun n => ?_⟩
      · have h2 := r1 (out ++ [(⟨a, b⟩ : Sn)]) (by simp; omega)
        rw [List.append_assoc] at h2
        refine Ev.step (f := fun k => (intrusionref05_least.f k W).bind fun bt => if out.length < 8796093022208 then intrusionref05_Normal.l1 k bt.2.2 (out ++ [(⟨bt.1, bt.2.1⟩ : Sn)]) else none) (fun k => ?_) (Ev.bind hev ?_)
        · simp only [intrusionref05_Normal.l1]
          rw [if_pos (by omega)]
        · refine Ev.congr (fun k => ?_) h2
          rw [if_pos (by omega)]
      · rw [← e0]; exact hp x0 hx0
      · intro x hx
        rcases List.mem_cons.1 hx with rfl | hx
        · exact hb
        · exact r4 x hx
      · rw [sm_cons, r5 n]
        constructor
        · rintro (h | h)
          · exact hcov n h.1 h.2
          · obtain ⟨x, hx, h⟩ := (sm_iff _ n).1 h
            exact (sm_iff _ n).2 ⟨x, (List.mem_filter.1 hx).1, h⟩
        · intro h
          obtain ⟨x, hx, h1, h2⟩ := (sm_iff _ n).1 h
          by_cases hc : x.f0 ≤ b + 1
          · exact .inl ⟨by have := hmin x hx; simp; omega, by have := hclo x hx hc; simp; omega⟩
          · exact .inr ((sm_iff _ n).2 ⟨x, List.mem_filter.2 ⟨hx, by simp; omega⟩, h1, h2⟩)
    · have h0 : W = [] := List.eq_nil_of_length_eq_zero (by omega)
      subst h0
      refine ⟨[], fun out ho => ?_, by simp, fun p hp => trivial, by simp, fun n => Iff.rfl⟩
      rw [List.append_nil]
      refine Ev.step (f := fun _ => some out) (fun k => ?_) (Ev.now _)
      simp only [intrusionref05_Normal.l1]
      rw [if_neg (by simp)]
theorem ev_rn0 {r : List Sn} (L : List Sn) (hl : L.length < 8796093022208) : ∀ (d i : Nat) (out : List Sn), L.length - i = d → i ≤ L.length → out.length ≤ i → Ev (fun k => intrusionref05_Normal.l1 k (out ++ clipped 0 4294967296 (L.drop i)) []) r → Ev (fun k => intrusionref05_Normal.l0 k L out (i : Int)) r := by
  intro d
  induction d with
  | zero =>
    intro i out hd hi ho h
    have : i = L.length := by omega
    subst this
    refine Ev.step (fun k => ?_) h
    simp only [intrusionref05_Normal.l0]
    rw [if_neg (by omega)]
    simp [clipped]
  | succ d ih =>
    intro i out hd hi ho h
    have hlt : i < L.length := by omega
    rw [drop_cons L i hlt] at h
    unfold clipped at h
    rw [List.map_cons, List.filter_cons] at h
    by_cases hc : (clip 0 4294967296 L[i]).f0 ≤ (clip 0 4294967296 L[i]).f1
    · rw [if_pos (by simpa using hc)] at h
      refine Ev.step (fun k => ?_) (ih (i + 1) (out ++ [clip 0 4294967296 L[i]]) (by omega) (by omega) (by simp; omega) (by rw [List.append_assoc]; exact h))
      simp only [intrusionref05_Normal.l0]
      rw [if_pos (by omega), if_pos (by omega), rd_at L i hlt]
      unfold intrusionref05_cut.f
      simp only [Option.bind_some]
      rw [if_pos (show decide (mx L[i].f0 0 ≤ mn L[i].f1 4294967296) = true from decide_eq_true hc), if_pos (by omega), wrap_succ i (by omega)]
      rfl
    · rw [if_neg (by simpa using hc)] at h
      refine Ev.step (fun k => ?_) (ih (i + 1) out (by omega) (by omega) (by omega) h)
      simp only [intrusionref05_Normal.l0]
      rw [if_pos (by omega), if_pos (by omega), rd_at L i hlt]
      unfold intrusionref05_cut.f
      simp only [Option.bind_some]
      rw [if_neg (show ¬ decide (mx L[i].f0 0 ≤ mn L[i].f1 4294967296) = true from fun h => hc (of_decide_eq_true h)), wrap_succ i (by omega)]
theorem rnormal_spec (l : List Sn) (hl : l.length < 8796093022208) : ∃ r, Ev (fun k => intrusionref05_Normal.f k l) r ∧ Can (fun n => SM l n ∧ 0 ≤ n ∧ n ≤ 4294967296) r ∧ r.length ≤ l.length := by
  obtain ⟨c1, c2, c3⟩ := clipped_spec l
  obtain ⟨r, r1, r2, r3, r4, r5⟩ := rn_spec _ (clipped 0 4294967296 l) rfl (by omega) c2
  refine ⟨r, ?_, ⟨r3 0 (fun x hx => (c2 x hx).1), r4, fun n => (r5 n).trans (c3 n)⟩, by omega⟩
  have h := ev_rn0 l hl l.length 0 [] (by omega) (by omega) (by simp) (by simpa using r1 [] (by simp; omega))
  exact Ev.congr (fun k => rfl) h
end Go.Proofs.YtbimdjciacnioaaDoor.Q
end

section
set_option linter.unusedVariables false
set_option linter.unusedSimpArgs false
namespace Go.Proofs.YtbimdjciacnioaaDoor.Q
open Go.RowKit Go.Proofs.YtbimdjciacnioaaDoorW.PrintWords Go.Proofs.YtbimdjciacnioaaDoorW.PrintLast Go.Proofs.YtbimdjciacnioaaDoorW.PrintMore
def inSpan (n : Int) (x : S33) : Bool := decide (x.f0 ≤ n) && decide (n ≤ x.f1)
def interval_Contains.f (l0 : List S33) (a1 : Int) : Option Bool := some (decide (0 ≤ a1) && (decide (a1 ≤ 4294967296) && l0.any (inSpan a1)))
end Go.Proofs.YtbimdjciacnioaaDoor.Q
end

section
namespace Go.Proofs.YtbimdjciacnioaaDoor.Q
open Go.RowKit Go.Proofs.YtbimdjciacnioaaDoorW.PrintWords Go.Proofs.YtbimdjciacnioaaDoorW.PrintLast Go.Proofs.YtbimdjciacnioaaDoorW.PrintMore
attribute [local go_sem] max2_int min2_int max_two min_two max_three min_three max_four min_four
set_option linter.unusedVariables false
set_option linter.unusedSimpArgs false
def interval_Valid.l0 : Nat → List (S33) → List (S33) → Int → Int → Option (Bool)
  | 0, _, _, _, _ => none
  | k + 1, x0, x5, x6, x7 => if x7 < x6 then (if 0 ≤ x7 then (if x7 < (x5.length : Int) then (if ((rd_T33 x5 x7).f0) < 0 then (some false) else (if ((rd_T33 x5 x7).f0) > ((rd_T33 x5 x7).f1) then (some false) else (if ((rd_T33 x5 x7).f1) > 4294967296 then (some false) else (if x7 > 0 then (if 0 ≤ (wrap64 (x7 - 1)) then (if (wrap64 (x7 - 1)) < (x0.length : Int) then (if (wrap64 (((rd_T33 x5 x7).f0) - 1)) ≤ ((rd_T33 x0 (wrap64 (x7 - 1))).f1) then (some false) else (interval_Valid.l0 k x0 x5 x6 (wrap64 (x7 + 1)))) else (none)) else (none)) else (interval_Valid.l0 k x0 x5 x6 (wrap64 (x7 + 1))))))) else (none)) else (none)) else (some true)
def interval_Valid.f (k : Nat) (l0 : List (S33)) : Option (Bool) := interval_Valid.l0 k l0 l0 (l0.length : Int) 0
theorem interval_Valid.mono_l : ∀ k, (∀ y0 y1 y2 y3, LeO (interval_Valid.l0 k y0 y1 y2 y3) (interval_Valid.l0 (k + 1) y0 y1 y2 y3))
  | 0 => fun _ _ _ _ r h => by simp [interval_Valid.l0] at h
  | k + 1 => by
    have ih0 := interval_Valid.mono_l k
    · intro y0 y1 y2 y3
      unfold interval_Valid.l0
      repeat' first
      | (with_reducible exact ih0 _ _ _ _)
      | (with_reducible exact LeO.refl _)
      | (with_reducible exact LeO.none _)
      | (with_reducible refine LeO.ite ?_ ?_)
      | (with_reducible refine LeO.bind ?_ (fun _ => ?_))
      | exact ih0 _ _ _ _
      | exact LeO.none _
      | refine LeO.ite ?_ ?_
      | refine LeO.bind ?_ (fun _ => ?_)
theorem interval_Valid.mono : ∀ a0 k, LeO (interval_Valid.f k a0) (interval_Valid.f (k + 1) a0) := by
  intro a0 k
  have ih0 := interval_Valid.mono_l k
  unfold interval_Valid.f
  repeat' first
      | (with_reducible exact ih0 _ _ _ _)
      | (with_reducible exact LeO.refl _)
      | (with_reducible exact LeO.none _)
      | (with_reducible refine LeO.ite ?_ ?_)
      | (with_reducible refine LeO.bind ?_ (fun _ => ?_))
      | exact ih0 _ _ _ _
      | exact LeO.none _
      | refine LeO.ite ?_ ?_
      | refine LeO.bind ?_ (fun _ => ?_)
end Go.Proofs.YtbimdjciacnioaaDoor.Q
end

section
namespace Go.Proofs.YtbimdjciacnioaaDoor.Q
open Go.RowKit Go.Proofs.YtbimdjciacnioaaDoorW.PrintWords Go.Proofs.YtbimdjciacnioaaDoorW.PrintLast Go.Proofs.YtbimdjciacnioaaDoorW.PrintMore
attribute [local go_sem] max2_int min2_int max_two min_two max_three min_three max_four min_four
set_option linter.unusedVariables false
set_option linter.unusedSimpArgs false
mutual
def intrusionref05_Complement.l0 : Nat → Int → Int → List (S33) → List (S33) → Int → Option ((List (S33)))
  | 0, _, _, _, _, _ => none
  | k + 1, x1, x2, x7, x8, x9 => if x9 < (x7.length : Int) then (intrusionref05_Complement.j1 k x1 x2 x7 x8 x9 (decide (x1 ≤ x2))) else (intrusionref05_Complement.j1 k x1 x2 x7 x8 x9 false)
def intrusionref05_Complement.j1 : Nat → Int → Int → List (S33) → List (S33) → Int → Bool → Option ((List (S33)))
  | 0, _, _, _, _, _, _ => none
  | k + 1, x1, x2, x7, x8, x9, x26 => if x26 = true then (if 0 ≤ x9 then (if x9 < (x7.length : Int) then (if x1 ≤ (mn x2 (wrap64 (((rd_T33 x7 x9).f0) - 1))) then (if x8.length < 8796093022208 then (intrusionref05_Complement.l0 k (mx x1 (wrap64 (((rd_T33 x7 x9).f1) + 1))) x2 x7 (x8 ++ [(⟨x1, mn x2 (wrap64 (((rd_T33 x7 x9).f0) - 1))⟩ : S33)]) (wrap64 (x9 + 1))) else (none)) else (intrusionref05_Complement.l0 k (mx x1 (wrap64 (((rd_T33 x7 x9).f1) + 1))) x2 x7 x8 (wrap64 (x9 + 1)))) else (none)) else (none)) else (if x1 ≤ x2 then (if x8.length < 8796093022208 then (some (x8 ++ [(⟨x1, x2⟩ : S33)])) else (none)) else (some x8))
end
def intrusionref05_Complement.f (k : Nat) (l0 : List (S33)) (a1 : Int) (a2 : Int) : Option ((List (S33))) := (intrusionref05_Normal.f k l0).bind fun t347 => (intrusionref05_Complement.l0 k (mx a1 0) (mn a2 4294967296) t347 (([] : List (S33))) 0)
theorem intrusionref05_Complement.mono_l : ∀ k, (∀ y0 y1 y2 y3 y4, LeO (intrusionref05_Complement.l0 k y0 y1 y2 y3 y4) (intrusionref05_Complement.l0 (k + 1) y0 y1 y2 y3 y4)) ∧ (∀ y0 y1 y2 y3 y4 y5, LeO (intrusionref05_Complement.j1 k y0 y1 y2 y3 y4 y5) (intrusionref05_Complement.j1 (k + 1) y0 y1 y2 y3 y4 y5))
  | 0 => ⟨fun _ _ _ _ _ r h => by simp [intrusionref05_Complement.l0] at h, fun _ _ _ _ _ _ r h => by simp [intrusionref05_Complement.j1] at h⟩
  | k + 1 => by
    obtain ⟨ih0, ih1⟩ := intrusionref05_Complement.mono_l k
    refine ⟨?_, ?_⟩
    · intro y0 y1 y2 y3 y4
      unfold intrusionref05_Complement.l0
      repeat' first
      | (with_reducible exact ih0 _ _ _ _ _)
      | (with_reducible exact ih1 _ _ _ _ _ _)
      | (with_reducible exact intrusionref05_Normal.mono _ _)
      | (with_reducible exact LeO.refl _)
      | (with_reducible exact LeO.none _)
      | (with_reducible refine LeO.ite ?_ ?_)
      | (with_reducible refine LeO.bind ?_ (fun _ => ?_))
      | exact ih0 _ _ _ _ _
      | exact ih1 _ _ _ _ _ _
      | exact intrusionref05_Normal.mono _ _
      | exact LeO.none _
      | refine LeO.ite ?_ ?_
      | refine LeO.bind ?_ (fun _ => ?_)
    · intro y0 y1 y2 y3 y4 y5
      unfold intrusionref05_Complement.j1
      repeat' first
      | (with_reducible exact ih0 _ _ _ _ _)
      | (with_reducible exact ih1 _ _ _ _ _ _)
      | (with_reducible exact intrusionref05_Normal.mono _ _)
      | (with_reducible exact LeO.refl _)
      | (with_reducible exact LeO.none _)
      | (with_reducible refine LeO.ite ?_ ?_)
      | (with_reducible refine LeO.bind ?_ (fun _ => ?_))
      | exact ih0 _ _ _ _ _
      | exact ih1 _ _ _ _ _ _
      | exact intrusionref05_Normal.mono _ _
      | exact LeO.none _
      | refine LeO.ite ?_ ?_
      | refine LeO.bind ?_ (fun _ => ?_)
theorem intrusionref05_Complement.mono : ∀ a0 a1 a2 k, LeO (intrusionref05_Complement.f k a0 a1 a2) (intrusionref05_Complement.f (k + 1) a0 a1 a2) := by
  intro a0 a1 a2 k
  obtain ⟨ih0, ih1⟩ := intrusionref05_Complement.mono_l k
  unfold intrusionref05_Complement.f
  repeat' first
      | (with_reducible exact ih0 _ _ _ _ _)
      | (with_reducible exact ih1 _ _ _ _ _ _)
      | (with_reducible exact intrusionref05_Normal.mono _ _)
      | (with_reducible exact LeO.refl _)
      | (with_reducible exact LeO.none _)
      | (with_reducible refine LeO.ite ?_ ?_)
      | (with_reducible refine LeO.bind ?_ (fun _ => ?_))
      | exact ih0 _ _ _ _ _
      | exact ih1 _ _ _ _ _ _
      | exact intrusionref05_Normal.mono _ _
      | exact LeO.none _
      | refine LeO.ite ?_ ?_
      | refine LeO.bind ?_ (fun _ => ?_)
end Go.Proofs.YtbimdjciacnioaaDoor.Q
end

section
namespace Go.Proofs.YtbimdjciacnioaaDoor.Q
open Go.RowKit Go.Proofs.YtbimdjciacnioaaDoorW.PrintWords Go.Proofs.YtbimdjciacnioaaDoorW.PrintLast Go.Proofs.YtbimdjciacnioaaDoorW.PrintMore
attribute [local go_sem] max2_int min2_int max_two min_two max_three min_three max_four min_four
set_option linter.unusedVariables false
set_option linter.unusedSimpArgs false
def interval_Subset.f (k : Nat) (l0 : List (S33)) (l1 : List (S33)) : Option (Bool) := (interval_Minus.f k l0 l1).bind fun t475 => (some ((t475.length : Int) == 0))
theorem interval_Subset.mono : ∀ a0 a1 k, LeO (interval_Subset.f k a0 a1) (interval_Subset.f (k + 1) a0 a1) := by
  intro a0 a1 k
  unfold interval_Subset.f
  repeat' first
      | (with_reducible exact interval_Minus.mono _ _ _)
      | (with_reducible exact LeO.refl _)
      | (with_reducible exact LeO.none _)
      | (with_reducible refine LeO.ite ?_ ?_)
      | (with_reducible refine LeO.bind ?_ (fun _ => ?_))
      | exact interval_Minus.mono _ _ _
      | exact LeO.none _
      | refine LeO.ite ?_ ?_
      | refine LeO.bind ?_ (fun _ => ?_)
end Go.Proofs.YtbimdjciacnioaaDoor.Q
end

section
set_option linter.unusedVariables false
set_option linter.unusedSimpArgs false
namespace Go.Proofs.YtbimdjciacnioaaDoor.Q
open Go.RowKit Go.Proofs.YtbimdjciacnioaaDoorW.PrintWords Go.Proofs.YtbimdjciacnioaaDoorW.PrintLast Go.Proofs.YtbimdjciacnioaaDoorW.PrintMore Go.Proofs.YtbimdjciacnioaaDoor.Canon
def total : List Sn → Int
  | [] => 0
  | x :: t => (x.f1 - x.f0 + 1) + total t
theorem total_le : ∀ (l : List Sn) (lo : Int), CanFrom lo (l.map sp) → (∀ x ∈ l, x.f1 ≤ 4294967296) → 0 ≤ total l ∧ (l = [] ∨ total l ≤ 4294967297 - lo)
  | [], _, _, _ => ⟨Int.le_refl _, .inl rfl⟩
  | x :: t, lo, c, h => by
    obtain ⟨c1, c2, c3⟩ := c
    have hx := h x (List.mem_cons_self ..)
    obtain ⟨i1, i2⟩ := total_le t _ c3 (fun z hz => h z (List.mem_cons_of_mem _ hz))
    simp only [sp] at c1 c2 i2
    refine ⟨by simp only [total]; omega, .inr ?_⟩
    rcases i2 with rfl | i2
    · simp only [total]; omega
    · simp only [total]; omega
theorem Can.total {P : Int → Prop} {r : List Sn} (h : Can P r) : 0 ≤ total r ∧ total r ≤ 4294967297 := by
  obtain ⟨h1, h2⟩ := total_le r 0 h.1 h.2.1
  rcases h2 with rfl | h2
  · exact ⟨h1, by simp [Q.total]⟩
  · exact ⟨h1, by omega⟩
end Go.Proofs.YtbimdjciacnioaaDoor.Q
end

section
set_option linter.unusedVariables false
set_option linter.unusedSimpArgs false
namespace Go.Proofs.YtbimdjciacnioaaDoor.Q
open Go.RowKit Go.Proofs.YtbimdjciacnioaaDoorW.PrintWords Go.Proofs.YtbimdjciacnioaaDoorW.PrintLast Go.Proofs.YtbimdjciacnioaaDoorW.PrintMore Go.Proofs.YtbimdjciacnioaaDoor.Canon
theorem sm_ge {l : List Sn} {lo n : Int} (c : CanFrom lo (l.map sp)) (h : SM l n) : lo ≤ n := c.ge h
theorem mx_spec (a b : Int) : a ≤ mx a b ∧ b ≤ mx a b ∧ (mx a b = a ∨ mx a b = b) := by unfold mx; split <;> omega
theorem mn_spec (a b : Int) : mn a b ≤ a ∧ mn a b ≤ b ∧ (mn a b = a ∨ mn a b = b) := by unfold mn; split <;> omega
theorem compl_fold (lo hi : Int) (hlo : 0 ≤ lo) (hhi : hi ≤ 4294967296) : ∀ (t : List Sn) (p nx : Int) (out : List Sn), CanFrom p (t.map sp) → 0 ≤ p → (∀ x ∈ t, x.f1 ≤ 4294967296) → lo ≤ nx → (nx = lo ∨ nx ≤ p) →
    ∃ r, (let s := t.foldl (complStep lo hi) (nx, out); addTo s.2 s.1 hi) = out ++ r ∧ CanFrom nx (r.map sp) ∧ (∀ x ∈ r, x.f1 ≤ 4294967296) ∧ r.length ≤ t.length + 1 ∧ ∀ n, SM r n ↔ nx ≤ n ∧ n ≤ hi ∧ ¬ SM t n
  | [], p, nx, out, _, _, _, _, _ => by
    by_cases h : nx ≤ hi
    · refine ⟨[(⟨nx, hi⟩ : Sn)], by simp [addTo, h], ⟨Int.le_refl _, h, trivial⟩, by simpa using hhi, by simp, fun n => ?_⟩
      rw [sm_cons, sm_nil]
      simp [sm_nil]
    · refine ⟨[], by simp [addTo, h], trivial, by simp, by simp, fun n => ?_⟩
      rw [sm_nil]
      constructor
      · exact False.elim
      · rintro ⟨h1, h2, _⟩; omega
  | x :: t, p, nx, out, c, hp, hm, hnx, hor => by
    obtain ⟨c1, c2, c3⟩ := c
    simp only [sp] at c1 c2 c3
    have hx := hm x (List.mem_cons_self ..)
    have ht := fun z hz => hm z (List.mem_cons_of_mem x hz)
    have hge : ∀ n, SM t n → x.f1 + 2 ≤ n := fun n h => sm_ge c3 h
    rw [List.foldl_cons]
    by_cases k1 : x.f1 < lo
    · have e : complStep lo hi (nx, out) x = (nx, out) := by unfold complStep; rw [if_pos k1]
      rw [e]
      obtain ⟨r, r1, r2, r3, r4, r5⟩ := compl_fold lo hi hlo hhi t (x.f1 + 2) nx out c3 (by omega) ht hnx (by
        rcases hor with h | h
        · exact .inl h
        · by_cases h2 : nx = lo
          · exact .inl h2
          · exact .inr (by omega))
      refine ⟨r, r1, r2, r3, by simp; omega, fun n => (r5 n).trans ?_⟩
      rw [sm_cons]
      constructor
      · rintro ⟨h1, h2, h3⟩
        exact ⟨h1, h2, fun h => h.elim (fun h => by omega) h3⟩
      · rintro ⟨h1, h2, h3⟩
        exact ⟨h1, h2, fun h => h3 (.inr h)⟩
    · by_cases k2 : x.f0 > hi
      · have e : complStep lo hi (nx, out) x = (nx, out) := by unfold complStep; rw [if_neg k1, if_pos k2]
        rw [e]
        obtain ⟨r, r1, r2, r3, r4, r5⟩ := compl_fold lo hi hlo hhi t (x.f1 + 2) nx out c3 (by omega) ht hnx (by
          rcases hor with h | h
          · exact .inl h
          · exact .inr (by omega))
        refine ⟨r, r1, r2, r3, by simp; omega, fun n => (r5 n).trans ?_⟩
        rw [sm_cons]
        constructor
        · rintro ⟨h1, h2, h3⟩
          exact ⟨h1, h2, fun h => h.elim (fun h => by omega) h3⟩
        · rintro ⟨h1, h2, h3⟩
          exact ⟨h1, h2, fun h => h3 (.inr h)⟩
      · have e : complStep lo hi (nx, out) x = (x.f1 + 1, addTo out nx (x.f0 - 1)) := by
          unfold complStep
          rw [if_neg k1, if_neg k2, wrap_id (by omega) (by omega), wrap_id (by omega) (by omega)]
        rw [e]
        obtain ⟨r, r1, r2, r3, r4, r5⟩ := compl_fold lo hi hlo hhi t (x.f1 + 2) (x.f1 + 1) (addTo out nx (x.f0 - 1)) c3 (by omega) ht (by omega) (.inr (by omega))
        have hnx2 : nx ≤ x.f1 + 1 := by rcases hor with h | h <;> omega
        by_cases k3 : nx ≤ x.f0 - 1
        · refine ⟨(⟨nx, x.f0 - 1⟩ : Sn) :: r, by rw [r1]; simp [addTo, k3], ⟨Int.le_refl _, k3, r2.mono (by simp [sp]; omega)⟩, ?_, by simp; omega, fun n => ?_⟩
          · intro z hz
            rcases List.mem_cons.1 hz with rfl | hz
            · show x.f0 - 1 ≤ 4294967296; omega
            · exact r3 z hz
          · rw [sm_cons, r5 n, sm_cons]
            constructor
            · rintro (⟨h1, h2⟩ | ⟨h1, h2, h3⟩)
              · have h2 : n ≤ x.f0 - 1 := h2
                refine ⟨h1, by omega, fun h => ?_⟩
                rcases h with h | h
                · omega
                · have := hge n h; omega
              · exact ⟨by omega, h2, fun h => h.elim (fun h => by omega) h3⟩
            · rintro ⟨h1, h2, h3⟩
              by_cases hn : n ≤ x.f0 - 1
              · exact .inl ⟨h1, hn⟩
              · refine .inr ⟨?_, h2, fun h => h3 (.inr h)⟩
                apply Classical.byContradiction
                intro hc
                exact h3 (.inl ⟨by omega, by omega⟩)
        · refine ⟨r, by rw [r1]; simp [addTo, k3], r2.mono hnx2, r3, by simp; omega, fun n => ?_⟩
          rw [r5 n, sm_cons]
          constructor
          · rintro ⟨h1, h2, h3⟩
            exact ⟨by omega, h2, fun h => h.elim (fun h => by omega) h3⟩
          · rintro ⟨h1, h2, h3⟩
            refine ⟨?_, h2, fun h => h3 (.inr h)⟩
            apply Classical.byContradiction
            intro hc
            exact h3 (.inl ⟨by omega, by omega⟩)
def ComplP (l : List Sn) (a1 a2 n : Int) : Prop := a1 ≤ n ∧ 0 ≤ n ∧ n ≤ a2 ∧ n ≤ 4294967296 ∧ ¬ SM l n
theorem compl_spec (l : List Sn) (a1 a2 : Int) (hl : l.length < 8796093022207) : ∃ r, Ev (fun k => interval_Complement.f k l a1 a2) r ∧ Can (ComplP l a1 a2) r ∧ r.length ≤ l.length + 1 := by
  obtain ⟨S, h1, h2, h3⟩ := normal_spec l (by omega)
  obtain ⟨m1, m2, m3⟩ := mx_spec a1 0
  obtain ⟨n1, n2, n3⟩ := mn_spec a2 4294967296
  obtain ⟨r, r1, r2, r3, r4, r5⟩ := compl_fold (mx a1 0) (mn a2 4294967296) m2 n2 S 0 (mx a1 0) [] h2.1 (Int.le_refl _) h2.2.1 (Int.le_refl _) (.inl rfl)
  refine ⟨r, ?_, ⟨r2.mono m2, r3, fun n => ?_⟩, by omega⟩
  · refine Ev.congr (fun k => rfl) (Ev.bind h1 (Ev.congr (fun k => ?_) (Ev.now r)))
    rw [if_pos (by omega)]
    exact congrArg some r1
  · rw [r5 n, h2.2.2 n]
    unfold ComplP
    constructor
    · rintro ⟨e1, e2, e3⟩
      exact ⟨by omega, by omega, by omega, by omega, fun h => e3 ⟨h, by omega, by omega⟩⟩
    · rintro ⟨e1, e2, e3, e4, e5⟩
      refine ⟨by omega, by omega, fun h => e5 h.1⟩
end Go.Proofs.YtbimdjciacnioaaDoor.Q
end

section
set_option linter.unusedVariables false
set_option linter.unusedSimpArgs false
namespace Go.Proofs.YtbimdjciacnioaaDoor.Q
open Go.RowKit Go.Proofs.YtbimdjciacnioaaDoorW.PrintWords Go.Proofs.YtbimdjciacnioaaDoorW.PrintLast Go.Proofs.YtbimdjciacnioaaDoorW.PrintMore Go.Proofs.YtbimdjciacnioaaDoor.Canon
def interP (x y : Sn) : List Sn := if mx x.f0 y.f0 ≤ mn x.f1 y.f1 then [(⟨mx x.f0 y.f0, mn x.f1 y.f1⟩ : Sn)] else []
theorem ev_inter (X Y : List Sn) (hX : X.length < 4000000000000) (hY : Y.length < 4000000000000) : ∀ (d i j : Nat) (p q : Int) (out : List Sn), X.length - i + (Y.length - j) = d → i ≤ X.length → j ≤ Y.length → out.length ≤ i + j → CanFrom p ((X.drop i).map sp) → CanFrom q ((Y.drop j).map sp) →
    ∃ r, Ev (fun k => interval_Intersect.l0 k X Y out (i : Int) (j : Int)) (out ++ r) ∧ CanFrom (max p q) (r.map sp) ∧ r.length ≤ d ∧ (∀ n, SM r n ↔ SM (X.drop i) n ∧ SM (Y.drop j) n) ∧ ∀ z ∈ r, ∃ x ∈ X.drop i, z.f1 ≤ x.f1 := by
  intro d
  induction d using Nat.strongRecOn with
  | _ d ih =>
    intro i j p q out hd hi hj ho cX cY
    by_cases hiX : i < X.length
    · by_cases hjY : j < Y.length
      · rw [drop_cons X i hiX, List.map_cons] at cX
        rw [drop_cons Y j hjY, List.map_cons] at cY
        obtain ⟨a1, a2, a3⟩ := cX
        obtain ⟨b1, b2, b3⟩ := cY
        simp only [sp] at a1 a2 a3 b1 b2 b3
        obtain ⟨m1, m2, m3⟩ := mx_spec X[i].f0 Y[j].f0
        obtain ⟨n1, n2, n3⟩ := mn_spec X[i].f1 Y[j].f1
        have gX : ∀ n, SM (X.drop (i + 1)) n → X[i].f1 + 2 ≤ n := fun n h => sm_ge a3 h
        have gY : ∀ n, SM (Y.drop (j + 1)) n → Y[j].f1 + 2 ≤ n := fun n h => sm_ge b3 h
        have hstep : ∀ k, interval_Intersect.l0 (k + 2) X Y out (i : Int) (j : Int) = if X[i].f1 < Y[j].f1 then interval_Intersect.l0 k X Y (out ++ interP X[i] Y[j]) ((i + 1 : Nat) : Int) (j : Int) else interval_Intersect.l0 k X Y (out ++ interP X[i] Y[j]) (i : Int) ((j + 1 : Nat) : Int) := by
          intro k
          simp only [interval_Intersect.l0, interval_Intersect.j1]
          rw [if_pos (by omega), if_pos (decide_eq_true (by omega)), if_pos (by omega), if_pos (by omega), if_pos (by omega), if_pos (by omega), rd_at X i hiX, rd_at Y j hjY, wrap_succ i (by omega), wrap_succ j (by omega)]
          unfold interP
          by_cases hc : mx X[i].f0 Y[j].f0 ≤ mn X[i].f1 Y[j].f1
          · rw [if_pos hc, if_pos hc, if_pos (by omega)]
            rfl
          · rw [if_neg hc, if_neg hc, List.append_nil]
        have ev2 : ∀ {g : Nat → Option (List Sn)} {r : List Sn}, (∀ k, interval_Intersect.l0 (k + 2) X Y out (i : Int) (j : Int) = g k) → Ev g r → Ev (fun k => interval_Intersect.l0 k X Y out (i : Int) (j : Int)) r := by
          intro g r hg h
          obtain ⟨K, h⟩ := h
          refine ⟨K + 2, fun k hk => ?_⟩
          obtain ⟨m, rfl⟩ : ∃ m, k = m + 2 := ⟨k - 2, by omega⟩
          show interval_Intersect.l0 (m + 2) X Y out (i : Int) (j : Int) = some r
          rw [hg m]
          exact h m (by omega)
        have hlen : (interP X[i] Y[j]).length ≤ 1 := by unfold interP; split <;> simp
        have hpm : ∀ n, SM (interP X[i] Y[j]) n ↔ (X[i].f0 ≤ n ∧ n ≤ X[i].f1) ∧ (Y[j].f0 ≤ n ∧ n ≤ Y[j].f1) := by
          intro n
          unfold interP
          split
          · rw [sm_cons, sm_nil, or_false]
            show mx X[i].f0 Y[j].f0 ≤ n ∧ n ≤ mn X[i].f1 Y[j].f1 ↔ _
            constructor
            · rintro ⟨h1, h2⟩; exact ⟨⟨by omega, by omega⟩, by omega, by omega⟩
            · rintro ⟨⟨h1, h2⟩, h3, h4⟩; exact ⟨by omega, by omega⟩
          · rw [sm_nil]
            constructor
            · exact False.elim
            · rintro ⟨⟨h1, h2⟩, h3, h4⟩; omega
        have hcan : ∀ (r : List Sn) (s : Int), CanFrom s (r.map sp) → max p q ≤ s → mn X[i].f1 Y[j].f1 + 2 ≤ s → CanFrom (max p q) ((interP X[i] Y[j] ++ r).map sp) := by
          intro r s hr h1 h2
          unfold interP
          split
          · rename_i hc
            exact ⟨by show max p q ≤ mx X[i].f0 Y[j].f0; omega, hc, hr.mono (by show mn X[i].f1 Y[j].f1 + 2 ≤ s; exact h2)⟩
          · exact hr.mono h1
        by_cases hlt : X[i].f1 < Y[j].f1
        · obtain ⟨r, r1, r2, r3, r4, r5⟩ := ih (d - 1) (by omega) (i + 1) j (X[i].f1 + 2) Y[j].f0 (out ++ interP X[i] Y[j]) (by omega) (by omega) hj (by rw [List.length_append]; omega) a3 (by rw [drop_cons Y j hjY, List.map_cons]; exact ⟨Int.le_refl _, b2, b3⟩)
          refine ⟨interP X[i] Y[j] ++ r, ev2 (g := fun k => interval_Intersect.l0 k X Y (out ++ interP X[i] Y[j]) ((i + 1 : Nat) : Int) (j : Int)) (fun k => by rw [hstep, if_pos hlt]) (by rw [← List.append_assoc]; exact r1), hcan r _ r2 (by omega) (by omega), by rw [List.length_append]; omega, fun n => ?_, ?_⟩
          · rw [sm_append, hpm, r4 n, drop_cons X i hiX, drop_cons Y j hjY, sm_cons, sm_cons]
            constructor
            · rintro (⟨h1, h2⟩ | ⟨h1, h2⟩)
              · exact ⟨.inl h1, .inl h2⟩
              · exact ⟨.inr h1, h2⟩
            · rintro ⟨h1 | h1, h2⟩
              · rcases h2 with h2 | h2
                · exact .inl ⟨h1, h2⟩
                · have := gY n h2; omega
              · exact .inr ⟨h1, h2⟩
          · intro z hz
            rw [drop_cons X i hiX]
            rcases List.mem_append.1 hz with hz | hz
            · unfold interP at hz
              split at hz
              · rw [List.mem_singleton.1 hz]; exact ⟨X[i], List.mem_cons_self .., by show mn X[i].f1 Y[j].f1 ≤ _; omega⟩
              · simp at hz
            · obtain ⟨x, hx, h⟩ := r5 z hz
              exact ⟨x, List.mem_cons_of_mem _ hx, h⟩
        · obtain ⟨r, r1, r2, r3, r4, r5⟩ := ih (d - 1) (by omega) i (j + 1) X[i].f0 (Y[j].f1 + 2) (out ++ interP X[i] Y[j]) (by omega) hi (by omega) (by rw [List.length_append]; omega) (by rw [drop_cons X i hiX, List.map_cons]; exact ⟨Int.le_refl _, a2, a3⟩) b3
          refine ⟨interP X[i] Y[j] ++ r, ev2 (g := fun k => interval_Intersect.l0 k X Y (out ++ interP X[i] Y[j]) (i : Int) ((j + 1 : Nat) : Int)) (fun k => by rw [hstep, if_neg hlt]) (by rw [← List.append_assoc]; exact r1), hcan r _ r2 (by omega) (by omega), by rw [List.length_append]; omega, fun n => ?_, ?_⟩
          · rw [sm_append, hpm, r4 n, drop_cons X i hiX, drop_cons Y j hjY, sm_cons, sm_cons]
            constructor
            · rintro (⟨h1, h2⟩ | ⟨h1, h2⟩)
              · exact ⟨.inl h1, .inl h2⟩
              · exact ⟨h1, .inr h2⟩
            · rintro ⟨h1, h2 | h2⟩
              · rcases h1 with h1 | h1
                · exact .inl ⟨h1, h2⟩
                · have := gX n h1; omega
              · exact .inr ⟨h1, h2⟩
          · intro z hz
            rw [drop_cons X i hiX]
            rcases List.mem_append.1 hz with hz | hz
            · unfold interP at hz
              split at hz
              · rw [List.mem_singleton.1 hz]; exact ⟨X[i], List.mem_cons_self .., by show mn X[i].f1 Y[j].f1 ≤ _; omega⟩
              · simp at hz
            · obtain ⟨x, hx, h⟩ := r5 z hz
              rw [drop_cons X i hiX] at hx
              exact ⟨x, hx, h⟩
      · have : j = Y.length := by omega
        subst this
        refine ⟨[], ⟨2, fun k hk => ?_⟩, trivial, by simp, fun n => ?_, by simp⟩
        · obtain ⟨m, rfl⟩ : ∃ m, k = m + 2 := ⟨k - 2, by omega⟩
          show interval_Intersect.l0 (m + 2) X Y out (i : Int) (Y.length : Int) = _
          simp only [interval_Intersect.l0, interval_Intersect.j1]
          rw [if_pos (by omega), if_neg (by simp), List.append_nil]
        · rw [List.drop_eq_nil_of_le (Nat.le_refl Y.length)]
          simp [sm_nil]
    · have : i = X.length := by omega
      subst this
      refine ⟨[], ⟨2, fun k hk => ?_⟩, trivial, by simp, fun n => ?_, by simp⟩
      · obtain ⟨m, rfl⟩ : ∃ m, k = m + 2 := ⟨k - 2, by omega⟩
        show interval_Intersect.l0 (m + 2) X Y out (X.length : Int) (j : Int) = _
        simp only [interval_Intersect.l0, interval_Intersect.j1]
        rw [if_neg (by omega), if_neg (by simp), List.append_nil]
      · rw [List.drop_eq_nil_of_le (Nat.le_refl X.length)]
        simp [sm_nil]
def InterP (a b : List Sn) (n : Int) : Prop := SM a n ∧ SM b n ∧ 0 ≤ n ∧ n ≤ 4294967296
theorem inter_spec (a b : List Sn) (ha : a.length < 4000000000000) (hb : b.length < 4000000000000) : ∃ r, Ev (fun k => interval_Intersect.f k a b) r ∧ Can (InterP a b) r ∧ r.length ≤ a.length + b.length := by
  obtain ⟨X, x1, x2, x3⟩ := normal_spec a (by omega)
  obtain ⟨Y, y1, y2, y3⟩ := normal_spec b (by omega)
  obtain ⟨r, r1, r2, r3, r4, r5⟩ := ev_inter X Y (by omega) (by omega) _ 0 0 0 0 [] rfl (by omega) (by omega) (by simp) x2.1 y2.1
  refine ⟨r, Ev.congr (fun k => rfl) (Ev.bind x1 (Ev.bind y1 (by simpa using r1))), ⟨r2, fun z hz => ?_, fun n => ?_⟩, by omega⟩
  · obtain ⟨x, hx, h⟩ := r5 z hz
    have := x2.2.1 x hx
    omega
  · rw [r4 n, List.drop_zero, List.drop_zero, x2.2.2 n, y2.2.2 n]
    unfold InterP
    constructor
    · rintro ⟨⟨h1, h2, h3⟩, h4, _, _⟩; exact ⟨h1, h4, h2, h3⟩
    · rintro ⟨h1, h2, h3, h4⟩; exact ⟨⟨h1, h3, h4⟩, h2, h3, h4⟩
theorem ev_rinter1 (X Y : List Sn) (hX : X.length < 1000000) (hY : Y.length < 1000000) {r : List Sn} (i : Nat) (hi : i < X.length) : ∀ (d j : Nat) (out : List Sn), Y.length - j = d → j ≤ Y.length → out.length ≤ i * Y.length + j →
    Ev (fun k => intrusionref05_Intersect.l0 k X Y (out ++ (Y.drop j).flatMap (interP X[i])) ((i + 1 : Nat) : Int)) r → Ev (fun k => intrusionref05_Intersect.l1 k X Y out (i : Int) (j : Int)) r := by
  intro d
  induction d with
  | zero =>
    intro j out hd hj ho h
    have : j = Y.length := by omega
    subst this
    refine Ev.step (fun k => ?_) h
    simp only [intrusionref05_Intersect.l1]
    rw [if_neg (by omega), wrap_succ i (by omega)]
    simp
  | succ d ih =>
    intro j out hd hj ho h
    have hlt : j < Y.length := by omega
    have hb : i * Y.length + Y.length ≤ 1000000 * 1000000 := by
      have h1 : i * Y.length ≤ 999999 * 1000000 := Nat.mul_le_mul (by omega) (by omega)
      omega
    rw [drop_cons Y j hlt, List.flatMap_cons, ← List.append_assoc] at h
    have hlen : (interP X[i] Y[j]).length ≤ 1 := by unfold interP; split <;> simp
    have h2 := ih (j + 1) (out ++ interP X[i] Y[j]) (by omega) (by omega) (by rw [List.length_append]; omega) h
    refine Ev.step (fun k => ?_) h2
    simp only [intrusionref05_Intersect.l1]
    rw [if_pos (by omega), if_pos (by omega), if_pos (by omega), if_pos (by omega), rd_at X i hi, rd_at Y j hlt]
    unfold intrusionref05_cut.f interP
    simp only [Option.bind_some]
    by_cases hc : mx X[i].f0 Y[j].f0 ≤ mn X[i].f1 Y[j].f1
    · rw [if_pos (decide_eq_true hc), if_pos (by omega), if_pos hc, wrap_succ j (by omega)]
    · rw [if_neg (fun h => hc (of_decide_eq_true h)), if_neg hc, wrap_succ j (by omega), List.append_nil]
theorem ev_rinter (X Y : List Sn) (hX : X.length < 1000000) (hY : Y.length < 1000000) {r : List Sn} : ∀ (d i : Nat) (out : List Sn), X.length - i = d → i ≤ X.length → out.length ≤ i * Y.length →
    Ev (fun k => intrusionref05_Normal.f k (out ++ (X.drop i).flatMap (fun x => Y.flatMap (interP x)))) r → Ev (fun k => intrusionref05_Intersect.l0 k X Y out (i : Int)) r := by
  intro d
  induction d with
  | zero =>
    intro i out hd hi ho h
    have : i = X.length := by omega
    subst this
    rw [List.drop_eq_nil_of_le (Nat.le_refl _), List.flatMap_nil, List.append_nil] at h
    refine Ev.step (f := fun k => (intrusionref05_Normal.f k out).bind fun t => some t) (fun k => ?_) (Ev.bind h (Ev.now _))
    simp only [intrusionref05_Intersect.l0]
    rw [if_neg (by omega)]
  | succ d ih =>
    intro i out hd hi ho h
    have hlt : i < X.length := by omega
    rw [drop_cons X i hlt, List.flatMap_cons, ← List.append_assoc] at h
    have hfl : ∀ (T : List Sn) (x : Sn), (T.flatMap (interP x)).length ≤ T.length := by
      intro T x
      induction T with
      | nil => simp
      | cons y t ih2 =>
        rw [List.flatMap_cons, List.length_append, List.length_cons]
        have : (interP x y).length ≤ 1 := by unfold interP; split <;> simp
        omega
    have h2 := ih (i + 1) (out ++ Y.flatMap (interP X[i])) (by omega) (by omega) (by rw [List.length_append, Nat.succ_mul]; have := hfl Y X[i]; omega) h
    have h3 := ev_rinter1 X Y hX hY i hlt Y.length 0 out (by omega) (by omega) (by omega) (by simpa using h2)
    refine Ev.step (fun k => ?_) h3
    simp only [intrusionref05_Intersect.l0]
    rw [if_pos (by omega)]
    rfl
theorem rinter_spec (a b : List Sn) (ha : a.length < 1000) (hb : b.length < 1000) : ∃ r, Ev (fun k => intrusionref05_Intersect.f k a b) r ∧ Can (InterP a b) r := by
  obtain ⟨X, x1, x2, x3⟩ := rnormal_spec a (by omega)
  obtain ⟨Y, y1, y2, y3⟩ := rnormal_spec b (by omega)
  have hlen : (X.flatMap (fun x => Y.flatMap (interP x))).length < 8796093022208 := by
    have h1 : ∀ (T : List Sn) (x : Sn), (T.flatMap (interP x)).length ≤ T.length := by
      intro T x
      induction T with
      | nil => simp
      | cons y t ih2 =>
        rw [List.flatMap_cons, List.length_append, List.length_cons]
        have : (interP x y).length ≤ 1 := by unfold interP; split <;> simp
        omega
    have h2 : ∀ T : List Sn, (T.flatMap (fun x => Y.flatMap (interP x))).length ≤ T.length * Y.length := by
      intro T
      induction T with
      | nil => simp
      | cons y t ih2 =>
        rw [List.flatMap_cons, List.length_append, List.length_cons, Nat.succ_mul]
        have := h1 Y y
        omega
    have h3 := h2 X
    have h4 : X.length * Y.length ≤ 1000 * 1000 := Nat.mul_le_mul (by omega) (by omega)
    omega
  obtain ⟨r, r1, r2, r3⟩ := rnormal_spec (X.flatMap (fun x => Y.flatMap (interP x))) hlen
  refine ⟨r, Ev.congr (fun k => rfl) (Ev.bind x1 (Ev.bind y1 (ev_rinter X Y (by omega) (by omega) X.length 0 [] (by omega) (by omega) (by simp) (by simpa using r1)))), r2.congr (fun n => ?_)⟩
  have hm : SM (X.flatMap (fun x => Y.flatMap (interP x))) n ↔ SM X n ∧ SM Y n := by
    rw [sm_iff, sm_iff, sm_iff]
    constructor
    · rintro ⟨z, hz, h1, h2⟩
      obtain ⟨x, hx, hz⟩ := List.mem_flatMap.1 hz
      obtain ⟨y, hy, hz⟩ := List.mem_flatMap.1 hz
      unfold interP at hz
      split at hz
      · have := List.mem_singleton.1 hz
        subst this
        have h1 : mx x.f0 y.f0 ≤ n := h1
        have h2 : n ≤ mn x.f1 y.f1 := h2
        obtain ⟨m1, m2, _⟩ := mx_spec x.f0 y.f0
        obtain ⟨n1, n2, _⟩ := mn_spec x.f1 y.f1
        exact ⟨⟨x, hx, by omega, by omega⟩, y, hy, by omega, by omega⟩
      · simp at hz
    · rintro ⟨⟨x, hx, h1, h2⟩, y, hy, h3, h4⟩
      obtain ⟨m1, m2, m3⟩ := mx_spec x.f0 y.f0
      obtain ⟨n1, n2, n3⟩ := mn_spec x.f1 y.f1
      have hc : mx x.f0 y.f0 ≤ mn x.f1 y.f1 := by omega
      refine ⟨⟨mx x.f0 y.f0, mn x.f1 y.f1⟩, List.mem_flatMap.2 ⟨x, hx, List.mem_flatMap.2 ⟨y, hy, ?_⟩⟩, show mx x.f0 y.f0 ≤ n from by omega, show n ≤ mn x.f1 y.f1 from by omega⟩
      unfold interP
      rw [if_pos hc]
      exact List.mem_singleton.2 rfl
  rw [hm, x2.2.2 n, y2.2.2 n]
  unfold InterP
  constructor
  · rintro ⟨⟨⟨h1, h2, h3⟩, h4, _, _⟩, _⟩; exact ⟨h1, h4, h2, h3⟩
  · rintro ⟨h1, h2, h3, h4⟩; exact ⟨⟨⟨h1, h3, h4⟩, h2, h3, h4⟩, h3, h4⟩
end Go.Proofs.YtbimdjciacnioaaDoor.Q
end

section
namespace Go.Proofs.YtbimdjciacnioaaDoor.Q
open Go.RowKit Go.Proofs.YtbimdjciacnioaaDoorW.PrintWords Go.Proofs.YtbimdjciacnioaaDoorW.PrintLast Go.Proofs.YtbimdjciacnioaaDoorW.PrintMore
attribute [local go_sem] max2_int min2_int max_two min_two max_three min_three max_four min_four
set_option linter.unusedVariables false
set_option linter.unusedSimpArgs false
def intrusionref05_Minus.f (k : Nat) (l0 : List (S33)) (l1 : List (S33)) : Option ((List (S33))) := (intrusionref05_Complement.f k l1 0 4294967296).bind fun t363 => ((intrusionref05_Intersect.f k l0 t363).bind fun t366 => (some t366))
theorem intrusionref05_Minus.mono : ∀ a0 a1 k, LeO (intrusionref05_Minus.f k a0 a1) (intrusionref05_Minus.f (k + 1) a0 a1) := by
  intro a0 a1 k
  unfold intrusionref05_Minus.f
  repeat' first
      | (with_reducible exact intrusionref05_Complement.mono _ _ _ _)
      | (with_reducible exact intrusionref05_Intersect.mono _ _ _)
      | (with_reducible exact LeO.refl _)
      | (with_reducible exact LeO.none _)
      | (with_reducible refine LeO.ite ?_ ?_)
      | (with_reducible refine LeO.bind ?_ (fun _ => ?_))
      | exact intrusionref05_Complement.mono _ _ _ _
      | exact intrusionref05_Intersect.mono _ _ _
      | exact LeO.none _
      | refine LeO.ite ?_ ?_
      | refine LeO.bind ?_ (fun _ => ?_)
end Go.Proofs.YtbimdjciacnioaaDoor.Q
end

section
set_option linter.unusedVariables false
set_option linter.unusedSimpArgs false
namespace Go.Proofs.YtbimdjciacnioaaDoor.Q
open Go.RowKit Go.Proofs.YtbimdjciacnioaaDoorW.PrintWords Go.Proofs.YtbimdjciacnioaaDoorW.PrintLast Go.Proofs.YtbimdjciacnioaaDoorW.PrintMore Go.Proofs.YtbimdjciacnioaaDoor.Canon
def MinusP (a b : List Sn) (n : Int) : Prop := SM a n ∧ ¬ SM b n ∧ 0 ≤ n ∧ n ≤ 4294967296
theorem minus_spec (a b : List Sn) (ha : a.length < 2000000000000) (hb : b.length < 2000000000000) : ∃ r, Ev (fun k => interval_Minus.f k a b) r ∧ Can (MinusP a b) r ∧ r.length ≤ a.length + b.length + 1 := by
  obtain ⟨c, c1, c2, c3⟩ := compl_spec b 0 4294967296 (by omega)
  obtain ⟨r, r1, r2, r3⟩ := inter_spec a c (by omega) (by omega)
  refine ⟨r, Ev.congr (fun k => rfl) (Ev.bind c1 (Ev.bind r1 (Ev.now _))), r2.congr (fun n => ?_), by omega⟩
  unfold InterP MinusP
  rw [c2.2.2 n]
  unfold ComplP
  constructor
  · rintro ⟨h1, ⟨_, _, _, _, h2⟩, h3, h4⟩; exact ⟨h1, h2, h3, h4⟩
  · rintro ⟨h1, h2, h3, h4⟩; exact ⟨h1, ⟨h3, h3, h4, h4, h2⟩, h3, h4⟩
open Classical in
noncomputable def card (P : Int → Prop) (m : Nat) : Nat := (List.range m).countP (fun i : Nat => decide (P (i : Int)))
open Classical in
theorem card_succ (P : Int → Prop) (m : Nat) : card P (m + 1) = card P m + if P (m : Int) then 1 else 0 := by
  unfold card
  rw [List.range_succ, List.countP_append, List.countP_cons, List.countP_nil]
  by_cases h : P (m : Int) <;> simp [h]
theorem card_congr {P Q : Int → Prop} (h : ∀ n, P n ↔ Q n) (m : Nat) : card P m = card Q m := by
  have : P = Q := funext fun n => propext (h n)
  rw [this]
open Classical in
theorem card_add (P Q : Int → Prop) : ∀ m, card (fun n => P n ∨ Q n) m + card (fun n => P n ∧ Q n) m = card P m + card Q m
  | 0 => rfl
  | m + 1 => by
    have ih := card_add P Q m
    simp only [card_succ]
    by_cases h1 : P (m : Int) <;> by_cases h2 : Q (m : Int) <;> simp [h1, h2] <;> omega
open Classical in
theorem card_false : ∀ m, card (fun _ => False) m = 0
  | 0 => rfl
  | m + 1 => by rw [card_succ, card_false m]; simp
open Classical in
theorem card_span (a b : Int) (h0 : 0 ≤ a) (h : a ≤ b + 1) : ∀ m : Nat, (card (fun n => a ≤ n ∧ n ≤ b) m : Int) = if (m : Int) ≤ a then 0 else if (m : Int) ≤ b + 1 then m - a else b - a + 1
  | 0 => by rw [if_pos (by omega)]; rfl
  | m + 1 => by
    have ih := card_span a b h0 h m
    rw [card_succ]
    by_cases c : a ≤ (m : Int) ∧ (m : Int) ≤ b
    · rw [if_pos c]
      split at ih <;> split <;> (try split) <;> (try split at ih) <;> omega
    · rw [if_neg c]
      split at ih <;> split <;> (try split) <;> (try split at ih) <;> omega
theorem card_total : ∀ (l : List Sn) (lo : Int), 0 ≤ lo → CanFrom lo (l.map sp) → (∀ x ∈ l, x.f1 ≤ 4294967296) → ∀ m : Nat, 4294967297 ≤ m → (card (SM l) m : Int) = total l
  | [], lo, _, _, _, m, _ => by rw [card_congr (Q := fun _ => False) (fun n => sm_nil n), card_false]; rfl
  | x :: t, lo, h0, c, h, m, hm => by
    obtain ⟨c1, c2, c3⟩ := c
    simp only [sp] at c1 c2 c3
    have hx := h x (List.mem_cons_self ..)
    have ih := card_total t (x.f1 + 2) (by omega) c3 (fun z hz => h z (List.mem_cons_of_mem _ hz)) m hm
    have ha := card_add (fun n => x.f0 ≤ n ∧ n ≤ x.f1) (SM t) m
    rw [card_congr (P := fun n => (x.f0 ≤ n ∧ n ≤ x.f1) ∧ SM t n) (Q := fun _ => False) (fun n => ⟨fun hh => by have := sm_ge c3 hh.2; omega, False.elim⟩), card_false] at ha
    rw [card_congr (fun n => sm_cons x t n)]
    have hs := card_span x.f0 x.f1 (by omega) (by omega) m
    rw [if_neg (by omega)] at hs
    have hs2 : (card (fun n => x.f0 ≤ n ∧ n ≤ x.f1) m : Int) = x.f1 - x.f0 + 1 := by
      split at hs <;> omega
    simp only [total]
    omega
theorem Can.card {P : Int → Prop} {r : List Sn} (h : Can P r) : (Q.card P 4294967297 : Int) = Q.total r := by
  rw [← card_total r 0 (Int.le_refl _) h.1 h.2.1 4294967297 (Nat.le_refl _)]
  rw [card_congr h.2.2]
end Go.Proofs.YtbimdjciacnioaaDoor.Q
end

section
namespace Go.Proofs.YtbimdjciacnioaaDoor.Q
open Go.RowKit Go.Proofs.YtbimdjciacnioaaDoorW.PrintWords Go.Proofs.YtbimdjciacnioaaDoorW.PrintLast Go.Proofs.YtbimdjciacnioaaDoorW.PrintMore
attribute [local go_sem] max2_int min2_int max_two min_two max_three min_three max_four min_four
set_option linter.unusedVariables false
set_option linter.unusedSimpArgs false
def intrusionref08_Eval.f (k : Nat) (l0 : List (S33)) (l1 : List (S33)) : Option ((List (S33))) := if (l0.length : Int) = 0 then ((intrusionref08_All.f).bind fun t369 => ((intrusionref08_ports.f k t369).bind fun t372 => ((intrusionref05_Minus.f k t372 l1).bind fun t375 => (some t375)))) else ((intrusionref08_ports.f k l0).bind fun t378 => ((intrusionref05_Minus.f k t378 l1).bind fun t381 => (some t381)))
theorem intrusionref08_Eval.mono : ∀ a0 a1 k, LeO (intrusionref08_Eval.f k a0 a1) (intrusionref08_Eval.f (k + 1) a0 a1) := by
  intro a0 a1 k
  unfold intrusionref08_Eval.f
  repeat' first
      | (with_reducible exact intrusionref05_Minus.mono _ _ _)
      | (with_reducible exact intrusionref08_ports.mono _ _)
      | (with_reducible exact LeO.refl _)
      | (with_reducible exact LeO.none _)
      | (with_reducible refine LeO.ite ?_ ?_)
      | (with_reducible refine LeO.bind ?_ (fun _ => ?_))
      | exact intrusionref05_Minus.mono _ _ _
      | exact intrusionref08_ports.mono _ _
      | exact LeO.none _
      | refine LeO.ite ?_ ?_
      | refine LeO.bind ?_ (fun _ => ?_)
end Go.Proofs.YtbimdjciacnioaaDoor.Q
end

section
namespace Go.Proofs.YtbimdjciacnioaaDoor.Q
open Go.RowKit Go.Proofs.YtbimdjciacnioaaDoorW.PrintWords Go.Proofs.YtbimdjciacnioaaDoorW.PrintLast Go.Proofs.YtbimdjciacnioaaDoorW.PrintMore
attribute [local go_sem] max2_int min2_int max_two min_two max_three min_three max_four min_four
set_option linter.unusedVariables false
set_option linter.unusedSimpArgs false
mutual
def intrusionref08_Parse.l0 : Nat → List ByteArray → List (S33) → List (S33) → Int → Option ((List (S33)) × Int)
  | 0, _, _, _, _ => none
  | k + 1, x4, x5, x6, x7 => if x7 < (x4.length : Int) then (if 0 ≤ x7 then (if (rdOf ByteArray.empty x4 x7).toList = ([] : List UInt8) then (intrusionref08_Parse.j1 k x4 x5 x6 x7 (rdOf ByteArray.empty x4 x7) false) else (if 0 < ((rdOf ByteArray.empty x4 x7).size : Int) then (intrusionref08_Parse.j1 k x4 x5 x6 x7 (rdOf ByteArray.empty x4 x7) ((bt (rdOf ByteArray.empty x4 x7) 0) == 33)) else (none))) else (none)) else ((intrusionref08_Eval.f k x5 x6).bind fun t418 => (some (t418, 0)))
def intrusionref08_Parse.j1 : Nat → List ByteArray → List (S33) → List (S33) → Int → ByteArray → Bool → Option ((List (S33)) × Int)
  | 0, _, _, _, _, _, _ => none
  | k + 1, x4, x5, x6, x7, x8, x9 => if x9 = true then (if 1 ≤ (x8.size : Int) then (intrusionref08_Parse.j2 k x4 x5 x6 x7 (x8.extract 1 x8.size) x9) else (none)) else (intrusionref08_Parse.j2 k x4 x5 x6 x7 x8 x9)
def intrusionref08_Parse.j2 : Nat → List ByteArray → List (S33) → List (S33) → Int → ByteArray → Bool → Option ((List (S33)) × Int)
  | 0, _, _, _, _, _, _ => none
  | k + 1, x4, x5, x6, x7, x8, x9 => (intrusionref08_item.f k x8).bind fun bt422 => (if bt422.2.2 = 0 then (if x9 = true then (if x6.length < 8796093022208 then (intrusionref08_Parse.l0 k x4 x5 (x6 ++ [(⟨bt422.1, bt422.2.1⟩ : S33)]) (wrap64 (x7 + 1))) else (none)) else (if x5.length < 8796093022208 then (intrusionref08_Parse.l0 k x4 (x5 ++ [(⟨bt422.1, bt422.2.1⟩ : S33)]) x6 (wrap64 (x7 + 1))) else (none))) else (some (([] : List (S33)), bt422.2.2)))
end
def intrusionref08_Parse.f (k : Nat) (a0 : ByteArray) : Option ((List (S33)) × Int) := if (a0.size : Int) > 1024 then (some (([] : List (S33)), 3)) else (if a0.toList = ([97, 110, 121] : List UInt8) then ((intrusionref08_All.f).bind fun t406 => (some (t406, 0))) else ((intrusionref08_split.f k a0 44).bind fun t409 => (if (t409.length : Int) > 64 then (some (([] : List (S33)), 3)) else (intrusionref08_Parse.l0 k t409 (([] : List (S33))) (([] : List (S33))) 0))))
theorem intrusionref08_Parse.mono_l : ∀ k, (∀ y0 y1 y2 y3, LeO (intrusionref08_Parse.l0 k y0 y1 y2 y3) (intrusionref08_Parse.l0 (k + 1) y0 y1 y2 y3)) ∧ (∀ y0 y1 y2 y3 y4 y5, LeO (intrusionref08_Parse.j1 k y0 y1 y2 y3 y4 y5) (intrusionref08_Parse.j1 (k + 1) y0 y1 y2 y3 y4 y5)) ∧ (∀ y0 y1 y2 y3 y4 y5, LeO (intrusionref08_Parse.j2 k y0 y1 y2 y3 y4 y5) (intrusionref08_Parse.j2 (k + 1) y0 y1 y2 y3 y4 y5))
  | 0 => ⟨fun _ _ _ _ r h => by simp [intrusionref08_Parse.l0] at h, fun _ _ _ _ _ _ r h => by simp [intrusionref08_Parse.j1] at h, fun _ _ _ _ _ _ r h => by simp [intrusionref08_Parse.j2] at h⟩
  | k + 1 => by
    obtain ⟨ih0, ih1, ih2⟩ := intrusionref08_Parse.mono_l k
    refine ⟨?_, ?_, ?_⟩
    · intro y0 y1 y2 y3
      unfold intrusionref08_Parse.l0
      repeat' first
      | (with_reducible exact ih0 _ _ _ _)
      | (with_reducible exact ih1 _ _ _ _ _ _)
      | (with_reducible exact ih2 _ _ _ _ _ _)
      | (with_reducible exact intrusionref08_Eval.mono _ _ _)
      | (with_reducible exact intrusionref08_item.mono _ _)
      | (with_reducible exact intrusionref08_split.mono _ _ _)
      | (with_reducible exact LeO.refl _)
      | (with_reducible exact LeO.none _)
      | (with_reducible refine LeO.ite ?_ ?_)
      | (with_reducible refine LeO.bind ?_ (fun _ => ?_))
      | exact ih0 _ _ _ _
      | exact ih1 _ _ _ _ _ _
      | exact ih2 _ _ _ _ _ _
      | exact intrusionref08_Eval.mono _ _ _
      | exact intrusionref08_item.mono _ _
      | exact intrusionref08_split.mono _ _ _
      | exact LeO.none _
      | refine LeO.ite ?_ ?_
      | refine LeO.bind ?_ (fun _ => ?_)
    · intro y0 y1 y2 y3 y4 y5
      unfold intrusionref08_Parse.j1
      repeat' first
      | (with_reducible exact ih0 _ _ _ _)
      | (with_reducible exact ih1 _ _ _ _ _ _)
      | (with_reducible exact ih2 _ _ _ _ _ _)
      | (with_reducible exact intrusionref08_Eval.mono _ _ _)
      | (with_reducible exact intrusionref08_item.mono _ _)
      | (with_reducible exact intrusionref08_split.mono _ _ _)
      | (with_reducible exact LeO.refl _)
      | (with_reducible exact LeO.none _)
      | (with_reducible refine LeO.ite ?_ ?_)
      | (with_reducible refine LeO.bind ?_ (fun _ => ?_))
      | exact ih0 _ _ _ _
      | exact ih1 _ _ _ _ _ _
      | exact ih2 _ _ _ _ _ _
      | exact intrusionref08_Eval.mono _ _ _
      | exact intrusionref08_item.mono _ _
      | exact intrusionref08_split.mono _ _ _
      | exact LeO.none _
      | refine LeO.ite ?_ ?_
      | refine LeO.bind ?_ (fun _ => ?_)
    · intro y0 y1 y2 y3 y4 y5
      unfold intrusionref08_Parse.j2
      repeat' first
      | (with_reducible exact ih0 _ _ _ _)
      | (with_reducible exact ih1 _ _ _ _ _ _)
      | (with_reducible exact ih2 _ _ _ _ _ _)
      | (with_reducible exact intrusionref08_Eval.mono _ _ _)
      | (with_reducible exact intrusionref08_item.mono _ _)
      | (with_reducible exact intrusionref08_split.mono _ _ _)
      | (with_reducible exact LeO.refl _)
      | (with_reducible exact LeO.none _)
      | (with_reducible refine LeO.ite ?_ ?_)
      | (with_reducible refine LeO.bind ?_ (fun _ => ?_))
      | exact ih0 _ _ _ _
      | exact ih1 _ _ _ _ _ _
      | exact ih2 _ _ _ _ _ _
      | exact intrusionref08_Eval.mono _ _ _
      | exact intrusionref08_item.mono _ _
      | exact intrusionref08_split.mono _ _ _
      | exact LeO.none _
      | refine LeO.ite ?_ ?_
      | refine LeO.bind ?_ (fun _ => ?_)
theorem intrusionref08_Parse.mono : ∀ a0 k, LeO (intrusionref08_Parse.f k a0) (intrusionref08_Parse.f (k + 1) a0) := by
  intro a0 k
  obtain ⟨ih0, ih1, ih2⟩ := intrusionref08_Parse.mono_l k
  unfold intrusionref08_Parse.f
  repeat' first
      | (with_reducible exact ih0 _ _ _ _)
      | (with_reducible exact ih1 _ _ _ _ _ _)
      | (with_reducible exact ih2 _ _ _ _ _ _)
      | (with_reducible exact intrusionref08_Eval.mono _ _ _)
      | (with_reducible exact intrusionref08_item.mono _ _)
      | (with_reducible exact intrusionref08_split.mono _ _ _)
      | (with_reducible exact LeO.refl _)
      | (with_reducible exact LeO.none _)
      | (with_reducible refine LeO.ite ?_ ?_)
      | (with_reducible refine LeO.bind ?_ (fun _ => ?_))
      | exact ih0 _ _ _ _
      | exact ih1 _ _ _ _ _ _
      | exact ih2 _ _ _ _ _ _
      | exact intrusionref08_Eval.mono _ _ _
      | exact intrusionref08_item.mono _ _
      | exact intrusionref08_split.mono _ _ _
      | exact LeO.none _
      | refine LeO.ite ?_ ?_
      | refine LeO.bind ?_ (fun _ => ?_)
end Go.Proofs.YtbimdjciacnioaaDoor.Q
end

section
set_option linter.unusedVariables false
set_option linter.unusedSimpArgs false
namespace Go.Proofs.YtbimdjciacnioaaDoor.Q
open Go.RowKit Go.Proofs.YtbimdjciacnioaaDoorW.PrintWords Go.Proofs.YtbimdjciacnioaaDoorW.PrintLast Go.Proofs.YtbimdjciacnioaaDoorW.PrintMore Go.Proofs.YtbimdjciacnioaaDoor.Canon
def evP (a b : List Sn) (n : Int) : Prop := (a = [] ∨ SM a n) ∧ ¬ SM b n ∧ 0 ≤ n ∧ n ≤ 65535
def allS : List Sn := [(⟨0, 65535⟩ : Sn)]
theorem sm_all (n : Int) : SM allS n ↔ 0 ≤ n ∧ n ≤ 65535 := by
  unfold allS
  rw [sm_cons, sm_nil, or_false]
theorem can_all : Can (evP [] []) allS := ⟨by simp [CanFrom, sp, allS], by simp [allS], fun n => by
  rw [sm_all]
  unfold evP
  rw [sm_nil]
  simp⟩
theorem all_len : allS.length = 1 := rfl
theorem eval_spec (a b : List Sn) (ha : a.length < 1000000) (hb : b.length < 1000000) : ∃ r, Ev (fun k => portset_Eval.f k a b) r ∧ Can (evP a b) r := by
  by_cases h : a = []
  · subst h
    obtain ⟨r, r1, r2, r3⟩ := minus_spec allS b (by rw [all_len]; omega) (by omega)
    refine ⟨r, ?_, r2.congr (fun n => ?_)⟩
    · unfold portset_Eval.f portset_All.f
      simp only [Option.bind_some, List.length_nil]
      refine Ev.congr (fun k => if_neg (by decide)) (Ev.bind r1 (Ev.now _))
    · unfold MinusP evP
      rw [sm_all]
      constructor
      · rintro ⟨⟨h1, h2⟩, h3, _, _⟩; exact ⟨.inl rfl, h3, h1, h2⟩
      · rintro ⟨_, h3, h1, h2⟩; exact ⟨⟨h1, h2⟩, h3, h1, by omega⟩
  · obtain ⟨c, c1, c2, c3⟩ := inter_spec allS a (by rw [all_len]; omega) (by omega)
    rw [all_len] at c3
    obtain ⟨r, r1, r2, r3⟩ := minus_spec c b (by omega) (by omega)
    refine ⟨r, ?_, r2.congr (fun n => ?_)⟩
    · unfold portset_Eval.f portset_All.f
      simp only [Option.bind_some]
      exact Ev.congr (fun k => if_pos (by have := List.length_pos_iff.2 h; omega)) (Ev.bind c1 (Ev.bind r1 (Ev.now _)))
    · unfold MinusP evP
      rw [c2.2.2 n]
      unfold InterP
      rw [sm_all]
      constructor
      · rintro ⟨⟨⟨h1, h2⟩, h4, _, _⟩, h3, _, _⟩; exact ⟨.inr h4, h3, h1, h2⟩
      · rintro ⟨h4, h3, h1, h2⟩
        rcases h4 with h4 | h4
        · exact absurd h4 h
        · exact ⟨⟨⟨h1, h2⟩, h4, h1, by omega⟩, h3, h1, by omega⟩
def portP (a : List Sn) (n : Int) : Prop := SM a n ∧ 0 ≤ n ∧ n ≤ 65535
theorem ports_spec (a : List Sn) (ha : a.length < 400) : ∃ r, Ev (fun k => intrusionref08_ports.f k a) r ∧ Can (portP a) r ∧ r.length ≤ a.length + 1 ∧ Ev (fun k => interval_Intersect.f k allS a) r ∧ Ev (fun k => interval_Intersect.f k a allS) r := by
  obtain ⟨r, r1, r2⟩ := rinter_spec a allS (by omega) (by rw [all_len]; omega)
  obtain ⟨q, q1, q2, q3⟩ := inter_spec a allS (by omega) (by rw [all_len]; omega)
  obtain ⟨q', q1', q2', q3'⟩ := inter_spec allS a (by rw [all_len]; omega) (by omega)
  have e := r2.uniq q2
  subst e
  have e := (q2'.congr (Q := InterP a allS) (fun n => by unfold InterP; constructor <;> (rintro ⟨h1, h2, h3⟩; exact ⟨h2, h1, h3⟩))).uniq q2
  subst e
  refine ⟨q', ?_, q2.congr (fun n => ?_), by rw [all_len] at q3; exact q3, q1', q1⟩
  · unfold intrusionref08_ports.f intrusionref08_All.f
    simp only [Option.bind_some]
    exact Ev.bind r1 (Ev.now _)
  · unfold InterP portP
    rw [sm_all]
    constructor
    · rintro ⟨h1, ⟨h2, h3⟩, _⟩; exact ⟨h1, h2, h3⟩
    · rintro ⟨h1, h2, h3⟩; exact ⟨h1, ⟨h2, h3⟩, h2, by omega⟩
def bare (t : List UInt8) : List UInt8 := if t.head? = some 33 then t.drop 1 else t
def excl (t : List UInt8) : Bool := t.head? == some 33
def prs : List (List UInt8) → List Sn → List Sn → (List Sn × List Sn) ⊕ Int
  | [], a, b => .inl (a, b)
  | t :: ts, a, b => if (itemV (bare t)).2.2 = 0 then (if excl t = true then prs ts a (b ++ [(⟨(itemV (bare t)).1, (itemV (bare t)).2.1⟩ : Sn)]) else prs ts (a ++ [(⟨(itemV (bare t)).1, (itemV (bare t)).2.1⟩ : Sn)]) b) else .inr (itemV (bare t)).2.2
def Res (g : Nat → Option (List Sn × Int)) : (List Sn × List Sn) ⊕ Int → Prop
  | .inl (a, b) => ∃ r, Ev g (r, 0) ∧ Can (evP a b) r
  | .inr e => Ev g ([], e)
theorem Res.step {g f : Nat → Option (List Sn × Int)} {s : (List Sn × List Sn) ⊕ Int} (h : ∀ k, g (k + 1) = f k) (hf : Res f s) : Res g s := by
  cases s with
  | inl p => obtain ⟨r, h1, h2⟩ := hf; exact ⟨r, Ev.step h h1, h2⟩
  | inr e => exact Ev.step h hf
theorem Res.congr {g f : Nat → Option (List Sn × Int)} {s : (List Sn × List Sn) ⊕ Int} (h : ∀ k, g k = f k) (hf : Res f s) : Res g s := by
  cases s with
  | inl p => obtain ⟨r, h1, h2⟩ := hf; exact ⟨r, Ev.congr h h1, h2⟩
  | inr e => exact Ev.congr h hf
theorem Res.bind {α : Type} {h : Nat → Option α} {x : α} {f : Nat → α → Option (List Sn × Int)} {s : (List Sn × List Sn) ⊕ Int} (h1 : Ev h x) (hf : Res (fun n => f n x) s) : Res (fun n => (h n).bind (f n)) s := by
  cases s with
  | inl p => obtain ⟨r, h2, h3⟩ := hf; exact ⟨r, Ev.bind h1 h2, h3⟩
  | inr e => exact Ev.bind h1 hf
theorem pre_eq (t : List UInt8) : Lib.hasPrefix t [33] = excl t := by
  unfold Lib.hasPrefix excl
  cases t with
  | nil => rfl
  | cons x t =>
    simp [List.isPrefixOf]
    rw [Bool.eq_iff_iff, beq_iff_eq, beq_iff_eq]
    constructor <;> exact Eq.symm
theorem trim_eq (t : List UInt8) : Lib.trimPrefix t [33] = bare t := by
  unfold Lib.trimPrefix bare
  rw [pre_eq]
  unfold excl
  by_cases h : t.head? = some 33
  · rw [if_pos h, if_pos (beq_iff_eq.2 h)]; rfl
  · rw [if_neg h, if_neg (fun e => h (beq_iff_eq.1 e))]
theorem bare_len (t : List UInt8) : (bare t).length ≤ t.length := by
  unfold bare
  split
  · rw [List.length_drop]; omega
  · exact Nat.le_refl _
theorem cutp_eq (t : List UInt8) : strings_CutPrefix.f (mkB t) (⟨#[33]⟩ : ByteArray) = some (mkB (bare t), excl t) := by
  unfold strings_CutPrefix.f
  rw [mkB_list]
  show some (mkB (Lib.trimPrefix t [33]), Lib.hasPrefix t [33]) = _
  rw [trim_eq, pre_eq]
theorem parse0 (L : List (List UInt8)) (hL : L.length ≤ 1000) (hz : ∀ x ∈ L, x.length ≤ 100000) : ∀ (d i : Nat) (a b : List Sn), L.length - i = d → i ≤ L.length → a.length + b.length ≤ i → Res (fun k => portset_Parse.l0 k a b (L.map mkB) (L.length : Int) (i : Int)) (prs (L.drop i) a b)
  | 0, i, a, b, hd, hi, hab => by
    rw [List.drop_of_length_le (by omega), prs]
    obtain ⟨r, r1, r2⟩ := eval_spec a b (by omega) (by omega)
    refine ⟨r, Ev.step (fun k => ?_) (Ev.bind (f := fun _ t => some (t, (0 : Int))) r1 (Ev.now _)), r2⟩
    rw [portset_Parse.l0, if_neg (by omega)]
  | d + 1, i, a, b, hd, hi, hab => by
    have hl : i < L.length := by omega
    have hx := hz _ (List.getElem_mem hl)
    rw [List.drop_eq_getElem_cons hl, prs]
    have hit := item_ev (mkB (bare L[i])) (by rw [size_list, mkB_list]; have := bare_len L[i]; omega)
    rw [mkB_list] at hit
    generalize itemV (bare L[i]) = v at hit ⊢
    obtain ⟨x, y, e⟩ := v
    dsimp only
    have hstep : ∀ k, portset_Parse.l0 (k + 1) a b (L.map mkB) (L.length : Int) (i : Int) = ((portset_item.f k (mkB (bare L[i]))).bind fun bt199 => (if bt199.2.2 = 0 then (if excl L[i] = true then (if b.length < 8796093022208 then (portset_Parse.l0 k a (b ++ [(⟨bt199.1, bt199.2.1⟩ : Sn)]) (L.map mkB) (L.length : Int) ((i + 1 : Nat) : Int)) else (none)) else (if a.length < 8796093022208 then (portset_Parse.l0 k (a ++ [(⟨bt199.1, bt199.2.1⟩ : Sn)]) b (L.map mkB) (L.length : Int) ((i + 1 : Nat) : Int)) else (none))) else (some (([] : List Sn), bt199.2.2)))) := fun k => by
      rw [portset_Parse.l0, if_pos (by omega), if_pos (by omega), if_pos (by rw [List.length_map]; omega), rdOf_mk L i hl, cutp_eq, Option.bind_some, up_b (by omega)]
    refine Res.step hstep (Res.bind hit ?_)
    dsimp only
    by_cases he : e = 0
    · rw [if_pos he]
      refine Res.congr (fun k => if_pos he) ?_
      by_cases hex : excl L[i] = true
      · rw [if_pos hex]
        refine Res.congr (fun k => (if_pos hex).trans (if_pos (by omega))) ?_
        exact parse0 L hL hz d (i + 1) a _ (by omega) (by omega) (by rw [List.length_append]; simp; omega)
      · rw [if_neg hex]
        refine Res.congr (fun k => (if_neg hex).trans (if_pos (by omega))) ?_
        exact parse0 L hL hz d (i + 1) _ b (by omega) (by omega) (by rw [List.length_append]; simp; omega)
    · rw [if_neg he]
      exact Res.congr (fun k => if_neg he) (Ev.now _)
theorem spl_count (c : UInt8) : ∀ (l cur : List UInt8), (spl c cur l).length = Lib.count l [c] + 1
  | [], cur => by rw [Lib.count_one]; rfl
  | x :: t, cur => by
    rw [spl]
    by_cases h : x = c
    · subst h
      rw [if_pos rfl, Lib.count_cons_eq, List.length_cons, spl_count x t []]
      omega
    · rw [if_neg h, Lib.count_cons_ne x c t h, spl_count c t (cur ++ [x])]
def anyL : List UInt8 := [97, 110, 121]
def parseV (l : List UInt8) : (List Sn × List Sn) ⊕ Int := if l.length > 1024 then .inr 3 else if l = anyL then .inl ([], []) else if (spl 44 [] l).length > 64 then .inr 3 else prs (spl 44 [] l) [] []
theorem parse_spec (s : ByteArray) : Res (fun k => portset_Parse.f k s) (parseV s.data.toList) := by
  unfold parseV portset_Parse.f
  rw [size_list]
  by_cases h1 : s.data.toList.length > 1024
  · rw [if_pos h1]
    refine Res.congr (fun k => if_pos (by omega)) ?_
    refine Ev.step (f := fun _ => some (([] : List Sn), (3 : Int))) (fun k => ?_) (Ev.now _)
    rw [portset_Parse.j0, if_pos rfl]
  · rw [if_neg h1]
    refine Res.congr (fun k => if_neg (by omega)) ?_
    have hc : strings_Count.f s (⟨#[44]⟩ : ByteArray) = some (((spl 44 [] s.data.toList).length : Int) - 1) := by
      unfold strings_Count.f
      rw [if_pos (by rw [size_list]; omega), if_pos (by exact Nat.le_refl 1)]
      congr 1
      rw [spl_count]
      show ((Lib.count s.data.toList [44] : Nat) : Int) = _
      omega
    simp only [hc, Option.bind_some]
    have hany : (spl 44 [] anyL).length = 1 := rfl
    by_cases h2 : s.data.toList = anyL
    · rw [if_pos h2, h2, hany]
      refine ⟨allS, Ev.step (f := fun _ => some (allS, (0 : Int))) (fun k => ?_) (Ev.now _), can_all⟩
      rw [portset_Parse.j0, if_neg (by simp), ByteArray.toList_eq, if_pos (show s.data.toList = ([97, 110, 121] : List UInt8) from h2)]
      rfl
    · rw [if_neg h2]
      by_cases h3 : (spl 44 [] s.data.toList).length > 64
      · rw [if_pos h3]
        refine Ev.step (f := fun _ => some (([] : List Sn), (3 : Int))) (fun k => ?_) (Ev.now _)
        rw [portset_Parse.j0, if_pos (by rw [decide_eq_true_eq]; omega)]
      · rw [if_neg h3]
        have h0 := parse0 (spl 44 [] s.data.toList) (by omega) (fun x hx => by have := spl_mem 44 _ [] x hx; simp only [List.length_nil] at this; omega) _ 0 [] [] rfl (by omega) (by simp)
        rw [List.drop_zero] at h0
        refine Res.step (fun k => ?_) h0
        rw [portset_Parse.j0, if_neg (by rw [decide_eq_true_eq]; omega), ByteArray.toList_eq, if_neg (show ¬ s.data.toList = ([97, 110, 121] : List UInt8) from h2), split_eq s 44 (by rw [size_list]; omega), Option.bind_some, List.length_map]
        rfl
theorem same8_0 (L : List Sn) (hl : L.length < 8796093022208) : ∀ (d i : Nat), L.length - i = d → i ≤ L.length → Ev (fun k => intrusionlaw08_same.l0 k L L (L.length : Int) (i : Int)) true := by
  intro d
  induction d with
  | zero =>
    intro i hd hi
    have : i = L.length := by omega
    subst this
    refine Ev.step (f := fun _ => some true) (fun k => ?_) (Ev.now _)
    simp only [intrusionlaw08_same.l0]; rw [if_neg (by omega)]
  | succ d ih =>
    intro i hd hi
    have hlt : i < L.length := by omega
    refine Ev.step (fun k => ?_) (ih (i + 1) (by omega) (by omega))
    simp only [intrusionlaw08_same.l0]
    rw [if_pos (by omega), if_pos (by omega), if_pos (by omega), if_pos (by omega), wrap_succ i (by omega)]
    simp
theorem same8_ev (L : List Sn) (hl : L.length < 8796093022208) : Ev (fun k => intrusionlaw08_same.f k L L) true := by
  have h := same8_0 L hl L.length 0 (by omega) (by omega)
  refine Ev.congr (fun k => ?_) h
  unfold intrusionlaw08_same.f
  rw [if_pos rfl]
  rfl
end Go.Proofs.YtbimdjciacnioaaDoor.Q
end

section
set_option linter.unusedVariables false
set_option linter.unusedSimpArgs false
namespace Go.Proofs.YtbimdjciacnioaaDoor.Q
open Go.RowKit Go.Proofs.YtbimdjciacnioaaDoorW.PrintWords Go.Proofs.YtbimdjciacnioaaDoorW.PrintLast Go.Proofs.YtbimdjciacnioaaDoorW.PrintMore Go.Proofs.YtbimdjciacnioaaDoor.Canon
theorem dec_len {d : Nat} : ∀ {n : Nat}, n < 10 ^ (d + 1) → (Lib.decDigits n).length ≤ d + 1 := by
  induction d with
  | zero =>
    intro n h
    rw [Lib.decDigits, dif_pos (by omega)]
    simp
  | succ d ih =>
    intro n h
    rw [Lib.decDigits]
    split
    · simp
    · have := ih (n := n / 10) (by rw [Nat.pow_succ] at h; omega)
      rw [List.length_append, List.length_singleton]
      omega
theorem mkB_app (a b : List UInt8) : mkB a ++ mkB b = mkB (a ++ b) := mkB_eq (by rw [ByteArray.data_append, Array.toList_append]; rfl)
theorem mkB_size (a : List UInt8) : (mkB a).size = a.length := by rw [size_list, mkB_list]
theorem str_one {d : Nat} (h : d < 10) : strOfNums [(48 + (d : Int)) % 256] = mkB [UInt8.ofNat (48 + d)] := by
  refine mkB_eq ?_
  show [UInt8.ofNat ((48 + (d : Int)) % 256).toNat] = _
  rw [show ((48 + (d : Int)) % 256).toNat = 48 + d from by omega]
theorem digits0 : ∀ (d n : Nat) (acc : List UInt8), n < 10 ^ (d + 1) → n < 4294967296 → acc.length + d ≤ 100 → Ev (fun k => intrusionref08_digits.l0 k (n : Int) (mkB acc)) (mkB (Lib.decDigits n ++ acc))
  | 0, n, acc, h, h2, ha => by
    have hn : n < 10 := by omega
    refine Ev.step (f := fun _ => some (mkB (Lib.decDigits n ++ acc))) (fun k => ?_) (Ev.now _)
    rw [intrusionref08_digits.l0, Option.bind_some, Int.tmod_eq_emod_of_nonneg (by omega), Int.tdiv_eq_ediv_of_nonneg (by omega), show ((n : Int) % 10) = (n : Int) from by omega, show ((n : Int) / 10) = 0 from by omega, wid (x := 48 + (n : Int)) (by omega) (by omega), str_one hn, mkB_size, mkB_size, if_pos (by simp; omega), if_pos (wid (x := 0) (by omega) (by omega)), mkB_app, Lib.decDigits, dif_pos hn]
  | d + 1, n, acc, h, h2, ha => by
    by_cases hn : n < 10
    · refine Ev.step (f := fun _ => some (mkB (Lib.decDigits n ++ acc))) (fun k => ?_) (Ev.now _)
      rw [intrusionref08_digits.l0, Option.bind_some, Int.tmod_eq_emod_of_nonneg (by omega), Int.tdiv_eq_ediv_of_nonneg (by omega), show ((n : Int) % 10) = (n : Int) from by omega, show ((n : Int) / 10) = 0 from by omega, wid (x := 48 + (n : Int)) (by omega) (by omega), str_one hn, mkB_size, mkB_size, if_pos (by simp; omega), if_pos (wid (x := 0) (by omega) (by omega)), mkB_app, Lib.decDigits, dif_pos hn]
    · have ih := digits0 d (n / 10) (UInt8.ofNat (48 + n % 10) :: acc) (by rw [Nat.pow_succ] at h; omega) (by omega) (by simp; omega)
      rw [Lib.decDigits, dif_neg hn, List.append_assoc]
      refine Ev.step (fun k => ?_) ih
      rw [intrusionref08_digits.l0, Option.bind_some, Int.tmod_eq_emod_of_nonneg (by omega), Int.tdiv_eq_ediv_of_nonneg (by omega), show ((n : Int) % 10) = ((n % 10 : Nat) : Int) from by omega, show ((n : Int) / 10) = ((n / 10 : Nat) : Int) from by omega, wid (x := 48 + ((n % 10 : Nat) : Int)) (by omega) (by omega), str_one (by omega), mkB_size, mkB_size, if_pos (by simp; omega), wid (x := ((n / 10 : Nat) : Int)) (by omega) (by omega), if_neg (by omega), mkB_app]
      rfl
theorem digits_ev {x : Int} (h0 : 0 ≤ x) (h1 : x ≤ 65535) : Ev (fun k => intrusionref08_digits.f k x) (mkB (Lib.decDigits x.toNat)) := by
  have h := digits0 4 x.toNat [] (by omega) (by omega) (by simp)
  rw [List.append_nil, show ((x.toNat : Nat) : Int) = x from by omega] at h
  exact h
theorem itoa_ev {x : Int} (h0 : 0 ≤ x) (h1 : x ≤ 65535) : strconv_Itoa.f x = some (mkB (Lib.decDigits x.toNat)) := by
  unfold strconv_Itoa.f
  rw [if_pos (by omega)]
  unfold Lib.itoa
  rw [if_neg (by omega)]
  rfl
theorem dec5 {x : Int} (h0 : 0 ≤ x) (h1 : x ≤ 65535) : (Lib.decDigits x.toNat).length ≤ 5 := dec_len (d := 4) (by omega)
def fmtI (x : Sn) : List UInt8 := if x.f0 < x.f1 then Lib.decDigits x.f0.toNat ++ 58 :: Lib.decDigits x.f1.toNat else Lib.decDigits x.f0.toNat
def fmtV : List Sn → List UInt8
  | [] => [33, 48, 58] ++ Lib.itoa 65535
  | x :: t => if x.f0 = 0 ∧ x.f1 = 65535 then anyL else jn 44 ((x :: t).map fmtI)
def PW (x : Sn) : Prop := 0 ≤ x.f0 ∧ x.f0 ≤ x.f1 ∧ x.f1 ≤ 65535
theorem fmtI_len {x : Sn} (h : PW x) : (fmtI x).length ≤ 11 := by
  obtain ⟨h0, h1, h2⟩ := h
  have a1 := dec5 h0 (by omega)
  have a2 := dec5 (x := x.f1) (by omega) h2
  unfold fmtI
  split
  · rw [List.length_append, List.length_cons]; omega
  · omega
theorem join_jn (L : List (List UInt8)) : Lib.join L [44] = jn 44 L := by
  cases L with
  | nil => rfl
  | cons x t => rw [Lib.join_cons]; rfl
theorem jn_len : ∀ (L : List (List UInt8)) (m : Nat), (∀ x ∈ L, x.length ≤ m) → (jn 44 L).length ≤ (m + 1) * L.length := by
  intro L m
  cases L with
  | nil => intro _; simp [jn]
  | cons x t =>
    intro h
    rw [jn, List.length_append, List.length_cons]
    have hx := h x (by simp)
    have ht : ∀ t : List (List UInt8), (∀ z ∈ t, z.length ≤ m) → ((t.map ((44 : UInt8) :: ·)).flatten).length ≤ (m + 1) * t.length := by
      intro t
      induction t with
      | nil => intro _; simp
      | cons y t ih =>
        intro h
        have := ih (fun z hz => h z (by simp [hz]))
        have hy := h y (by simp)
        rw [List.map_cons, List.flatten_cons, List.length_append, List.length_cons, List.length_cons, Nat.mul_succ]
        omega
    have := ht t (fun z hz => h z (by simp [hz]))
    rw [Nat.mul_succ]
    omega
theorem pform0 (R : List Sn) (hR : R.length ≤ 100000) (hw : ∀ x ∈ R, PW x) : ∀ (d i : Nat) (out : List (List UInt8)), R.length - i = d → i ≤ R.length → out.length = i → (∀ z ∈ out, z.length ≤ 11) → Ev (fun k => portset_Format.l0 k (out.map mkB) R (R.length : Int) (i : Int)) (mkB (jn 44 (out ++ (R.drop i).map fmtI)))
  | 0, i, out, hd, hi, ho, hz => by
    rw [List.drop_of_length_le (by omega), List.map_nil, List.append_nil]
    refine Ev.step (f := fun _ => some (mkB (jn 44 out))) (fun k => ?_) (Ev.now _)
    rw [portset_Format.l0, if_neg (by omega)]
    unfold strings_Join.f
    have e : (out.map mkB).map (·.data.toList) = out := by
      rw [List.map_map]
      have : (fun x : ByteArray => x.data.toList) ∘ mkB = id := by funext x; rfl
      rw [this, List.map_id]
    rw [e]
    show (if (Lib.join out [44]).length ≤ 140737488355328 then if (out.map mkB).length ≤ 140737488355328 then some (mkB (Lib.join out [44])) else none else none).bind _ = _
    rw [join_jn]
    have := jn_len out 11 hz
    rw [if_pos (by omega), if_pos (by rw [List.length_map]; omega)]
    rfl
  | d + 1, i, out, hd, hi, ho, hz => by
    have hl : i < R.length := by omega
    have hx := hw _ (List.getElem_mem hl)
    have ih := pform0 R hR hw d (i + 1) (out ++ [fmtI R[i]]) (by omega) (by omega) (by rw [List.length_append]; simp; omega) (fun z hz2 => by
      rcases List.mem_append.1 hz2 with h | h
      · exact hz z h
      · rw [List.mem_singleton.1 h]; exact fmtI_len hx)
    rw [List.append_assoc] at ih
    rw [List.drop_eq_getElem_cons hl, List.map_cons]
    refine Ev.step (fun k => ?_) ih
    have hlen := fmtI_len hx
    obtain ⟨h0, h1, h2⟩ := hx
    have a1 := dec5 h0 (by omega)
    have a2 := dec5 (x := R[i].f1) (by omega) h2
    rw [portset_Format.l0, if_pos (by omega), if_pos (by omega), if_pos (by omega), rd_at R i hl, itoa_ev h0 (by omega), Option.bind_some, up_b (by omega)]
    by_cases hlt : R[i].f0 < R[i].f1
    · have e58 : (⟨#[58]⟩ : ByteArray) = mkB [58] := rfl
      rw [if_pos hlt, itoa_ev (by omega) h2, Option.bind_some, e58, mkB_app, mkB_size, if_pos (by omega), mkB_size, mkB_size, if_pos (by simp; omega), if_pos (by rw [List.length_map]; omega), mkB_app, List.map_append]
      have : fmtI R[i] = Lib.decDigits R[i].f0.toNat ++ ([58] ++ Lib.decDigits R[i].f1.toNat) := by unfold fmtI; rw [if_pos hlt]; rfl
      rw [this]
      rfl
    · have : fmtI R[i] = Lib.decDigits R[i].f0.toNat := by unfold fmtI; rw [if_neg hlt]
      rw [if_neg hlt, if_pos (by rw [List.length_map]; omega), List.map_append, this]
      rfl
def tailF (R : List Sn) : List UInt8 := (R.map (fun x => (44 : UInt8) :: fmtI x)).flatten
theorem rform_j1 (R : List Sn) (hR : R.length ≤ 100000) (hw : ∀ x ∈ R, PW x) (i : Nat) (hl : i < R.length) (A Z : List UInt8) (hA : A.length ≤ 12 * i + 1) (ih : Ev (fun k => intrusionref08_Format.l0 k R (mkB (A ++ fmtI R[i])) ((i + 1 : Nat) : Int)) (mkB Z)) : Ev (fun k => intrusionref08_Format.j1 k R (mkB A) (i : Int)) (mkB Z) := by
  have hx := hw _ (List.getElem_mem hl)
  obtain ⟨h0, h1, h2⟩ := hx
  have a1 := dec5 h0 (by omega)
  have a2 := dec5 (x := R[i].f1) (by omega) h2
  refine Ev.step (fun k => ?_) (f := fun k => (intrusionref08_digits.f k R[i].f0).bind fun t451 => (if (mkB A).size + t451.size ≤ 9223372036854775807 then (if R[i].f0 = R[i].f1 then (intrusionref08_Format.l0 k R (mkB A ++ t451) ((i + 1 : Nat) : Int)) else (if (mkB A ++ t451).size + 1 ≤ 9223372036854775807 then ((intrusionref08_digits.f k R[i].f1).bind fun t455 => (if ((mkB A ++ t451) ++ (⟨#[58]⟩ : ByteArray)).size + t455.size ≤ 9223372036854775807 then (intrusionref08_Format.l0 k R (((mkB A ++ t451) ++ (⟨#[58]⟩ : ByteArray)) ++ t455) ((i + 1 : Nat) : Int)) else (none))) else (none))) else (none))) (Ev.bind (digits_ev h0 (by omega)) ?_)
  · rw [intrusionref08_Format.j1, if_pos (by omega), if_pos (by omega), rd_at R i hl, up_b (by omega)]
  · refine Ev.congr (fun k => if_pos (by rw [mkB_size, mkB_size]; omega)) ?_
    by_cases he : R[i].f0 = R[i].f1
    · have : fmtI R[i] = Lib.decDigits R[i].f0.toNat := by unfold fmtI; rw [if_neg (by omega)]
      rw [this] at ih
      refine Ev.congr (fun k => if_pos he) ?_
      rw [mkB_app]
      exact ih
    · have : fmtI R[i] = Lib.decDigits R[i].f0.toNat ++ 58 :: Lib.decDigits R[i].f1.toNat := by unfold fmtI; rw [if_pos (by omega)]
      rw [this] at ih
      refine Ev.congr (fun k => (if_neg he).trans (if_pos (by rw [mkB_app, mkB_size, List.length_append]; omega))) ?_
      refine Ev.bind (digits_ev (x := R[i].f1) (by omega) h2) ?_
      have e58 : (⟨#[58]⟩ : ByteArray) = mkB [58] := rfl
      have e : ((mkB A ++ mkB (Lib.decDigits R[i].f0.toNat)) ++ mkB [58]) ++ mkB (Lib.decDigits R[i].f1.toNat) = mkB (A ++ (Lib.decDigits R[i].f0.toNat ++ 58 :: Lib.decDigits R[i].f1.toNat)) := by
        rw [mkB_app, mkB_app, mkB_app, List.append_assoc, List.append_assoc]
        rfl
      rw [e58, e]
      refine Ev.congr (fun k => if_pos (by rw [mkB_app, mkB_app, mkB_size, mkB_size]; simp only [List.length_append, List.length_cons, List.length_nil]; omega)) ih
theorem rform0 (R : List Sn) (hR : R.length ≤ 100000) (hw : ∀ x ∈ R, PW x) : ∀ (d i : Nat) (A : List UInt8), R.length - i = d → i ≤ R.length → 0 < i → A.length ≤ 12 * i → Ev (fun k => intrusionref08_Format.l0 k R (mkB A) (i : Int)) (mkB (A ++ tailF (R.drop i)))
  | 0, i, A, hd, hi, hp, hA => by
    rw [List.drop_of_length_le (by omega), show tailF [] = [] from rfl, List.append_nil]
    refine Ev.step (f := fun _ => some (mkB A)) (fun k => ?_) (Ev.now _)
    rw [intrusionref08_Format.l0, if_neg (by omega)]
  | d + 1, i, A, hd, hi, hp, hA => by
    have hl : i < R.length := by omega
    have hx := hw _ (List.getElem_mem hl)
    have hlen := fmtI_len hx
    have ih := rform0 R hR hw d (i + 1) ((A ++ [44]) ++ fmtI R[i]) (by omega) (by omega) (by omega) (by simp only [List.length_append, List.length_cons, List.length_nil]; omega)
    have hj := rform_j1 R hR hw i hl (A ++ [44]) _ (by simp only [List.length_append, List.length_cons, List.length_nil]; omega) ih
    rw [List.drop_eq_getElem_cons hl]
    have e : A ++ tailF (R[i] :: R.drop (i + 1)) = ((A ++ [44]) ++ fmtI R[i]) ++ tailF (R.drop (i + 1)) := by
      show A ++ ((44 : UInt8) :: fmtI R[i] ++ tailF (R.drop (i + 1))) = _
      simp
    rw [e]
    refine Ev.step (fun k => ?_) hj
    have e44 : (⟨#[44]⟩ : ByteArray) = mkB [44] := rfl
    rw [intrusionref08_Format.l0, if_pos (by omega), if_pos (by omega), mkB_size, if_pos (by omega), e44, mkB_app]
theorem rform_ev (x : Sn) (t : List Sn) (hR : (x :: t).length ≤ 100000) (hw : ∀ y ∈ x :: t, PW y) : Ev (fun k => intrusionref08_Format.l0 k (x :: t) (⟨#[]⟩ : ByteArray) 0) (mkB (jn 44 ((x :: t).map fmtI))) := by
  have hlen := fmtI_len (hw x (by simp))
  have h1 := rform0 (x :: t) hR hw _ 1 (fmtI x) rfl (by simp) (by omega) (by omega)
  have hj := rform_j1 (x :: t) hR hw 0 (by simp) [] _ (by simp) h1
  have e : jn 44 ((x :: t).map fmtI) = fmtI x ++ tailF ((x :: t).drop 1) := by
    rw [List.map_cons, jn]
    show fmtI x ++ ((t.map fmtI).map ((44 : UInt8) :: ·)).flatten = fmtI x ++ tailF t
    rw [List.map_map]
    rfl
  rw [e]
  refine Ev.step (fun k => ?_) hj
  rw [intrusionref08_Format.l0, if_pos (by simp), if_neg (by omega)]
  rfl
theorem itoa_last : Lib.itoa 65535 = [54, 53, 53, 51, 53] := by kernel_rfl
theorem port_wf {l r : List Sn} (h : Can (portP l) r) : ∀ x ∈ r, PW x := fun x hx => by
  obtain ⟨h0, h1, _⟩ := h.wf x hx
  have h2 := (h.2.2 x.f1).1 ((sm_iff r x.f1).2 ⟨x, hx, h1, Int.le_refl _⟩)
  exact ⟨h0, h1, h2.2.2⟩
theorem format_spec (l : List Sn) (hl : l.length < 400) : ∃ r, Can (portP l) r ∧ r.length ≤ l.length + 1 ∧ Ev (fun k => intrusionref08_ports.f k l) r ∧ Ev (fun k => interval_Intersect.f k l allS) r ∧ Ev (fun k => portset_Format.f k l) (mkB (fmtV r)) ∧ Ev (fun k => intrusionref08_Format.f k l) (mkB (fmtV r)) := by
  obtain ⟨r, r1, r2, r3, r4, r5⟩ := ports_spec l hl
  have hw := port_wf r2
  refine ⟨r, r2, r3, r1, r5, ?_, ?_⟩
  · unfold portset_Format.f portset_given.f portset_All.f
    rw [if_pos (by omega)]
    simp only [Option.bind_some]
    refine Ev.bind r4 ?_
    cases r with
    | nil =>
      refine Ev.congr (fun k => if_pos rfl) ?_
      rw [itoa_ev (by omega) (by omega)]
      simp only [Option.bind_some]
      refine Ev.congr (fun k => if_pos (by rw [mkB_size]; have := dec5 (x := 65535) (by omega) (by omega); omega)) ?_
      exact Ev.now _
    | cons x t =>
      refine Ev.congr (fun k => (if_neg (by simp only [List.length_cons]; omega)).trans ((if_pos (by simp only [List.length_cons]; omega)).trans (if_pos (by decide)))) ?_
      have r0 : rd_T33 (x :: t) 0 = x := rfl
      have ra : rd_T33 [(⟨0, 65535⟩ : Sn)] 0 = ⟨0, 65535⟩ := rfl
      rw [r0, ra]
      by_cases h : x.f0 = 0 ∧ x.f1 = 65535
      · refine Ev.congr (fun k => if_pos (by rw [Bool.and_eq_true, beq_iff_eq, beq_iff_eq]; exact h)) ?_
        rw [fmtV, if_pos h]
        exact Ev.now _
      · refine Ev.congr (fun k => if_neg (by rw [Bool.and_eq_true, beq_iff_eq, beq_iff_eq]; exact h)) ?_
        rw [fmtV, if_neg h]
        have := pform0 (x :: t) (by omega) hw _ 0 [] rfl (by omega) rfl (by simp)
        simpa using this
  · unfold intrusionref08_Format.f
    refine Ev.bind r1 ?_
    cases r with
    | nil =>
      refine Ev.congr (fun k => if_pos rfl) ?_
      rw [fmtV, itoa_last]
      exact Ev.now _
    | cons x t =>
      refine Ev.congr (fun k => (if_neg (by simp only [List.length_cons]; omega)).trans (if_pos (by simp only [List.length_cons]; omega))) ?_
      have r0 : rd_T33 (x :: t) 0 = x := rfl
      rw [r0]
      by_cases h : x.f0 = 0 ∧ x.f1 = 65535
      · refine Ev.congr (fun k => if_pos (by rw [Bool.and_eq_true, beq_iff_eq, beq_iff_eq]; exact h)) ?_
        rw [fmtV, if_pos h]
        exact Ev.now _
      · refine Ev.congr (fun k => if_neg (by rw [Bool.and_eq_true, beq_iff_eq, beq_iff_eq]; exact h)) ?_
        rw [fmtV, if_neg h]
        exact rform_ev x t (by omega) hw
end Go.Proofs.YtbimdjciacnioaaDoor.Q
end

section
set_option linter.unusedVariables false
set_option linter.unusedSimpArgs false
namespace Go.Proofs.YtbimdjciacnioaaDoor.Q
open Go.RowKit Go.Proofs.YtbimdjciacnioaaDoorW.PrintWords Go.Proofs.YtbimdjciacnioaaDoorW.PrintLast Go.Proofs.YtbimdjciacnioaaDoorW.PrintMore Go.Proofs.YtbimdjciacnioaaDoor.Canon
theorem i1 : itemV (bare [56, 48]) = (80, 80, 0) ∧ excl [56, 48] = false := by constructor <;> kernel_rfl
theorem i2 : itemV (bare [56, 48, 48, 48, 58, 56, 48, 48, 50]) = (8000, 8002, 0) ∧ excl [56, 48, 48, 48, 58, 56, 48, 48, 50] = false := by constructor <;> kernel_rfl
theorem i3 : itemV (bare [33, 56, 48, 48, 49]) = (8001, 8001, 0) ∧ excl [33, 56, 48, 48, 49] = true := by constructor <;> kernel_rfl
theorem ex1 : parseV [56, 48, 44, 56, 48, 48, 48, 58, 56, 48, 48, 50, 44, 33, 56, 48, 48, 49] = .inl ([(⟨80, 80⟩ : Sn), ⟨8000, 8002⟩], [(⟨8001, 8001⟩ : Sn)]) := by
  have e : spl 44 [] [56, 48, 44, 56, 48, 48, 48, 58, 56, 48, 48, 50, 44, 33, 56, 48, 48, 49] = [[56, 48], [56, 48, 48, 48, 58, 56, 48, 48, 50], [33, 56, 48, 48, 49]] := by rfl
  unfold parseV
  rw [if_neg (by decide), if_neg (by decide), e, if_neg (by decide), prs, i1.1, i1.2]
  dsimp only
  rw [if_pos rfl, if_neg Bool.false_ne_true, prs, i2.1, i2.2]
  dsimp only
  rw [if_pos rfl, if_neg Bool.false_ne_true, prs, i3.1, i3.2]
  rfl
theorem i4 : (itemV (bare [55, 58, 53])).2.2 = 4 := by kernel_rfl
theorem i5 : (itemV (bare [])).2.2 = 14 := by kernel_rfl
theorem ex2 : parseV [55, 58, 53] = .inr 4 := by
  have e : spl 44 [] [55, 58, 53] = [[55, 58, 53]] := by rfl
  unfold parseV
  rw [if_neg (by decide), if_neg (by decide), e, if_neg (by decide), prs, if_neg (by rw [i4]; decide), i4]
theorem ex3 : parseV [] = .inr 14 := by
  have e : spl 44 [] [] = [[]] := by rfl
  unfold parseV
  rw [if_neg (by decide), if_neg (by decide), e, if_neg (by decide), prs, if_neg (by rw [i5]; decide), i5]
theorem parse_at (s : ByteArray) (l : List UInt8) (v : (List Sn × List Sn) ⊕ Int) (h : s.data.toList = l) (hv : parseV l = v) : Res (fun k => portset_Parse.f k s) v := by
  have p := parse_spec s
  rw [h, hv] at p
  exact p
theorem awake8_ev : Ev (fun k => intrusionlaw08_awake.f k) true := by
  have p1 := parse_at (⟨#[56, 48, 44, 56, 48, 48, 48, 58, 56, 48, 48, 50, 44, 33, 56, 48, 48, 49]⟩ : ByteArray) _ _ rfl ex1
  have p2 := parse_at (⟨#[55, 58, 53]⟩ : ByteArray) _ _ rfl ex2
  have p3 := parse_at (⟨#[]⟩ : ByteArray) _ _ rfl ex3
  obtain ⟨r1, q1, c1⟩ := p1
  obtain ⟨r4, q4, c4⟩ := eval_spec [] [(⟨0, 1023⟩ : Sn)] (by decide) (by decide)
  obtain ⟨r5, c5, _, _, _, q5, _⟩ := format_spec [(⟨1, 2⟩ : Sn), ⟨9, 9⟩] (by decide)
  have h1 : r1 = [(⟨80, 80⟩ : Sn), ⟨8000, 8000⟩, ⟨8002, 8002⟩] := c1.uniq ⟨by simp [CanFrom, sp], by simp, fun n => by
    unfold evP
    simp only [sm_cons, sm_nil, or_false, reduceCtorEq, false_or]
    omega⟩
  have h4 : r4 = [(⟨1024, 65535⟩ : Sn)] := c4.uniq ⟨by simp [CanFrom, sp], by simp, fun n => by
    unfold evP
    simp only [sm_cons, sm_nil, or_false, true_or, true_and]
    omega⟩
  have h5 : r5 = [(⟨1, 2⟩ : Sn), ⟨9, 9⟩] := c5.uniq ⟨by simp [CanFrom, sp], by simp, fun n => by
    unfold portP
    simp only [sm_cons, sm_nil, or_false]
    omega⟩
  subst h1 h4 h5
  unfold intrusionlaw08_awake.f
  refine Ev.bind q1 (Ev.bind p2 (Ev.bind p3 (Ev.bind q4 (Ev.bind (same8_ev _ (by decide)) ?_))))
  simp only [if_true]
  refine Ev.bind (same8_ev _ (by decide)) ?_
  simp only [if_true]
  refine Ev.bind q5 ?_
  have e : (mkB (fmtV [(⟨1, 2⟩ : Sn), ⟨9, 9⟩])).toList = ([49, 58, 50, 44, 57] : List UInt8) := by
    rw [ByteArray.toList_eq, mkB_list]
    kernel_rfl
  refine Ev.congr (fun k => if_pos e) ?_
  unfold portset_All.f
  simp only [Option.bind_some]
  exact Ev.bind (same8_ev _ (by decide)) (Ev.now _)
theorem large_ev (l : List Sn) : intrusionlaw08_large.f l = some (decide ((l.length : Int) > 60)) := rfl
theorem then_awake : Ev (fun k => (intrusionlaw08_awake.f k).bind fun t => some t) true := Ev.bind awake8_ev (Ev.now _)
end Go.Proofs.YtbimdjciacnioaaDoor.Q
end

section
set_option linter.unusedVariables false
set_option linter.unusedSimpArgs false
namespace Go.Proofs.YtbimdjciacnioaaDoor.Pure
open Go.RowKit Go.Proofs.YtbimdjciacnioaaDoor.Q Go.Proofs.YtbimdjciacnioaaDoor.Canon Go.Proofs.YtbimdjciacnioaaDoorW.PrintWords Go.Proofs.YtbimdjciacnioaaDoorW.PrintLast
theorem PortsetFormats : ∀ (l0 : List (S33)), l0.length ≤ maxLen → (∀ x ∈ l0, q33 x) → ∃ k, intrusionlaw08_PortsetFormats.f k l0 = some true := by
  intro l0 _ _
  refine Ev.rounds (g := fun k => intrusionlaw08_PortsetFormats.f k l0) ?_
  unfold intrusionlaw08_PortsetFormats.f
  simp only [large_ev, Option.bind_some]
  by_cases h : (l0.length : Int) > 60
  · refine Ev.congr (fun k => if_pos (decide_eq_true h)) (Ev.bind awake8_ev ?_)
    exact Ev.congr (fun k => if_pos rfl) (Ev.now _)
  · refine Ev.congr (fun k => if_neg (by rw [decide_eq_true_eq]; exact h)) ?_
    obtain ⟨r, _, _, _, _, e1, e2⟩ := format_spec l0 (by omega)
    exact Ev.bind e1 (Ev.bind e2 (Ev.congr (fun k => if_pos rfl) then_awake))
end Go.Proofs.YtbimdjciacnioaaDoor.Pure
end

section
set_option linter.unusedVariables false
namespace Go.Proofs.YtbimdjciacnioaaDoor.Q
open Go.RowKit
theorem returns_laid {H : Type} {enc : TypeId × Value → H} {a : Assume} {C : Checked} {os : Os} {f : FuncId} {fn : Func} {s : ChangeSpec} {conds : List PathCond} {apart fresh handsOn again : Bool} {X : World → Array Value → Prop}
    (hX : ∀ (w w' : World) (args : Array Value), w.heap = w'.heap → X w args → X w' args)
    (own : ownKnob C.prog.godebug = none) (started : os.Started) (noInit : C.prog.inits.idxOf? f = none) (hfn : C.prog.funcs[f]? = some fn)
    (witness : ∃ (w : World) (tape : Tape) (i : Input), w.os = os ∧ (w.forCall tape i).Shaped C.prog ∧ i.vars = [] ∧ Input.okWide C.prog (w.forCall tape i) .any w.heap.size f i ∧
      ((s.pre enc C.prog fn conds apart (w.forCall tape i).memory i.args ∧ X (w.forCall tape i).memory i.args) ∧ sizedMet enc C.prog fn (OpenSpec.ofChange s) apart (w.forCall tape i).memory i.args) ∧ a.holds C.prog (lone (Frame.enter C.prog f i.args .normal) [] (w.forCall tape i)))
    (contract : ∀ (W : World) (base : Nat) (args : Array Value) (ds gs : List (DataW H)) (before : List MemPlace),
      (∀ (j : Nat) t v, fn.params[j]? = some t → args[j]? = some v → Value.okWide C.prog W .any base t v) →
      DataW.Whole enc C.prog fn.params.toList s.vars apart W args.toList ds gs before →
      conds.all (PathCond.test C.prog ⟨fn.params.toList, ds, s.plain.varTypes C.prog, gs⟩) = true →
      (DataW.weightsEach C.prog (fn.params.toList ++ s.plain.varTypes C.prog) (ds ++ gs)).all (· ≤ reachBytes) = true → X W args → W.ShapedOpen C.prog →
      a.holds C.prog (lone (Frame.enter C.prog f args .normal) [] W) →
      Calls C.prog f args W fun e W' => ∃ v, e = .returned v ∧ s.post enc C.prog fn apart fresh handsOn again W args v W') :
    ReturnsInHanded a C os f .any (fun w args => (s.pre enc C.prog fn conds apart w args ∧ X w args) ∧ sizedMet enc C.prog fn (OpenSpec.ofChange s) apart w args) (s.post enc C.prog fn apart fresh handsOn again) := by
  refine returnsInHanded_of_calls own started noInit witness ?_
  intro w tape i _ hsh _ hok hpre hholds
  obtain ⟨_, _, _, fn', hfn', _, _, _, _, hval⟩ := hok
  have e : fn' = fn := Option.some.inj (hfn'.symm.trans hfn)
  subst e
  obtain ⟨⟨⟨ds, gs, before, hw, hc⟩, hx⟩, hz⟩ := hpre
  have hw' := DataW.Whole.of_heap (w' := w.forCall tape i) (by rfl) hw
  refine (contract (w.forCall tape i) w.heap.size i.args ds gs before hval hw' hc (hz.weights hw) (hX _ _ _ (by rfl) hx) hsh hholds).mono fun e W' ⟨v, he, hp⟩ => ?_
  subst he
  exact ChangeSpec.post_blind hp
theorem laidVars_at {P : Program} {W : World} : ∀ {laid : List (String × DataW Unit)} {ps : List MemPlace}, DataW.LaidVars P W laid ps → ∀ (i : Nat) (n : String) (d : DataW Unit), laid[i]? = some (n, d) →
    ∃ g t cs fuel p, P.globalNamed n = some g ∧ (P.globals[g]?).map (·.type) = some t ∧ W.var? P n = some cs ∧ DataW.trod (fun _ => ()) P W 0 (fun _ => true) false fuel t cs.toList = some (d, p)
  | [], _, _, i, _, _, h => by simp at h
  | (m, c) :: r, ps, h, i, n, d, hi => by
    obtain ⟨g, t, cs, fuel, p, q, h1, h2, h3, h4, h5, _⟩ := h
    cases i with
    | zero =>
      simp only [List.getElem?_cons_zero, Option.some.injEq, Prod.mk.injEq] at hi
      obtain ⟨rfl, rfl⟩ := hi
      exact ⟨g, t, cs, fuel, p, h1, h2, h3, h4⟩
    | succ j => exact laidVars_at h5 j n d (by simpa using hi)
theorem tabIs_at {P : Program} {W : World} {laid : List (String × DataW Unit)} {name : String} {k : IntKind} {zs : List Int} {g : Nat} {t e : TypeId} {n : Nat} (i : Nat) (hi : laid[i]? = some (name, Lib.tabData k zs))
    (hg : P.globalNamed name = some g) (hty : (P.globals[g]?).map (·.type) = some t) (ht : P.underlying t = some (.array n e)) (he : P.underlying e = some (.int k)) (hce : P.cellsOf e = 1) (hct : P.cellsOf t = n)
    (h : laidMet P laid W) : Lib.TabIs P W name k zs := by
  obtain ⟨ps, h, _⟩ := h
  obtain ⟨g', t', cs, fuel, p, hg', ht', hvar, hd⟩ := laidVars_at h i _ _ hi
  obtain rfl := Option.some.inj (hg.symm.trans hg')
  obtain rfl := Option.some.inj (hty.symm.trans ht')
  unfold Lib.TabIs
  rw [hvar, ← Lib.cells_of_tab ht he hce hct hd]
def laidL : List (String × DataW Unit) := [("math/bits.deBruijn32tab", Rows.laid_math_bits_deBruijn32tab), ("math/bits.deBruijn64tab", Rows.laid_math_bits_deBruijn64tab), ("internal/strconv.uint64pow10", Rows.laid_internal_strconv_uint64pow10), ("unicode/utf8.acceptRanges", Rows.laid_unicode_utf8_acceptRanges), ("unicode/utf8.first", Rows.laid_unicode_utf8_first)]
theorem wok_of {W : World} (h : laidMetH Tryd.prog laidL W) (hs : W.ShapedOpen Tryd.prog) : WOK W := by
  rw [MakeChecks.laidMetH_plain _ _ _ (by kernel_rfl)] at h
  refine ⟨?_, ?_, ?_⟩
  · exact cell_of_shapedOpen_int (t := 3) (zero := #[.int .i64 0]) hs (by decide +kernel) (by kernel_rfl) (by kernel_rfl) (by kernel_rfl) (by kernel_rfl) Tryd.underlying3
  · exact tabIs_at (g := 1) (n := 20) 2 (by rfl) (by kernel_rfl) (t := 110) (by kernel_rfl) (by kernel_rfl) (e := 88) Tryd.underlying88 (by kernel_rfl) (by kernel_rfl) h
  · have hb : Lib.TabIs Tryd.prog W "math/bits.deBruijn64tab" .u8 (Lib.deBruijn64tab.map Int.ofNat) := tabIs_at (g := 5) (n := 64) 1 (by rfl) (by kernel_rfl) (t := 126) (by kernel_rfl) (by kernel_rfl) (e := 5) Tryd.underlying5 (by kernel_rfl) (by kernel_rfl) h
    intro j hj
    have h2 := hb.cell (g := 5) (by kernel_rfl) j (by rw [List.length_map]; exact hj)
    rw [h2, List.getD, List.getD, List.getElem?_map, List.getElem?_eq_getElem hj]
    rfl
set_option maxRecDepth 100000 in
theorem laid_world (os : Os) (args : Array Value) : laidMetH Tryd.prog laidL ((World.laidAll Tryd.prog os laidL).forCall (fun _ _ => 0) ⟨#[], args, []⟩).memory := by
  rw [MakeChecks.laidMetH_plain _ _ _ (by kernel_rfl)]
  exact laidMet_laidAll _ (by kernel_rfl) (by kernel_rfl)
end Go.Proofs.YtbimdjciacnioaaDoor.Q
end

section
namespace Go.Proofs.YtbimdjciacnioaaDoor.portsetFormats
open Go.ChangeShapes Go.WideShapes Go.ChangeAt Go.RowKit Go.Proofs.YtbimdjciacnioaaDoorW.PrintWords Go.Proofs.YtbimdjciacnioaaDoor.Read Go.Proofs.YtbimdjciacnioaaDoor.Q
open Go.ChangeMaps (open_string shut_string)
set_option linter.unusedVariables false
theorem own : ownKnob Tryd.prog.godebug = none := by kernel_rfl
theorem laidOut : laidOutB Tryd.prog = true := by kernel_rfl
set_option maxRecDepth 100000 in
theorem lifted (os : Os) (started : os.Started) (H : Type) (enc : TypeId × Value → H) :
    ReturnsInHanded {} Tryd.checked os 4 .any (fun w args => (Rows.portsetFormatsSpec.pre enc Tryd.prog Tryd.f4 Rows.portsetFormatsRow.domain false w args ∧ laidMetH Tryd.prog laidL w) ∧ sizedMet enc Tryd.prog Tryd.f4 (OpenSpec.ofChange Rows.portsetFormatsSpec) false w args) (Rows.portsetFormatsSpec.post enc Tryd.prog Tryd.f4 false true false false) := by
  refine returns_laid (C := Tryd.checked) (X := (fun w _ => laidMetH Tryd.prog laidL w)) (fun _ _ _ hh h => h.of_heap hh) own started (by kernel_rfl) Tryd.func4
    (ChangeSpec.witness_shaped (enc := enc) (C := Tryd.checked) (os := os) (X := (fun w _ => laidMetH Tryd.prog laidL w)) false (World.laidAll Tryd.prog os laidL) #[.slice none 0 0] 8 (World.laidAll_os _ _ _)
      (World.shaped_of_ZipB (by kernel_rfl) (by kernel_rfl)) (by kernel_rfl) (by kernel_rfl) (by kernel_rfl) (laid_world os _)) ?_
  intro W base args ds gs before hval0 hW hcnd hsz0 hL hsh _
  have hWok := wok_of hL hsh
  have hsz : (DataW.weightsEach Tryd.prog (Tryd.f4.params.toList ++ Rows.portsetFormatsSpec.plain.varTypes Tryd.prog) (ds ++ gs)).all (· ≤ reachBytes) = true := hsz0
  have hval : ∀ (j : Nat) t v, Tryd.f4.params[j]? = some t → args[j]? = some v → Value.okWide Tryd.prog W .any base t v := hval0
  have hW' := hW
  obtain ⟨p, q, hA0, hV, rfl, hfz, hnd⟩ := hW
  have hA : DataW.TrodAll enc Tryd.prog W 0 (fun _ => true) true Tryd.f4.params.toList args.toList ds p := hA0
  rw [Tryd.params4] at hA hval hsz
  obtain ⟨v0, vs0, d0, ds0, p0, q0, hargs, rfl, rfl, h0, r0⟩ := trodAll_cons hA
  obtain ⟨rfl, rfl, rfl⟩ := trodAll_nil r0
  obtain rfl : args = #[v0] := by cases args; simp_all
  obtain ⟨rfl, rfl⟩ := trodVars_none hV
  obtain ⟨a0, len0, cap0, rfl⟩ := okWide_slice Tryd.underlying23 (hval 0 23 v0 rfl rfl)
  have k0_ := h0
  have lt0 : ∀ x ∈ p0, x.block < W.heap.size := by obtain ⟨m, hm⟩ := k0_; exact DataW.trod_lt m _ _ _ hm
  obtain ⟨fuel0, hf0⟩ := h0
  obtain ⟨l0, ⟨A0, c0, hcs0, hle0, hC0⟩, hm0, hq0⟩ := (reads_slice Tryd.underlying23 (by kernel_rfl) (reads_k33 W) : Reads Tryd.prog W (Kd.slice 33 k33) _ 23) H enc fuel0 _ _ hf0
  simp [Value.cells] at hcs0
  obtain ⟨rfl, rfl, rfl⟩ := hcs0
  clear hA0 hval0 hsz0 hsz
  obtain ⟨k, hk⟩ := Pure.PortsetFormats l0 hm0 hq0
  refine (intrusionlaw08_PortsetFormats.calls k _ _ l0 true W hC0 hle0 hk hWok).mono fun e W' he => ?_
  obtain ⟨rfl, bel⟩ := he
  exact ⟨_, rfl, _, _, _, [], _, [], hW', trodAll_mk1 (shut_bool Tryd.underlying4 _), (trodAll_cons_mk (Below.trod laidOut (by kernel_rfl) (of_decide_eq_true (by kernel_rfl)) k0_ bel lt0) trodAll_mk0), rfl, bel.frame _, fun h => by cases h⟩
theorem over : Rows.portsetFormatsRow.holds Tryd.pinned (OpenSpec.ofChange Rows.portsetFormatsSpec) :=
  OpenClaim.holds_of_wide 4 Tryd.f4 rfl rfl rfl rfl rfl rfl rfl ⟨rfl, rfl, rfl, rfl, rfl⟩ rfl rfl rfl rfl rfl (by kernel_rfl) Tryd.func4 (by kernel_rfl)
    (of_decide_eq_true (by kernel_rfl)) (by unfold Func.isWrapper; first | (rw [if_pos (by decide +kernel)]; kernel_rfl) | (rw [if_neg (by decide +kernel)]; exact ⟨rfl, rfl⟩))
    (fun os started H enc _ => lifted os started H enc)
theorem card : Rows.PortsetFormatsCardSaid :=
  Claim7.holds_tied_plain_at .later [] [.data, .data, .data, .data, .pinned] true (true, "9aa0131f247035a0e78f96f5864c7c2e57b9ec42f65bc66587a77ae73f0f15cc") false over (fun _ h => by cases h) (by kernel_rfl) (fun _ h => by cases h) portsetFormats_row_tie rfl ⟨rfl, rfl⟩ (by kernel_rfl) rfl
    (fun f fn hf hfn => by
      obtain rfl : f = 4 := Option.some.inj ((show Tryd.prog.funcNamed "intrusion/intrusionlaw08.PortsetFormats" = some 4 by kernel_rfl).symm.trans hf) |>.symm
      obtain rfl : fn = Tryd.f4 := (Option.some.inj (Tryd.func4.symm.trans hfn)).symm
      exact ⟨by kernel_rfl, fun j t ht => by
        rw [Tryd.params4] at ht
        have hm : t ∈ [23] := by simpa using Array.mem_of_getElem? ht
        have hall : ([23].all fun u => !Tryd.prog.wantsStandIn u) = true := by kernel_rfl
        exact (show Tryd.prog.wantsStandIn t = false by simpa using List.all_eq_true.1 hall t hm)⟩)
    (by kernel_rfl)
#print axioms card
end Go.Proofs.YtbimdjciacnioaaDoor.portsetFormats
namespace Go.Proofs.YtbimdjciacnioaaDoor
theorem portsetFormats_holds : Rows.PortsetFormatsCardSaid := portsetFormats.card
end Go.Proofs.YtbimdjciacnioaaDoor
end
