/- The law AssetChecks answers true for every input and leaves its arguments as they were. No condition. (Part 6 of 6: the kit's printed words and walks, hand-made contracts and plain laws, joined in build order, without what the theorem does not reach.) -/
import Derived.Deep.Slices
import Derived.ChangeArms
import Derived.WideShapes
import Derived.DataElems
import Derived.IntWalk
import Derived.Lib.ItoaLen
import Derived.Test.YtnphnhkinjppjaaGreatDoorRows
import Derived.ProofKit
import Derived.OpenShut
import Derived.LaidMore
import Derived.Lay
import Derived.SevenTiedAt
import Derived.Stop.Joined
import Derived.Lib.LaidTab
import Derived.Shelf.Vars
import Derived.HandedShaped
import Derived.WalkKit
import Derived.ShutString
import Derived.ChangeOld
import Derived.Below
import Derived.SizedLaws
import Derived.Carry
import Derived.Test.YtnphnhkinjppjaaGreatDoorTie
import Derived.Test.YtnphnhkinjppjaaGreatDoorCards
import Derived.Test.YtnphnhkinjppjaaGreatDoorGAssetChecks5
set_option linter.unusedVariables false
set_option linter.unusedSimpArgs false
section
set_option maxHeartbeats 8000000
set_option maxRecDepth 100000
namespace Go.Proofs.YtnphnhkinjppjaaGreatDoor.Q
open Go.RowKit Go.Proofs.YtnphnhkinjppjaaGreatDoorW.PrintWords Go.Proofs.YtnphnhkinjppjaaGreatDoorW.PrintLast Go.Proofs.YtnphnhkinjppjaaGreatDoorW.PrintMore
attribute [local go_sem] max2_int min2_int max_two min_two max_three min_three max_four min_four
def w18_AssetChecks.f (k : Nat) (l0 : List (S36)) : Option (Bool) := (r18_Few.f k l0).bind fun t392 => (if t392 = true then ((asset_Check.f k l0).bind fun t394 => ((r18_Check.f k l0).bind fun t395 => (if t394 = t395 then ((asset_Format.f k l0).bind fun t396 => ((r18_Format.f k l0).bind fun t397 => (if t396.toList = t397.toList then ((asset_Default.f).bind fun bt398 => ((r18_Default.f).bind fun bt412 => ((r18_One.f k bt398.1 bt398.2.1 bt398.2.2.1 bt398.2.2.2.1 bt398.2.2.2.2.1 bt398.2.2.2.2.2.1 bt398.2.2.2.2.2.2.1 bt398.2.2.2.2.2.2.2.1 bt398.2.2.2.2.2.2.2.2.1 bt398.2.2.2.2.2.2.2.2.2.1 bt398.2.2.2.2.2.2.2.2.2.2.1 bt398.2.2.2.2.2.2.2.2.2.2.2 bt412.1 bt412.2.1 bt412.2.2.1 bt412.2.2.2.1 bt412.2.2.2.2.1 bt412.2.2.2.2.2.1 bt412.2.2.2.2.2.2.1 bt412.2.2.2.2.2.2.2.1 bt412.2.2.2.2.2.2.2.2.1 bt412.2.2.2.2.2.2.2.2.2.1 bt412.2.2.2.2.2.2.2.2.2.2.1 bt412.2.2.2.2.2.2.2.2.2.2.2).bind fun t426 => (if t426 = true then ((w18_lives.f k).bind fun t427 => (some t427)) else (some false))))) else (some false)))) else (some false)))) else ((w18_lives.f k).bind fun t393 => (some t393)))
theorem w18_AssetChecks.mono : ∀ a0 k, LeO (w18_AssetChecks.f k a0) (w18_AssetChecks.f (k + 1) a0) := by
  intro a0 k
  unfold w18_AssetChecks.f
  repeat' first
      | (with_reducible exact asset_Check.mono _ _)
      | (with_reducible exact asset_Format.mono _ _)
      | (with_reducible exact w18_lives.mono _)
      | (with_reducible exact r18_Check.mono _ _)
      | (with_reducible exact r18_Few.mono _ _)
      | (with_reducible exact r18_Format.mono _ _)
      | (with_reducible exact r18_One.mono _ _ _ _ _ _ _ _ _ _ _ _ _ _ _ _ _ _ _ _ _ _ _ _ _)
      | (with_reducible exact LeO.refl _)
      | (with_reducible exact LeO.none _)
      | (with_reducible refine LeO.ite ?_ ?_)
      | (with_reducible refine LeO.bind ?_ (fun _ => ?_))
theorem w18_AssetChecks.calls (k : Nat) (A0 : Option Addr) (c0 : Nat) (l0 : List (S36)) (r : Bool) (w : World) (hr0 : Kd.C k36 w A0 l0.length l0) (hc0 : l0.length ≤ c0) (h : w18_AssetChecks.f k l0 = some r) (hW_ : WOK w) :
 Calls Tryz.prog 3 #[.slice A0 l0.length c0] w fun e w' => e = .returned (.bool r) ∧ Below w.heap.size w w' := by
 have HR0 := Aside0.mk hr0; have HC0 := Aside0.mk hc0; clear hr0 hc0; have HB := Aside0.mk (Below.refl w.heap.size w)
 unfold w18_AssetChecks.f at h; have H := h
 clear h
 replace H := Option.bind_eq_some_iff.mp H
 obtain ⟨t392, A20, H⟩ := H
 try dsimp only at H
 have A2 := Aside0.mk A20; clear A20
 by_cases c3 : t392 = true
 rotate_left
 · replace c3 := Bool.eq_false_iff.mpr c3
   subst c3; rw [if_neg zF] at H
   replace H := Option.bind_eq_some_iff.mp H
   obtain ⟨t393, A400, H⟩ := H
   try dsimp only at H
   have A40 := Aside0.mk A400; clear A400
   obtain rfl := Option.some.inj H
   go_enter Tryz.func3, Tryz.ntmps3
   go_wp2_with (first | ((with_reducible refine gate_callee (f := 10) rfl ?_); refine zgl 4 Tryz.func10 #[.slice A0 l0.length c0] ?_; (with_reducible refine (r18_Few.calls k _ _ l0 false _ ?side1 ?side2 A2.out).mono ?_); (case side1 => repeat (first | exact HR0.out | (with_reducible refine Kd.C_alloc ?_ _) | (with_reducible refine Kd.C_drewN ?_ _) | (with_reducible refine Kd.C_drew ?_))); (case side2 => exact HC0.out); rintro e w' ⟨rfl, ⟨nd, rfl⟩⟩; refine ⟨_, rfl, ?_⟩) | ((with_reducible refine gate_callee (f := 11) rfl ?_); refine zgl 6 Tryz.func11 #[] ?_; (with_reducible refine (w18_lives.calls k  t393 _ A40.out (WOK.below hW_ (zB HB))).mono ?_); rintro e w41 ⟨rfl, hb⟩; refine ⟨_, rfl, ?_⟩; replace HB := Aside0.mk (below_step (zB HB) hb); (try clear hb)))
   go_ret
   exact ⟨zr, zB HB⟩
 subst c3; rw [if_pos rfl] at H
 replace H := Option.bind_eq_some_iff.mp H
 obtain ⟨t394, A40, H⟩ := H
 try dsimp only at H
 have A4 := Aside0.mk A40; clear A40
 replace H := Option.bind_eq_some_iff.mp H
 obtain ⟨t395, A50, H⟩ := H
 try dsimp only at H
 have A5 := Aside0.mk A50; clear A50
 by_cases c6 : t394 = t395
 rotate_left
 · rw [if_neg c6] at H
   have c6b0 : (t394 == t395) = false := beq_eq_false_iff_ne.mpr c6
   have c6b1 : (t394 != t395) = true := bne_iff_ne.mpr c6
   obtain rfl := Option.some.inj H
   go_enter Tryz.func3, Tryz.ntmps3
   go_wp2_with (first | ((with_reducible refine gate_callee (f := 10) rfl ?_); refine zgl 4 Tryz.func10 #[.slice A0 l0.length c0] ?_; (with_reducible refine (r18_Few.calls k _ _ l0 true _ ?side1 ?side2 A2.out).mono ?_); (case side1 => repeat (first | exact HR0.out | (with_reducible refine Kd.C_alloc ?_ _) | (with_reducible refine Kd.C_drewN ?_ _) | (with_reducible refine Kd.C_drew ?_))); (case side2 => exact HC0.out); rintro e w' ⟨rfl, ⟨nd, rfl⟩⟩; refine ⟨_, rfl, ?_⟩) | ((with_reducible refine gate_callee (f := 12) rfl ?_); refine zgl 8 Tryz.func12 #[.slice A0 l0.length c0] ?_; (with_reducible refine (asset_Check.calls k _ _ l0 t394 _ ?side1 ?side2 A4.out).mono ?_); (case side1 => repeat (first | exact HR0.out | (with_reducible refine Kd.C_alloc ?_ _) | (with_reducible refine Kd.C_drewN ?_ _) | (with_reducible refine Kd.C_drew ?_))); (case side2 => exact HC0.out); rintro e w38 ⟨rfl, hb⟩; refine ⟨_, rfl, ?_⟩; replace HB := Aside0.mk (below_step (zB HB) hb); (try clear hb)) | ((with_reducible refine gate_callee (f := 13) rfl ?_); refine zgl 10 Tryz.func13 #[.slice A0 l0.length c0] ?_; (with_reducible refine (r18_Check.calls k _ _ l0 t395 _ ?side1 ?side2 A5.out).mono ?_); (case side1 => repeat (first | exact (Kd.C_below HR0.out HB.out) | (with_reducible refine Kd.C_alloc ?_ _) | (with_reducible refine Kd.C_drewN ?_ _) | (with_reducible refine Kd.C_drew ?_))); (case side2 => exact HC0.out); rintro e w39 ⟨rfl, hb⟩; refine ⟨_, rfl, ?_⟩; replace HB := Aside0.mk (below_step (zB HB) hb); (try clear hb)))
   go_ret
   exact ⟨zr, zB HB⟩
 rw [if_pos c6] at H
 have c6b0 : (t394 == t395) = true := beq_iff_eq.mpr c6; have c6b1 : (t394 != t395) = false := bne_eq_false_iff_eq.mpr c6; clear c6
 replace H := Option.bind_eq_some_iff.mp H
 obtain ⟨t396, A70, H⟩ := H
 try dsimp only at H
 have A7 := Aside0.mk A70; clear A70
 replace H := Option.bind_eq_some_iff.mp H
 obtain ⟨t397, A80, H⟩ := H
 try dsimp only at H
 have A8 := Aside0.mk A80; clear A80
 by_cases c9 : t396.toList = t397.toList
 rotate_left
 · rw [if_neg c9] at H
   have c9b0 : (t396.toList == t397.toList) = false := beq_eq_false_iff_ne.mpr c9
   have c9b1 : (t396.toList != t397.toList) = true := bne_iff_ne.mpr c9
   obtain rfl := Option.some.inj H
   go_enter Tryz.func3, Tryz.ntmps3
   go_wp2_with (first | ((with_reducible refine gate_callee (f := 10) rfl ?_); refine zgl 4 Tryz.func10 #[.slice A0 l0.length c0] ?_; (with_reducible refine (r18_Few.calls k _ _ l0 true _ ?side1 ?side2 A2.out).mono ?_); (case side1 => repeat (first | exact HR0.out | (with_reducible refine Kd.C_alloc ?_ _) | (with_reducible refine Kd.C_drewN ?_ _) | (with_reducible refine Kd.C_drew ?_))); (case side2 => exact HC0.out); rintro e w' ⟨rfl, ⟨nd, rfl⟩⟩; refine ⟨_, rfl, ?_⟩) | ((with_reducible refine gate_callee (f := 12) rfl ?_); refine zgl 8 Tryz.func12 #[.slice A0 l0.length c0] ?_; (with_reducible refine (asset_Check.calls k _ _ l0 t394 _ ?side1 ?side2 A4.out).mono ?_); (case side1 => repeat (first | exact HR0.out | (with_reducible refine Kd.C_alloc ?_ _) | (with_reducible refine Kd.C_drewN ?_ _) | (with_reducible refine Kd.C_drew ?_))); (case side2 => exact HC0.out); rintro e w34 ⟨rfl, hb⟩; refine ⟨_, rfl, ?_⟩; replace HB := Aside0.mk (below_step (zB HB) hb); (try clear hb)) | ((with_reducible refine gate_callee (f := 13) rfl ?_); refine zgl 10 Tryz.func13 #[.slice A0 l0.length c0] ?_; (with_reducible refine (r18_Check.calls k _ _ l0 t395 _ ?side1 ?side2 A5.out).mono ?_); (case side1 => repeat (first | exact (Kd.C_below HR0.out HB.out) | (with_reducible refine Kd.C_alloc ?_ _) | (with_reducible refine Kd.C_drewN ?_ _) | (with_reducible refine Kd.C_drew ?_))); (case side2 => exact HC0.out); rintro e w35 ⟨rfl, hb⟩; refine ⟨_, rfl, ?_⟩; replace HB := Aside0.mk (below_step (zB HB) hb); (try clear hb)) | (go_at_call 14; (with_reducible refine (asset_Format.calls k _ _ l0 t396 _ ?side1 ?side2 A7.out (WOK.below hW_ (zB HB))).mono ?_); (case side1 => repeat (first | exact (Kd.C_below HR0.out HB.out) | (with_reducible refine Kd.C_alloc ?_ _) | (with_reducible refine Kd.C_drewN ?_ _) | (with_reducible refine Kd.C_drew ?_))); (case side2 => exact HC0.out); rintro e w36 ⟨rfl, hb⟩; replace HB := Aside0.mk (below_step (zB HB) hb); (try clear hb)) | (go_at_call 15; (with_reducible refine (r18_Format.calls k _ _ l0 t397 _ ?side1 ?side2 A8.out).mono ?_); (case side1 => repeat (first | exact (Kd.C_below HR0.out HB.out) | (with_reducible refine Kd.C_alloc ?_ _) | (with_reducible refine Kd.C_drewN ?_ _) | (with_reducible refine Kd.C_drew ?_))); (case side2 => exact HC0.out); rintro e w37 ⟨rfl, hb⟩; replace HB := Aside0.mk (below_step (zB HB) hb); (try clear hb)))
   go_ret
   exact ⟨zr, zB HB⟩
 rw [if_pos c9] at H
 have c9b0 : (t396.toList == t397.toList) = true := beq_iff_eq.mpr c9; have c9b1 : (t396.toList != t397.toList) = false := bne_eq_false_iff_eq.mpr c9; clear c9
 replace H := Option.bind_eq_some_iff.mp H
 obtain ⟨⟨t398, t399, t400, t401, t402, t403, t404, t405, t406, t407, t408, t409⟩, A100, H⟩ := H
 try dsimp only at H
 have A10 := Aside0.mk A100; clear A100
 replace H := Option.bind_eq_some_iff.mp H
 obtain ⟨⟨t412, t413, t414, t415, t416, t417, t418, t419, t420, t421, t422, t423⟩, A110, H⟩ := H
 try dsimp only at H
 have A11 := Aside0.mk A110; clear A110
 replace H := Option.bind_eq_some_iff.mp H
 obtain ⟨t426, A120, H⟩ := H
 try dsimp only at H
 have A12 := Aside0.mk A120; clear A120
 by_cases c13 : t426 = true
 · subst c13
   rw [if_pos rfl] at H
   replace H := Option.bind_eq_some_iff.mp H
   obtain ⟨t427, A140, H⟩ := H
   try dsimp only at H
   have A14 := Aside0.mk A140; clear A140
   obtain rfl := Option.some.inj H
   go_enter Tryz.func3, Tryz.ntmps3
   go_wp2_with (first | ((with_reducible refine gate_callee (f := 10) rfl ?_); refine zgl 4 Tryz.func10 #[.slice A0 l0.length c0] ?_; (with_reducible refine (r18_Few.calls k _ _ l0 true _ ?side1 ?side2 A2.out).mono ?_); (case side1 => repeat (first | exact HR0.out | (with_reducible refine Kd.C_alloc ?_ _) | (with_reducible refine Kd.C_drewN ?_ _) | (with_reducible refine Kd.C_drew ?_))); (case side2 => exact HC0.out); rintro e w' ⟨rfl, ⟨nd, rfl⟩⟩; refine ⟨_, rfl, ?_⟩) | ((with_reducible refine gate_callee (f := 12) rfl ?_); refine zgl 8 Tryz.func12 #[.slice A0 l0.length c0] ?_; (with_reducible refine (asset_Check.calls k _ _ l0 t394 _ ?side1 ?side2 A4.out).mono ?_); (case side1 => repeat (first | exact HR0.out | (with_reducible refine Kd.C_alloc ?_ _) | (with_reducible refine Kd.C_drewN ?_ _) | (with_reducible refine Kd.C_drew ?_))); (case side2 => exact HC0.out); rintro e w15 ⟨rfl, hb⟩; refine ⟨_, rfl, ?_⟩; replace HB := Aside0.mk (below_step (zB HB) hb); (try clear hb)) | ((with_reducible refine gate_callee (f := 13) rfl ?_); refine zgl 10 Tryz.func13 #[.slice A0 l0.length c0] ?_; (with_reducible refine (r18_Check.calls k _ _ l0 t395 _ ?side1 ?side2 A5.out).mono ?_); (case side1 => repeat (first | exact (Kd.C_below HR0.out HB.out) | (with_reducible refine Kd.C_alloc ?_ _) | (with_reducible refine Kd.C_drewN ?_ _) | (with_reducible refine Kd.C_drew ?_))); (case side2 => exact HC0.out); rintro e w16 ⟨rfl, hb⟩; refine ⟨_, rfl, ?_⟩; replace HB := Aside0.mk (below_step (zB HB) hb); (try clear hb)) | (go_at_call 14; (with_reducible refine (asset_Format.calls k _ _ l0 t396 _ ?side1 ?side2 A7.out (WOK.below hW_ (zB HB))).mono ?_); (case side1 => repeat (first | exact (Kd.C_below HR0.out HB.out) | (with_reducible refine Kd.C_alloc ?_ _) | (with_reducible refine Kd.C_drewN ?_ _) | (with_reducible refine Kd.C_drew ?_))); (case side2 => exact HC0.out); rintro e w17 ⟨rfl, hb⟩; replace HB := Aside0.mk (below_step (zB HB) hb); (try clear hb)) | (go_at_call 15; (with_reducible refine (r18_Format.calls k _ _ l0 t397 _ ?side1 ?side2 A8.out).mono ?_); (case side1 => repeat (first | exact (Kd.C_below HR0.out HB.out) | (with_reducible refine Kd.C_alloc ?_ _) | (with_reducible refine Kd.C_drewN ?_ _) | (with_reducible refine Kd.C_drew ?_))); (case side2 => exact HC0.out); rintro e w18 ⟨rfl, hb⟩; replace HB := Aside0.mk (below_step (zB HB) hb); (try clear hb)) | (go_at_call 17; (with_reducible refine (asset_Default.calls  t398 t399 t400 t401 t402 t403 t404 t405 t406 t407 t408 t409 _ A10.out).mono ?_); rintro e w19 ⟨v410, rfl, ho0, hb⟩; have HO411 := Aside0.mk (Kd.R_lower ho0 (below_size (zB HB))); replace HB := Aside0.mk (below_step (zB HB) hb); (try clear hb); (try clear ho0)) | (go_at_call 18; (with_reducible refine (r18_Default.calls  t412 t413 t414 t415 t416 t417 t418 t419 t420 t421 t422 t423 _ A11.out).mono ?_); rintro e w20 ⟨v424, rfl, ho0, hb⟩; have HO425 := Aside0.mk (Kd.R_lower (Kd.R_new' ho0 (Kd.R_lt (zR HO411))) (below_size (zB HB))); replace HO411 := Aside0.mk (Kd.R_elder' (zR HO411) (Kd.R_base ho0) hb); replace HB := Aside0.mk (below_step (zB HB) hb); (try clear hb); (try clear ho0); obtain ⟨Ao21, co21, eo21⟩ := Kd.R_slice HO411.out; subst eo21; obtain ⟨Ao22, co22, eo22⟩ := Kd.R_slice HO425.out; subst eo22) | (go_at_call 16; (with_reducible refine (r18_One.calls k t398 t399 t400 t401 t402 t403 t404 t405 t406 t407 t408 _ _ t409 t412 t413 t414 t415 t416 t417 t418 t419 t420 t421 t422 _ _ t423 true _ ?side1 ?side2 ?side3 ?side4 A12.out).mono ?_); (case side1 => repeat (first | exact (Kd.R_reads' HO411.out).2.2 | (with_reducible refine Kd.C_alloc ?_ _) | (with_reducible refine Kd.C_drewN ?_ _) | (with_reducible refine Kd.C_drew ?_))); (case side2 => exact (Kd.R_reads' HO411.out).2.1); (case side3 => repeat (first | exact (Kd.R_reads' HO425.out).2.2 | (with_reducible refine Kd.C_alloc ?_ _) | (with_reducible refine Kd.C_drewN ?_ _) | (with_reducible refine Kd.C_drew ?_))); (case side4 => exact (Kd.R_reads' HO425.out).2.1); rintro e w23 ⟨rfl, hb⟩; replace HO411 := Aside0.mk (Kd.R_below (zR HO411) hb); replace HO425 := Aside0.mk (Kd.R_below (zR HO425) hb); replace HB := Aside0.mk (below_step (zB HB) hb); (try clear hb)) | (go_at_call 11; (with_reducible refine (w18_lives.calls k  t427 _ A14.out (WOK.below hW_ (zB HB))).mono ?_); rintro e w24 ⟨rfl, hb⟩; replace HO411 := Aside0.mk (Kd.R_below (zR HO411) hb); replace HO425 := Aside0.mk (Kd.R_below (zR HO425) hb); replace HB := Aside0.mk (below_step (zB HB) hb); (try clear hb)))
   go_ret
   exact ⟨zr, zB HB⟩
 replace c13 := Bool.eq_false_iff.mpr c13
 subst c13; rw [if_neg zF] at H
 obtain rfl := Option.some.inj H
 go_enter Tryz.func3, Tryz.ntmps3
 go_wp2_with (first | ((with_reducible refine gate_callee (f := 10) rfl ?_); refine zgl 4 Tryz.func10 #[.slice A0 l0.length c0] ?_; (with_reducible refine (r18_Few.calls k _ _ l0 true _ ?side1 ?side2 A2.out).mono ?_); (case side1 => repeat (first | exact HR0.out | (with_reducible refine Kd.C_alloc ?_ _) | (with_reducible refine Kd.C_drewN ?_ _) | (with_reducible refine Kd.C_drew ?_))); (case side2 => exact HC0.out); rintro e w' ⟨rfl, ⟨nd, rfl⟩⟩; refine ⟨_, rfl, ?_⟩) | ((with_reducible refine gate_callee (f := 12) rfl ?_); refine zgl 8 Tryz.func12 #[.slice A0 l0.length c0] ?_; (with_reducible refine (asset_Check.calls k _ _ l0 t394 _ ?side1 ?side2 A4.out).mono ?_); (case side1 => repeat (first | exact HR0.out | (with_reducible refine Kd.C_alloc ?_ _) | (with_reducible refine Kd.C_drewN ?_ _) | (with_reducible refine Kd.C_drew ?_))); (case side2 => exact HC0.out); rintro e w25 ⟨rfl, hb⟩; refine ⟨_, rfl, ?_⟩; replace HB := Aside0.mk (below_step (zB HB) hb); (try clear hb)) | ((with_reducible refine gate_callee (f := 13) rfl ?_); refine zgl 10 Tryz.func13 #[.slice A0 l0.length c0] ?_; (with_reducible refine (r18_Check.calls k _ _ l0 t395 _ ?side1 ?side2 A5.out).mono ?_); (case side1 => repeat (first | exact (Kd.C_below HR0.out HB.out) | (with_reducible refine Kd.C_alloc ?_ _) | (with_reducible refine Kd.C_drewN ?_ _) | (with_reducible refine Kd.C_drew ?_))); (case side2 => exact HC0.out); rintro e w26 ⟨rfl, hb⟩; refine ⟨_, rfl, ?_⟩; replace HB := Aside0.mk (below_step (zB HB) hb); (try clear hb)) | (go_at_call 14; (with_reducible refine (asset_Format.calls k _ _ l0 t396 _ ?side1 ?side2 A7.out (WOK.below hW_ (zB HB))).mono ?_); (case side1 => repeat (first | exact (Kd.C_below HR0.out HB.out) | (with_reducible refine Kd.C_alloc ?_ _) | (with_reducible refine Kd.C_drewN ?_ _) | (with_reducible refine Kd.C_drew ?_))); (case side2 => exact HC0.out); rintro e w27 ⟨rfl, hb⟩; replace HB := Aside0.mk (below_step (zB HB) hb); (try clear hb)) | (go_at_call 15; (with_reducible refine (r18_Format.calls k _ _ l0 t397 _ ?side1 ?side2 A8.out).mono ?_); (case side1 => repeat (first | exact (Kd.C_below HR0.out HB.out) | (with_reducible refine Kd.C_alloc ?_ _) | (with_reducible refine Kd.C_drewN ?_ _) | (with_reducible refine Kd.C_drew ?_))); (case side2 => exact HC0.out); rintro e w28 ⟨rfl, hb⟩; replace HB := Aside0.mk (below_step (zB HB) hb); (try clear hb)) | (go_at_call 17; (with_reducible refine (asset_Default.calls  t398 t399 t400 t401 t402 t403 t404 t405 t406 t407 t408 t409 _ A10.out).mono ?_); rintro e w29 ⟨v410, rfl, ho0, hb⟩; have HO411 := Aside0.mk (Kd.R_lower ho0 (below_size (zB HB))); replace HB := Aside0.mk (below_step (zB HB) hb); (try clear hb); (try clear ho0)) | (go_at_call 18; (with_reducible refine (r18_Default.calls  t412 t413 t414 t415 t416 t417 t418 t419 t420 t421 t422 t423 _ A11.out).mono ?_); rintro e w30 ⟨v424, rfl, ho0, hb⟩; have HO425 := Aside0.mk (Kd.R_lower (Kd.R_new' ho0 (Kd.R_lt (zR HO411))) (below_size (zB HB))); replace HO411 := Aside0.mk (Kd.R_elder' (zR HO411) (Kd.R_base ho0) hb); replace HB := Aside0.mk (below_step (zB HB) hb); (try clear hb); (try clear ho0); obtain ⟨Ao31, co31, eo31⟩ := Kd.R_slice HO411.out; subst eo31; obtain ⟨Ao32, co32, eo32⟩ := Kd.R_slice HO425.out; subst eo32) | (go_at_call 16; (with_reducible refine (r18_One.calls k t398 t399 t400 t401 t402 t403 t404 t405 t406 t407 t408 _ _ t409 t412 t413 t414 t415 t416 t417 t418 t419 t420 t421 t422 _ _ t423 false _ ?side1 ?side2 ?side3 ?side4 A12.out).mono ?_); (case side1 => repeat (first | exact (Kd.R_reads' HO411.out).2.2 | (with_reducible refine Kd.C_alloc ?_ _) | (with_reducible refine Kd.C_drewN ?_ _) | (with_reducible refine Kd.C_drew ?_))); (case side2 => exact (Kd.R_reads' HO411.out).2.1); (case side3 => repeat (first | exact (Kd.R_reads' HO425.out).2.2 | (with_reducible refine Kd.C_alloc ?_ _) | (with_reducible refine Kd.C_drewN ?_ _) | (with_reducible refine Kd.C_drew ?_))); (case side4 => exact (Kd.R_reads' HO425.out).2.1); rintro e w33 ⟨rfl, hb⟩; replace HO411 := Aside0.mk (Kd.R_below (zR HO411) hb); replace HO425 := Aside0.mk (Kd.R_below (zR HO425) hb); replace HB := Aside0.mk (below_step (zB HB) hb); (try clear hb)))
 go_ret
 exact ⟨zr, zB HB⟩
end Go.Proofs.YtnphnhkinjppjaaGreatDoor.Q
end

section
namespace Go.Proofs.YtnphnhkinjppjaaGreatDoor.Read
open Go.RowKit Go.Deep Go.WideShapes Go.Proofs.YtnphnhkinjppjaaGreatDoorW.PrintWords
def Reads {α : Type} (P : Program) (W : World) (d : Kd α) (Q : α → Prop) (t : TypeId) : Prop :=
  ∀ (H : Type) (enc : TypeId × Value → H) (fuel : Nat) (cs : List Value) (x : DataW H × List MemPlace), DataW.trod enc P W 0 (fun _ => true) true fuel t cs = some x → ∃ y, d.K W y cs ∧ Q y
section
variable {P : Program} {W : World}
theorem reads_int {k : IntKind} {t : TypeId} (ht : P.underlying t = some (.int k)) : Reads P W (Kd.int k) (fun n => (Lit.int k n).wf = true) t := by
  intro H enc fuel cs x h
  obtain ⟨n, rfl, _, hw⟩ := DataW.trod_int ht h
  exact ⟨n, rfl, hw⟩
theorem reads_bool {t : TypeId} (ht : P.underlying t = some .bool) : Reads P W Kd.bool (fun _ => True) t := by
  intro H enc fuel cs x h
  obtain ⟨n, rfl, _⟩ := DataW.trod_bool ht h
  exact ⟨n, rfl, trivial⟩
theorem reads_string {t : TypeId} (ht : P.underlying t = some .string) : Reads P W Kd.string (fun s => s.size ≤ maxLen) t := by
  intro H enc fuel cs x h
  obtain ⟨n, rfl, _, hs⟩ := DataW.trod_string ht h
  exact ⟨n, rfl, hs⟩
theorem cells_at {a : Addr} {n : Nat} {cs : List Value} (h : W.cells? 0 a n = some cs) : ∀ i u, cs[i]? = some u → W.cell? (a.add i) = some u := by
  obtain ⟨_, hl, hc⟩ := World.cells?_some h
  intro i u hi
  have hlt : i < cs.length := (List.getElem?_eq_some_iff.1 hi).1
  rw [hc i (by omega), hi]
theorem reads_slice {α : Type} {d : Kd α} {Q : α → Prop} {t e : TypeId} (ht : P.underlying t = some (.slice e)) (hc : P.cellsOf e = d.sz) (he : Reads P W d Q e) :
    Reads P W (Kd.slice e d) (fun xs => xs.length ≤ maxLen ∧ ∀ x ∈ xs, Q x) t := by
  intro H enc fuel cs x h
  rcases open_slice ht h with ⟨rfl, _⟩ | ⟨a, len, cap, m, n, D, Pl, rfl, _, hl, hm, hmm, _, hx⟩
  · exact ⟨[], ⟨none, 0, rfl, Nat.le_refl _, ⟨rfl, by simp, fun h => absurd h (by simp)⟩⟩, by simp⟩
  · have hml : m = cap := by simpa using hmm
    have hy : ∀ i : Fin len, ∃ y, (∃ cs', cs'.length = d.sz ∧ d.K W y cs' ∧ ∀ j u, cs'[j]? = some u → W.cell? (a.add (i.1 * d.sz + j)) = some u) ∧ Q y := by
      intro i
      obtain ⟨cs', h1, h2⟩ := hx i.1 (by omega)
      obtain ⟨y, hk, hq⟩ := he H enc n cs' _ h2
      refine ⟨y, ⟨cs', d.K_len hk, hk, fun j u hj => ?_⟩, hq⟩
      have := cells_at h1 j u hj
      rwa [hc, Addr.add_add] at this
    have hf : ∃ f : Fin len → α, ∀ i, (∃ cs', cs'.length = d.sz ∧ d.K W (f i) cs' ∧ ∀ j u, cs'[j]? = some u → W.cell? (a.add (i.1 * d.sz + j)) = some u) ∧ Q (f i) := ⟨fun i => Classical.choose (hy i), fun i => Classical.choose_spec (hy i)⟩
    obtain ⟨f, hf⟩ := hf
    refine ⟨List.ofFn f, ⟨some a, cap, by simp, by simpa using hl, ⟨rfl, by simp [maxLen] at hm ⊢; omega, fun _ => ⟨a, rfl, fun j p hj => ?_⟩⟩⟩, by simpa using Nat.le_trans hl hm, fun y hy => ?_⟩
    · obtain ⟨hlt, rfl⟩ := List.getElem?_eq_some_iff.1 hj
      have hjl : j < len := by simpa using hlt
      rw [List.getElem_ofFn]
      exact (hf ⟨j, hjl⟩).1
    · obtain ⟨j, hj, rfl⟩ := List.getElem_of_mem hy
      rw [List.getElem_ofFn]
      exact (hf _).2
theorem pair_mk {α β : Type} {a : Kd α} {b : Kd β} {x : α} {y : β} {cs : List Value} (s : Nat) (h0 : a.K W x (cs.take s)) (h1 : b.K W y (cs.drop s)) : (Kd.pair a b).K W (x, y) cs :=
  ⟨cs.take s, cs.drop s, (List.take_append_drop s cs).symm, h0, h1⟩
theorem field_at {α : Type} {d : Kd α} {Q : α → Prop} {fs : Array Field} {H : Type} {enc : TypeId × Value → H} {n : Nat} {cs : List Value} {xs : List (DataW H × List MemPlace)} (hl : xs.length = fs.size)
    (hf : ∀ (i : Nat) (f : Field), fs[i]? = some f → DataW.trod enc P W 0 (fun _ => true) true n f.type ((cs.drop f.offset).take (P.cellsOf f.type)) = xs[i]?)
    (i : Nat) {f : Field} (hi : fs[i]? = some f) {t off sz : Nat} (ht : f.type = t) (ho : f.offset = off) (hc : P.cellsOf t = sz) (hr : Reads P W d Q t) : ∃ y, d.K W y ((cs.drop off).take sz) ∧ Q y := by
  subst ht ho hc
  have h := hf i f hi
  have hlt : i < xs.length := by rw [hl]; exact (Array.getElem?_eq_some_iff.1 hi).1
  rw [List.getElem?_eq_getElem hlt] at h
  exact hr H enc n _ _ h
end
end Go.Proofs.YtnphnhkinjppjaaGreatDoor.Read
end

section
namespace Go.Proofs.YtnphnhkinjppjaaGreatDoor.Q
open Go.RowKit Go.Proofs.YtnphnhkinjppjaaGreatDoorW.PrintWords Go.Proofs.YtnphnhkinjppjaaGreatDoor.Read
def q31 (x : S31) : Prop := True ∧ (Lit.int .u64 x.f1).wf = true ∧ (Lit.int .u64 x.f2).wf = true
theorem reads_k31 (W : World) : Reads Tryz.prog W k31 q31 31 := by
  intro H enc fuel cs x h
  obtain ⟨xs, n, rfl, _, hcl, hxl, hf⟩ := DataW.trod_struct Tryz.underlying31 h
  have hc : cs.length = 3 := hcl.trans (by kernel_rfl)
  obtain ⟨y0, h0, g0⟩ := field_at hxl hf 0 rfl (t := 4) (off := 0) (sz := 1) rfl rfl (by kernel_rfl) (reads_bool Tryz.underlying4)
  obtain ⟨y1, h1, g1⟩ := field_at hxl hf 1 rfl (t := 29) (off := 1) (sz := 1) rfl rfl (by kernel_rfl) (reads_int Tryz.underlying29)
  obtain ⟨y2, h2, g2⟩ := field_at hxl hf 2 rfl (t := 29) (off := 2) (sz := 1) rfl rfl (by kernel_rfl) (reads_int Tryz.underlying29)
  refine ⟨⟨y0, y1, y2⟩, ?_, ⟨g0, g1, g2⟩⟩
  rw [show (cs.drop 0).take 1 = (cs.drop 0).take 1 from rfl] at h0
  rw [show (cs.drop 1).take 1 = (cs.drop 1).take 1 from rfl] at h1
  rw [show (cs.drop 2).take 1 = (cs.drop 2) from List.take_of_length_le (by rw [List.length_drop, hc]; decide)] at h2
  skip
  simp only [show 2 = 1 + 1 from rfl, ← List.drop_drop] at h2
  have e0 : cs.drop 0 = cs := rfl
  rw [e0] at h0
  exact pair_mk (a := Kd.bool) 1 h0 (pair_mk (a := (Kd.int .u64)) 1 h1 (h2))
def q33 (x : S33) : Prop := q31 x.f0 ∧ (Lit.int .i64 x.f1).wf = true
theorem reads_k33 (W : World) : Reads Tryz.prog W k33 q33 33 := by
  intro H enc fuel cs x h
  obtain ⟨xs, n, rfl, _, hcl, hxl, hf⟩ := DataW.trod_struct Tryz.underlying33 h
  have hc : cs.length = 4 := hcl.trans (by kernel_rfl)
  obtain ⟨y0, h0, g0⟩ := field_at hxl hf 0 rfl (t := 31) (off := 0) (sz := 3) rfl rfl (by kernel_rfl) (reads_k31 W)
  obtain ⟨y1, h1, g1⟩ := field_at hxl hf 1 rfl (t := 3) (off := 3) (sz := 1) rfl rfl (by kernel_rfl) (reads_int Tryz.underlying3)
  refine ⟨⟨y0, y1⟩, ?_, ⟨g0, g1⟩⟩
  rw [show (cs.drop 0).take 3 = (cs.drop 0).take 3 from rfl] at h0
  rw [show (cs.drop 3).take 1 = (cs.drop 3) from List.take_of_length_le (by rw [List.length_drop, hc]; decide)] at h1
  skip
  have e0 : cs.drop 0 = cs := rfl
  rw [e0] at h0
  exact pair_mk (a := k31) 3 h0 (h1)
def q74 (x : S74) : Prop := (Lit.int .i64 x.f0).wf = true ∧ (Lit.int .i64 x.f1).wf = true ∧ (Lit.int .i64 x.f2).wf = true
theorem reads_k74 (W : World) : Reads Tryz.prog W k74 q74 74 := by
  intro H enc fuel cs x h
  obtain ⟨xs, n, rfl, _, hcl, hxl, hf⟩ := DataW.trod_struct Tryz.underlying74 h
  have hc : cs.length = 3 := hcl.trans (by kernel_rfl)
  obtain ⟨y0, h0, g0⟩ := field_at hxl hf 0 rfl (t := 3) (off := 0) (sz := 1) rfl rfl (by kernel_rfl) (reads_int Tryz.underlying3)
  obtain ⟨y1, h1, g1⟩ := field_at hxl hf 1 rfl (t := 3) (off := 1) (sz := 1) rfl rfl (by kernel_rfl) (reads_int Tryz.underlying3)
  obtain ⟨y2, h2, g2⟩ := field_at hxl hf 2 rfl (t := 3) (off := 2) (sz := 1) rfl rfl (by kernel_rfl) (reads_int Tryz.underlying3)
  refine ⟨⟨y0, y1, y2⟩, ?_, ⟨g0, g1, g2⟩⟩
  rw [show (cs.drop 0).take 1 = (cs.drop 0).take 1 from rfl] at h0
  rw [show (cs.drop 1).take 1 = (cs.drop 1).take 1 from rfl] at h1
  rw [show (cs.drop 2).take 1 = (cs.drop 2) from List.take_of_length_le (by rw [List.length_drop, hc]; decide)] at h2
  skip
  simp only [show 2 = 1 + 1 from rfl, ← List.drop_drop] at h2
  have e0 : cs.drop 0 = cs := rfl
  rw [e0] at h0
  exact pair_mk (a := (Kd.int .i64)) 1 h0 (pair_mk (a := (Kd.int .i64)) 1 h1 (h2))
def q36 (x : S36) : Prop := x.f0.size ≤ maxLen ∧ q33 x.f1 ∧ (Lit.int .i64 x.f2).wf = true ∧ (Lit.int .i64 x.f3).wf = true ∧ (Lit.int .i64 x.f4).wf = true ∧ (Lit.int .i64 x.f5).wf = true ∧ True ∧ (Lit.int .i64 x.f7).wf = true ∧ (x.f8.length ≤ maxLen ∧ ∀ y ∈ x.f8, q74 y)
theorem reads_k36 (W : World) : Reads Tryz.prog W k36 q36 36 := by
  intro H enc fuel cs x h
  obtain ⟨xs, n, rfl, _, hcl, hxl, hf⟩ := DataW.trod_struct Tryz.underlying36 h
  have hc : cs.length = 12 := hcl.trans (by kernel_rfl)
  obtain ⟨y0, h0, g0⟩ := field_at hxl hf 0 rfl (t := 9) (off := 0) (sz := 1) rfl rfl (by kernel_rfl) (reads_string Tryz.underlying9)
  obtain ⟨y1, h1, g1⟩ := field_at hxl hf 1 rfl (t := 33) (off := 1) (sz := 4) rfl rfl (by kernel_rfl) (reads_k33 W)
  obtain ⟨y2, h2, g2⟩ := field_at hxl hf 2 rfl (t := 3) (off := 5) (sz := 1) rfl rfl (by kernel_rfl) (reads_int Tryz.underlying3)
  obtain ⟨y3, h3, g3⟩ := field_at hxl hf 3 rfl (t := 3) (off := 6) (sz := 1) rfl rfl (by kernel_rfl) (reads_int Tryz.underlying3)
  obtain ⟨y4, h4, g4⟩ := field_at hxl hf 4 rfl (t := 3) (off := 7) (sz := 1) rfl rfl (by kernel_rfl) (reads_int Tryz.underlying3)
  obtain ⟨y5, h5, g5⟩ := field_at hxl hf 5 rfl (t := 3) (off := 8) (sz := 1) rfl rfl (by kernel_rfl) (reads_int Tryz.underlying3)
  obtain ⟨y6, h6, g6⟩ := field_at hxl hf 6 rfl (t := 4) (off := 9) (sz := 1) rfl rfl (by kernel_rfl) (reads_bool Tryz.underlying4)
  obtain ⟨y7, h7, g7⟩ := field_at hxl hf 7 rfl (t := 3) (off := 10) (sz := 1) rfl rfl (by kernel_rfl) (reads_int Tryz.underlying3)
  obtain ⟨y8, h8, g8⟩ := field_at hxl hf 8 rfl (t := 34) (off := 11) (sz := 1) rfl rfl (by kernel_rfl) (reads_slice Tryz.underlying34 (by kernel_rfl) (reads_k74 W))
  refine ⟨⟨y0, y1, y2, y3, y4, y5, y6, y7, y8⟩, ?_, ⟨g0, g1, g2, g3, g4, g5, g6, g7, g8⟩⟩
  rw [show (cs.drop 0).take 1 = (cs.drop 0).take 1 from rfl] at h0
  rw [show (cs.drop 1).take 4 = (cs.drop 1).take 4 from rfl] at h1
  rw [show (cs.drop 5).take 1 = (cs.drop 5).take 1 from rfl] at h2
  rw [show (cs.drop 6).take 1 = (cs.drop 6).take 1 from rfl] at h3
  rw [show (cs.drop 7).take 1 = (cs.drop 7).take 1 from rfl] at h4
  rw [show (cs.drop 8).take 1 = (cs.drop 8).take 1 from rfl] at h5
  rw [show (cs.drop 9).take 1 = (cs.drop 9).take 1 from rfl] at h6
  rw [show (cs.drop 10).take 1 = (cs.drop 10).take 1 from rfl] at h7
  rw [show (cs.drop 11).take 1 = (cs.drop 11) from List.take_of_length_le (by rw [List.length_drop, hc]; decide)] at h8
  skip
  simp only [show 5 = 1 + 4 from rfl, ← List.drop_drop] at h2
  simp only [show 6 = 1 + 4 + 1 from rfl, ← List.drop_drop] at h3
  simp only [show 7 = 1 + 4 + 1 + 1 from rfl, ← List.drop_drop] at h4
  simp only [show 8 = 1 + 4 + 1 + 1 + 1 from rfl, ← List.drop_drop] at h5
  simp only [show 9 = 1 + 4 + 1 + 1 + 1 + 1 from rfl, ← List.drop_drop] at h6
  simp only [show 10 = 1 + 4 + 1 + 1 + 1 + 1 + 1 from rfl, ← List.drop_drop] at h7
  simp only [show 11 = 1 + 4 + 1 + 1 + 1 + 1 + 1 + 1 from rfl, ← List.drop_drop] at h8
  have e0 : cs.drop 0 = cs := rfl
  rw [e0] at h0
  exact pair_mk (a := Kd.string) 1 h0 (pair_mk (a := k33) 4 h1 (pair_mk (a := (Kd.int .i64)) 1 h2 (pair_mk (a := (Kd.int .i64)) 1 h3 (pair_mk (a := (Kd.int .i64)) 1 h4 (pair_mk (a := (Kd.int .i64)) 1 h5 (pair_mk (a := Kd.bool) 1 h6 (pair_mk (a := (Kd.int .i64)) 1 h7 (h8))))))))
end Go.Proofs.YtnphnhkinjppjaaGreatDoor.Q
end

section
namespace Go.Proofs.YtnphnhkinjppjaaGreatDoor.Q
open Go.RowKit Go.Proofs.YtnphnhkinjppjaaGreatDoorW.PrintWords Go.Proofs.YtnphnhkinjppjaaGreatDoorW.PrintLast Go.Proofs.YtnphnhkinjppjaaGreatDoorW.PrintMore
attribute [local go_sem] max2_int min2_int max_two min_two max_three min_three max_four min_four
attribute [local go_sem high] eqA31
def r06_Contains.f (k : Nat) (a0_0 : Bool) (a0_1 : Int) (a0_2 : Int) (a0_3 : Int) (a1_0 : Bool) (a1_1 : Int) (a1_2 : Int) : Option (Bool) := if (a0_0 == a1_0) = true then ((r06_with.f k a1_0 a1_1 a1_2 a0_3 false).bind fun bt726 => (some (bt726.1 == a0_0 && (bt726.2.1 == a0_1 && (bt726.2.2 == a0_2))))) else (some false)
theorem r06_Contains.mono : ∀ a0 a1 a2 a3 a4 a5 a6 k, LeO (r06_Contains.f k a0 a1 a2 a3 a4 a5 a6) (r06_Contains.f (k + 1) a0 a1 a2 a3 a4 a5 a6) := by
  intro a0 a1 a2 a3 a4 a5 a6 k
  unfold r06_Contains.f
  repeat' first
      | (with_reducible exact r06_with.mono _ _ _ _ _ _)
      | (with_reducible exact LeO.refl _)
      | (with_reducible exact LeO.none _)
      | (with_reducible refine LeO.ite ?_ ?_)
      | (with_reducible refine LeO.bind ?_ (fun _ => ?_))
end Go.Proofs.YtnphnhkinjppjaaGreatDoor.Q
end

section
namespace Go.Proofs.YtnphnhkinjppjaaGreatDoor.Q
open Go.RowKit Go.Proofs.YtnphnhkinjppjaaGreatDoorW.PrintWords Go.Proofs.YtnphnhkinjppjaaGreatDoorW.PrintLast Go.Proofs.YtnphnhkinjppjaaGreatDoorW.PrintMore
abbrev Ad := S31
def AW (a : Ad) : Prop := 0 ≤ a.f1 ∧ a.f1 < 18446744073709551616 ∧ 0 ≤ a.f2 ∧ a.f2 < 18446744073709551616
def av (a : Ad) : Int := (if a.f0 = true then 680564733841876926926749214863536422912 else 0) + a.f1 * 18446744073709551616 + a.f2
def AF (a : Ad) : Prop := AW a ∧ (a.f0 = true ∨ (a.f1 = 0 ∧ a.f2 ≤ 4294967295))
theorem wf_u64 {n : Int} (h : (Lit.int .u64 n).wf = true) : 0 ≤ n ∧ n < 18446744073709551616 := by
  simp only [Lit.wf, Bool.and_eq_true, decide_eq_true_eq] at h
  have e1 : IntKind.u64.min = 0 := by decide
  have e2 : IntKind.u64.max = 18446744073709551615 := by decide
  rw [e1, e2] at h
  omega
theorem aw_of {a : Ad} (h : q31 a) : AW a := by
  obtain ⟨_, h1, h2⟩ := h
  have := wf_u64 h1
  have := wf_u64 h2
  exact ⟨by omega, by omega, by omega, by omega⟩
def adB (a : Ad) : Bool := a.f0 || (decide (a.f1 = 0) && decide (a.f2 ≤ 4294967295))
theorem fine_eq (a : Ad) : address_Valid.f a.f0 a.f1 a.f2 = some (adB a) := by
  unfold address_Valid.f adB
  cases a.f0
  · by_cases h : a.f1 = 0 <;> simp [h]
  · simp
theorem rfine_eq (a : Ad) : r06_Valid.f a.f0 a.f1 a.f2 = some (adB a) := by
  unfold r06_Valid.f adB
  cases a.f0
  · by_cases h : a.f1 = 0
    · simp [h]; omega
    · simp [h]
  · simp
theorem fine_iff {a : Ad} (ha : AW a) : adB a = true ↔ AF a := by
  unfold adB AF
  simp only [Bool.or_eq_true, Bool.and_eq_true, decide_eq_true_eq]
  exact ⟨fun h => ⟨ha, h⟩, fun h => h.2⟩
theorem AF.num {a : Ad} (h : AF a) : (a.f0 = false ∧ 0 ≤ av a ∧ av a ≤ 4294967295) ∨ (a.f0 = true ∧ 680564733841876926926749214863536422912 ≤ av a ∧ av a < 1020847100762815390390123822295304634368) := by
  obtain ⟨⟨h1, h2, h3, h4⟩, h5⟩ := h
  obtain ⟨a0, a1, a2⟩ := a
  unfold av
  cases a0 <;> simp at h1 h2 h3 h4 h5 ⊢ <;> omega
theorem u64_id {n : Int} (h0 : 0 ≤ n) (h1 : n < 18446744073709551616) : IntKind.u64.wrap n = n := IntWalk.u64_in n ⟨h0, by omega⟩
instance decAd : DecidableEq Ad := fun a b => decidable_of_iff (a.f0 = b.f0 ∧ a.f1 = b.f1 ∧ a.f2 = b.f2) ⟨fun h => by cases a; cases b; simp at h; simp [h], fun h => by rw [h]; exact ⟨rfl, rfl, rfl⟩⟩
theorem ends_eq (x y : Ad) : (x.f0 == y.f0 && (x.f1 == y.f1 && x.f2 == y.f2)) = decide (x = y) := by
  obtain ⟨x0, x1, x2⟩ := x
  obtain ⟨y0, y1, y2⟩ := y
  rw [Bool.eq_iff_iff]
  simp only [Bool.and_eq_true, beq_iff_eq, decide_eq_true_eq, Ad, S31.mk.injEq]
theorem wid {x : Int} (h0 : -9223372036854775808 ≤ x) (h1 : x ≤ 9223372036854775807) : wrap64 x = x := by unfold wrap64; omega
theorem xor_one (q : Nat) : q ^^^ 1 = if q % 2 = 1 then q - 1 else q + 1 := by
  have a1 : (q ^^^ 1) / 2 = q / 2 := by
    have := @Nat.xor_div_two_pow q 1 1
    simpa using this
  have a2 : (q ^^^ 1) % 2 = 1 - q % 2 := by
    have := @Nat.xor_mod_two_pow q 1 1
    rw [show 2 ^ 1 = 2 from rfl] at this
    rw [this]
    rcases Nat.mod_two_eq_zero_or_one q with h | h <;> rw [h] <;> rfl
  by_cases h : q % 2 = 1
  · rw [if_pos h]; omega
  · rw [if_neg h]; omega
theorem xor_bit (n j : Nat) : n ^^^ 2 ^ j = if (n / 2 ^ j) % 2 = 1 then n - 2 ^ j else n + 2 ^ j := by
  have h1 : (n ^^^ 2 ^ j) % 2 ^ j = n % 2 ^ j := by rw [Nat.xor_mod_two_pow]; simp
  have h2 : (n ^^^ 2 ^ j) / 2 ^ j = (n / 2 ^ j) ^^^ 1 := by rw [Nat.xor_div_two_pow, Nat.div_self (Nat.pow_pos (by decide))]
  have d1 := Nat.div_add_mod (n ^^^ 2 ^ j) (2 ^ j)
  have d2 := Nat.div_add_mod n (2 ^ j)
  rw [h1, h2, xor_one] at d1
  by_cases h : (n / 2 ^ j) % 2 = 1
  · rw [if_pos h] at d1 ⊢
    have g : 0 < n / 2 ^ j := Nat.pos_of_ne_zero (fun e => by rw [e] at h; exact absurd h (by decide))
    generalize n / 2 ^ j = q at *
    generalize 2 ^ j = p at *
    rw [Nat.mul_sub, Nat.mul_one] at d1
    have : p ≤ p * q := Nat.le_mul_of_pos_right _ g
    omega
  · rw [if_neg h] at d1 ⊢
    rw [Nat.mul_add, Nat.mul_one] at d1
    omega
def setN (n k : Nat) (b : Bool) : Nat := n - n % 2 ^ k + (if b then 2 ^ k - 1 else 0)
def flipN (n j : Nat) (b : Bool) : Nat := if ((n / 2 ^ j) % 2 == 1) = b then n else n ^^^ 2 ^ j
theorem setN_flip (n j : Nat) (b : Bool) : setN (flipN n j b) j b = setN n (j + 1) b := by
  have hp : 0 < 2 ^ j := Nat.pow_pos (by decide)
  have d2 := Nat.div_add_mod n (2 ^ j)
  have hl := Nat.mod_lt n hp
  have e1 : n % 2 ^ (j + 1) = n % 2 ^ j + 2 ^ j * ((n / 2 ^ j) % 2) := by rw [Nat.pow_succ, Nat.mod_mul]
  have hle : n % 2 ^ (j + 1) ≤ n := Nat.mod_le _ _
  have f1 : ∀ q : Nat, (2 ^ j * q + n % 2 ^ j) % 2 ^ j = n % 2 ^ j := fun q => by rw [Nat.mul_add_mod]; exact Nat.mod_mod _ _
  unfold setN flipN
  rw [xor_bit, e1, Nat.pow_succ]
  have f2 := f1 (n / 2 ^ j - 1)
  have f3 := f1 (n / 2 ^ j + 1)
  generalize hq : n / 2 ^ j = q at *
  generalize hr : n % 2 ^ j = r at *
  generalize 2 ^ j = p at *
  rcases Nat.mod_two_eq_zero_or_one q with h | h
  · rw [h]
    cases b
    · simp [hr]
    · simp only [show ((0 : Nat) == 1) = false from rfl, Bool.false_eq_true, if_false, if_true, show ¬ (0 = 1) from by omega]
      rw [Nat.mul_add, Nat.mul_one] at f3
      rw [show p * q + p + r = n + p from by omega] at f3
      rw [f3]
      omega
  · rw [h]
    have hq1 : 0 < q := by omega
    have hpq : p ≤ p * q := Nat.le_mul_of_pos_right _ hq1
    cases b
    · simp only [show ((1 : Nat) == 1) = true from rfl, if_true, Bool.false_eq_true, if_false, reduceCtorEq]
      rw [Nat.mul_sub, Nat.mul_one] at f2
      rw [show p * q - p + r = n - p from by omega] at f2
      rw [f2]
      omega
    · simp only [show ((1 : Nat) == 1) = true from rfl, if_true]
      rw [hr]
      omega
theorem ofInt_toNat (x : Nat) (h : x < 18446744073709551616) : (BitVec.ofInt 64 (x : Int)).toNat = x := by
  rw [BitVec.toNat_ofInt]
  simp
  omega
theorem pow_le64 (n : Nat) (hn : n ≤ 64) : 2 ^ n ≤ 18446744073709551616 := Nat.le_trans (Nat.pow_le_pow_right (by decide) hn) (by decide)
theorem bits_and (x n : Nat) (hx : x < 18446744073709551616) (hn : n ≤ 64) : Go.bits .and .u64 (x : Int) ((2 ^ n - 1 : Nat) : Int) = ((x % 2 ^ n : Nat) : Int) := by
  have hp := pow_le64 n hn
  have hpos : 0 < 2 ^ n := Nat.pow_pos (by decide)
  unfold Go.bits
  show IntKind.u64.wrap ((((BitVec.ofInt 64 (x : Int)) &&& (BitVec.ofInt 64 ((2 ^ n - 1 : Nat) : Int))).toNat : Nat) : Int) = _
  rw [BitVec.toNat_and, ofInt_toNat x hx, ofInt_toNat _ (by omega), Nat.and_two_pow_sub_one_eq_mod]
  have := Nat.mod_le x (2 ^ n)
  exact u64_id (by omega) (by omega)
theorem shl_one (n : Nat) (hn : n < 64) : IntKind.u64.wrap ((shl .u64 1 (n : Int)) - 1) = ((2 ^ n - 1 : Nat) : Int) := by
  have hp : 2 ^ n ≤ 9223372036854775808 := Nat.le_trans (Nat.pow_le_pow_right (by decide) (show n ≤ 63 by omega)) (by decide)
  have hpos : 0 < 2 ^ n := Nat.pow_pos (by decide)
  have e : shl .u64 1 (n : Int) = ((2 ^ n : Nat) : Int) := by
    unfold shl
    rw [show min (n : Int).toNat IntKind.u64.bits = n from by show min n 64 = n; omega]
    rw [Int.one_mul, show (2 : Int) ^ n = ((2 ^ n : Nat) : Int) from by simp]
    exact u64_id (by omega) (by omega)
  rw [e]
  rw [u64_id (by omega) (by omega)]
  omega
def hiM (k : Nat) : Int := ((2 ^ (k - 64) - 1 : Nat) : Int)
def loM (k : Nat) : Int := ((2 ^ (min k 64) - 1 : Nat) : Int)
def szA (f : Bool) : Nat := if f then 128 else 32
theorem low_eq (n : Int) (h : n ≤ 1000) : address_low.f n = some (((2 ^ (min n.toNat 64) - 1 : Nat)) : Int) := by
  unfold address_low.f
  by_cases h1 : n ≥ 64
  · rw [if_pos h1, show min n.toNat 64 = 64 from by omega]
    rfl
  · rw [if_neg h1]
    by_cases h2 : n ≤ 0
    · rw [if_pos h2, show min n.toNat 64 = 0 from by omega]
      rfl
    · rw [if_neg h2, if_pos (by omega), show min n.toNat 64 = n.toNat from by omega]
      have := shl_one n.toNat (by omega)
      rw [show ((n.toNat : Nat) : Int) = n from by omega] at this
      rw [this]
theorem size_eq (a : Ad) : address_size.f a.f0 a.f1 a.f2 = some ((szA a.f0 : Nat) : Int) := by
  unfold address_size.f szA
  cases a.f0 <;> rfl
theorem mask_eq (a : Ad) (b : Int) (k : Nat) (hk : (k : Int) = (szA a.f0 : Int) - b) (h0 : 0 ≤ b) (h1 : b ≤ szA a.f0) : address_mask.f a.f0 a.f1 a.f2 b = some (hiM k, loM k) := by
  have hs : szA a.f0 ≤ 128 := by unfold szA; split <;> omega
  unfold address_mask.f
  rw [size_eq]
  simp only [Option.bind_some]
  rw [wid (x := (szA a.f0 : Int) - b) (by omega) (by omega), ← hk, wid (x := (k : Int) - 64) (by omega) (by omega), low_eq _ (by omega), low_eq _ (by omega)]
  simp only [Option.bind_some]
  unfold hiM loM
  rw [show min ((k : Int) - 64).toNat 64 = k - 64 from by omega, show min ((k : Nat) : Int).toNat 64 = min k 64 from by omega]
theorem setN_le {n k m : Nat} (b : Bool) (hn : n < 2 ^ m) (hk : k ≤ m) : setN n k b < 2 ^ m := by
  have hp : 0 < 2 ^ k := Nat.pow_pos (by decide)
  have d2 := Nat.div_add_mod n (2 ^ k)
  have hl := Nat.mod_lt n hp
  have e : 2 ^ m = 2 ^ k * 2 ^ (m - k) := by rw [← Nat.pow_add, show k + (m - k) = m from by omega]
  have h1 : n / 2 ^ k < 2 ^ (m - k) := Nat.div_lt_of_lt_mul (by rw [← e]; exact hn)
  have h2 : 2 ^ k * (n / 2 ^ k + 1) ≤ 2 ^ k * 2 ^ (m - k) := Nat.mul_le_mul_left _ h1
  rw [Nat.mul_add, Nat.mul_one, ← e] at h2
  unfold setN
  split <;> omega
theorem bits_xor (x j : Nat) (hx : x < 18446744073709551616) (hj : j < 64) : Go.bits .xor .u64 (x : Int) ((2 ^ j : Nat) : Int) = ((x ^^^ 2 ^ j : Nat) : Int) := by
  have hp : 2 ^ j < 18446744073709551616 := Nat.lt_of_le_of_lt (Nat.pow_le_pow_right (by decide) (show j ≤ 63 by omega)) (by decide)
  have hl : (x ^^^ 2 ^ j) < 2 ^ 64 := Nat.xor_lt_two_pow hx hp
  unfold Go.bits
  show IntKind.u64.wrap ((((BitVec.ofInt 64 (x : Int)) ^^^ (BitVec.ofInt 64 ((2 ^ j : Nat) : Int))).toNat : Nat) : Int) = _
  rw [BitVec.toNat_xor, ofInt_toNat x hx, ofInt_toNat _ hp]
  exact u64_id (by omega) (by omega)
theorem shl_pow (j : Nat) (hj : j < 64) : shl .u64 1 (j : Int) = ((2 ^ j : Nat) : Int) := by
  have hp : 2 ^ j < 18446744073709551616 := Nat.lt_of_le_of_lt (Nat.pow_le_pow_right (by decide) (show j ≤ 63 by omega)) (by decide)
  unfold shl
  rw [show min (j : Int).toNat IntKind.u64.bits = j from by show min j 64 = j; omega]
  rw [Int.one_mul, show (2 : Int) ^ j = ((2 ^ j : Nat) : Int) from by simp]
  exact u64_id (Int.natCast_nonneg _) (Int.ofNat_lt.2 hp)
theorem shr_bit (x j : Nat) (hx : x < 18446744073709551616) (hj : j < 64) : (Go.bits .and .u64 (shr .u64 (x : Int) (j : Int)) 1 == 1) = ((x / 2 ^ j) % 2 == 1) := by
  unfold shr
  rw [show min (j : Int).toNat IntKind.u64.bits = j from by show min j 64 = j; omega]
  rw [show (x : Int) / 2 ^ j = ((x / 2 ^ j : Nat) : Int) from by simp]
  have h := bits_and (x / 2 ^ j) 1 (Nat.lt_of_le_of_lt (Nat.div_le_self _ _) hx) (by decide)
  rw [show ((2 ^ 1 - 1 : Nat) : Int) = 1 from rfl] at h
  rw [h, show (2 : Nat) ^ 1 = 2 from rfl]
  rw [Bool.eq_iff_iff, beq_iff_eq, beq_iff_eq]
  omega
def nv (a : Ad) : Nat := a.f1.toNat * 18446744073709551616 + a.f2.toNat
def mkN (f : Bool) (n : Nat) : Ad := ⟨f, ((n / 18446744073709551616 : Nat) : Int), ((n % 18446744073709551616 : Nat) : Int)⟩
theorem mkN_nv {a : Ad} (h : AW a) : mkN a.f0 (nv a) = a := by
  obtain ⟨h1, h2, h3, h4⟩ := h
  obtain ⟨a0, a1, a2⟩ := a
  simp only at h1 h2 h3 h4
  unfold mkN nv
  simp only [Ad, S31.mk.injEq, true_and]
  exact ⟨by omega, by omega⟩
theorem nv_mkN (f : Bool) (n : Nat) : nv (mkN f n) = n := by unfold nv mkN; simp only [Int.toNat_natCast]; omega
theorem mkN_f0 (f : Bool) (n : Nat) : (mkN f n).f0 = f := rfl
theorem mkN_aw (f : Bool) {n : Nat} (h : n < 340282366920938463463374607431768211456) : AW (mkN f n) := by
  unfold AW mkN
  exact ⟨by simp; omega, by simp; omega, by simp; omega, by simp; omega⟩
theorem szA_cases (f : Bool) : szA f = 128 ∧ f = true ∨ szA f = 32 ∧ f = false := by cases f <;> simp [szA]
theorem AF.nvlt {a : Ad} (h : AF a) : nv a < 2 ^ szA a.f0 := by
  obtain ⟨⟨h1, h2, h3, h4⟩, h5⟩ := h
  unfold nv
  rcases szA_cases a.f0 with ⟨e, e2⟩ | ⟨e, e2⟩ <;> rw [e]
  · rw [show (2 : Nat) ^ 128 = 340282366920938463463374607431768211456 from by decide]; omega
  · rw [show (2 : Nat) ^ 32 = 4294967296 from by decide]
    rcases h5 with h5 | h5
    · rw [e2] at h5; cases h5
    · omega
theorem mkN_af {f : Bool} {n : Nat} (h : n < 2 ^ szA f) : AF (mkN f n) := by
  rcases szA_cases f with ⟨e, e2⟩ | ⟨e, e2⟩ <;> rw [e] at h
  · rw [show (2 : Nat) ^ 128 = 340282366920938463463374607431768211456 from by decide] at h
    exact ⟨mkN_aw f h, .inl e2⟩
  · rw [show (2 : Nat) ^ 32 = 4294967296 from by decide] at h
    exact ⟨mkN_aw f (by omega), .inr ⟨by unfold mkN; simp; omega, by unfold mkN; simp; omega⟩⟩
def subA (a : Ad) (k : Nat) (b : Bool) : Ad := mkN a.f0 (setN (nv a) k b)
theorem setN_parts (x y k : Nat) (hy : y < 18446744073709551616) (hk : k ≤ 128) (b : Bool) : setN (x * 18446744073709551616 + y) k b / 18446744073709551616 = setN x (k - 64) b ∧ setN (x * 18446744073709551616 + y) k b % 18446744073709551616 = setN y (min k 64) b := by
  by_cases h : k ≤ 64
  · rw [show k - 64 = 0 from by omega, show min k 64 = k from by omega]
    have e : 18446744073709551616 = 2 ^ k * 2 ^ (64 - k) := by rw [← Nat.pow_add, show k + (64 - k) = 64 from by omega]
    have hm : (x * 18446744073709551616 + y) % 2 ^ k = y % 2 ^ k := by
      rw [e, show x * (2 ^ k * 2 ^ (64 - k)) + y = 2 ^ k * (x * 2 ^ (64 - k)) + y from by rw [Nat.mul_left_comm], Nat.mul_add_mod]
    have hl := setN_le (m := 64) b hy h
    unfold setN at hl ⊢
    rw [hm]
    have hle := Nat.mod_le y (2 ^ k)
    have e0 : x % 2 ^ 0 = 0 := by rw [Nat.pow_zero]; omega
    rw [e0, Nat.pow_zero]
    generalize y % 2 ^ k = r at *
    generalize 2 ^ k = p at *
    rw [show (2 : Nat) ^ 64 = 18446744073709551616 from by decide] at hl
    cases b
    · simp only [Bool.false_eq_true, if_false] at hl ⊢
      omega
    · simp only [if_true] at hl ⊢
      omega
  · rw [show min k 64 = 64 from by omega]
    have e : 2 ^ k = 18446744073709551616 * 2 ^ (k - 64) := by rw [show 18446744073709551616 = 2 ^ 64 from by decide, ← Nat.pow_add, show 64 + (k - 64) = k from by omega]
    have hm : (x * 18446744073709551616 + y) % 2 ^ k = y + 18446744073709551616 * (x % 2 ^ (k - 64)) := by
      rw [e, Nat.mod_mul]
      rw [show (x * 18446744073709551616 + y) % 18446744073709551616 = y from by omega, show (x * 18446744073709551616 + y) / 18446744073709551616 = x from by omega]
    have hp : 0 < 2 ^ (k - 64) := Nat.pow_pos (by decide)
    unfold setN
    rw [hm, e, show y % 2 ^ 64 = y from Nat.mod_eq_of_lt hy]
    have hle := Nat.mod_le x (2 ^ (k - 64))
    generalize x % 2 ^ (k - 64) = r at *
    generalize 2 ^ (k - 64) = p at *
    rw [show (2 : Nat) ^ 64 = 18446744073709551616 from by decide]
    cases b
    · simp only [Bool.false_eq_true, if_false]
      omega
    · simp only [if_true]
      omega
theorem subA_eq {a : Ad} (h : AW a) {k : Nat} (hk : k ≤ 128) (b : Bool) : subA a k b = ⟨a.f0, ((setN a.f1.toNat (k - 64) b : Nat) : Int), ((setN a.f2.toNat (min k 64) b : Nat) : Int)⟩ := by
  obtain ⟨h1, h2, h3, h4⟩ := h
  have := setN_parts a.f1.toNat a.f2.toNat k (by omega) hk b
  unfold subA mkN nv
  rw [this.1, this.2]
theorem width_eq (a : Ad) : r06_Width.f a.f0 a.f1 a.f2 = some ((szA a.f0 : Nat) : Int) := by
  unfold r06_Width.f szA
  cases a.f0 <;> rfl
theorem szA_le (f : Bool) : szA f ≤ 128 := by unfold szA; split <;> omega
theorem u64_wr {x : Int} (h0 : 0 ≤ x) (h1 : x ≤ 1000) : IntKind.u64.wrap (wrap64 x) = x := by rw [wid (by omega) (by omega)]; exact u64_id h0 (by omega)
theorem nv_bit_hi (x y j : Nat) (hy : y < 18446744073709551616) : (x * 18446744073709551616 + y) / 2 ^ (64 + j) = x / 2 ^ j := by
  rw [Nat.pow_add, ← Nat.div_div_eq_div_mul, show (2 : Nat) ^ 64 = 18446744073709551616 from by decide, show (x * 18446744073709551616 + y) / 18446744073709551616 = x from by omega]
theorem nv_bit_lo (x y j : Nat) (hj : j < 64) (hy : y < 18446744073709551616) : ((x * 18446744073709551616 + y) / 2 ^ j) % 2 = (y / 2 ^ j) % 2 := by
  have e : 18446744073709551616 = 2 ^ j * (2 * 2 ^ (63 - j)) := by rw [show 2 * 2 ^ (63 - j) = 2 ^ (64 - j) from by rw [show 64 - j = (63 - j) + 1 from by omega, Nat.pow_succ, Nat.mul_comm], ← Nat.pow_add, show j + (64 - j) = 64 from by omega]
  rw [e, show x * (2 ^ j * (2 * 2 ^ (63 - j))) + y = y + 2 ^ j * (2 * (x * 2 ^ (63 - j))) from by rw [Nat.add_comm, Nat.mul_left_comm, Nat.mul_left_comm x 2], Nat.add_mul_div_left _ _ (Nat.pow_pos (by decide)), Nat.add_mul_mod_self_left]
theorem bit_eq {a : Ad} (h : AF a) (r i : Nat) (hr : i + (r + 1) = szA a.f0) : r06_Bit.f a.f0 a.f1 a.f2 (i : Int) = some ((nv a / 2 ^ r) % 2 == 1) := by
  obtain ⟨⟨h1, h2, h3, h4⟩, h5⟩ := h
  obtain ⟨a0, a1, a2⟩ := a
  simp only at h1 h2 h3 h4 h5 hr
  have e1 : ((a1.toNat : Nat) : Int) = a1 := by omega
  have e2 : ((a2.toNat : Nat) : Int) = a2 := by omega
  unfold r06_Bit.f nv
  cases a0
  · have hr : i + (r + 1) = 32 := hr
    simp only [Bool.false_eq_true, if_false]
    rw [u64_wr (by omega) (by omega), if_pos (by omega)]
    have := shr_bit a2.toNat r (by omega) (by omega)
    rw [e2] at this
    rw [show (31 - (i : Int)) = (r : Int) from by omega, this, nv_bit_lo _ _ _ (by omega) (by omega)]
  · have hr : i + (r + 1) = 128 := hr
    simp only [if_true]
    by_cases hi : (i : Int) < 64
    · rw [if_pos hi, u64_wr (by omega) (by omega), if_pos (by omega)]
      obtain ⟨j, rfl⟩ : ∃ j, r = 64 + j := ⟨r - 64, by omega⟩
      have := shr_bit a1.toNat j (by omega) (by omega)
      rw [e1] at this
      rw [show (63 - (i : Int)) = (j : Int) from by omega, this, nv_bit_hi _ _ _ (by omega)]
    · rw [if_neg hi, u64_wr (by omega) (by omega), if_pos (by omega)]
      have := shr_bit a2.toNat r (by omega) (by omega)
      rw [e2] at this
      rw [show (127 - (i : Int)) = (r : Int) from by omega, this, nv_bit_lo _ _ _ (by omega) (by omega)]
theorem xor_hi (x y j : Nat) (hy : y < 18446744073709551616) : (x * 18446744073709551616 + y) ^^^ 2 ^ (64 + j) = (x ^^^ 2 ^ j) * 18446744073709551616 + y := by
  have h1 : ((x * 18446744073709551616 + y) ^^^ 2 ^ (64 + j)) / 2 ^ 64 = x ^^^ 2 ^ j := by
    rw [Nat.xor_div_two_pow, Nat.pow_add, Nat.mul_div_cancel_left _ (Nat.pow_pos (by decide)), show (2 : Nat) ^ 64 = 18446744073709551616 from by decide, show (x * 18446744073709551616 + y) / 18446744073709551616 = x from by omega]
  have h2 : ((x * 18446744073709551616 + y) ^^^ 2 ^ (64 + j)) % 2 ^ 64 = y := by
    rw [Nat.xor_mod_two_pow, Nat.pow_add, Nat.mul_mod_right, Nat.xor_zero, show (2 : Nat) ^ 64 = 18446744073709551616 from by decide]
    omega
  have d1 := Nat.div_add_mod ((x * 18446744073709551616 + y) ^^^ 2 ^ (64 + j)) (2 ^ 64)
  rw [h1, h2] at d1
  rw [← d1, show (2 : Nat) ^ 64 = 18446744073709551616 from by decide, Nat.mul_comm]
theorem xor_lo (x y j : Nat) (hj : j < 64) (hy : y < 18446744073709551616) : (x * 18446744073709551616 + y) ^^^ 2 ^ j = x * 18446744073709551616 + (y ^^^ 2 ^ j) := by
  have hp : 2 ^ j < 2 ^ 64 := Nat.pow_lt_pow_right (by decide) hj
  have h1 : ((x * 18446744073709551616 + y) ^^^ 2 ^ j) / 2 ^ 64 = x := by
    rw [Nat.xor_div_two_pow, Nat.div_eq_of_lt hp, Nat.xor_zero, show (2 : Nat) ^ 64 = 18446744073709551616 from by decide]
    omega
  have h2 : ((x * 18446744073709551616 + y) ^^^ 2 ^ j) % 2 ^ 64 = y ^^^ 2 ^ j := by
    rw [Nat.xor_mod_two_pow, Nat.mod_eq_of_lt hp]
    rw [show (x * 18446744073709551616 + y) % 2 ^ 64 = y from by rw [show (2 : Nat) ^ 64 = 18446744073709551616 from by decide]; omega]
  have d1 := Nat.div_add_mod ((x * 18446744073709551616 + y) ^^^ 2 ^ j) (2 ^ 64)
  rw [h1, h2] at d1
  rw [← d1, show (2 : Nat) ^ 64 = 18446744073709551616 from by decide, Nat.mul_comm]
theorem r_up {i : Nat} (h : i < 1000) : wrap64 ((i : Int) + 1) = ((i + 1 : Nat) : Int) := by rw [wid (by omega) (by omega)]; omega
theorem flip_lo {f : Bool} {x y : Int} {r : Nat} (h1 : 0 ≤ x) (h2 : x < 18446744073709551616) (h3 : 0 ≤ y) (h4 : y < 18446744073709551616) (hr : r < 64) : mkN f ((x.toNat * 18446744073709551616 + y.toNat) ^^^ 2 ^ r) = ⟨f, x, Go.bits .xor .u64 y (shl .u64 1 (r : Int))⟩ := by
  have hl : (y.toNat ^^^ 2 ^ r) < 2 ^ 64 := Nat.xor_lt_two_pow (by omega) (Nat.pow_lt_pow_right (by decide) hr)
  rw [show (2 : Nat) ^ 64 = 18446744073709551616 from by decide] at hl
  have := bits_xor y.toNat r (by omega) hr
  rw [show ((y.toNat : Nat) : Int) = y from by omega] at this
  rw [shl_pow r hr, this]
  unfold mkN
  rw [xor_lo _ _ _ hr (by omega)]
  generalize y.toNat ^^^ 2 ^ r = z at *
  simp only [Ad, S31.mk.injEq, true_and]
  exact ⟨by omega, by omega⟩
theorem flip_hi {f : Bool} {x y : Int} {r : Nat} (h1 : 0 ≤ x) (h2 : x < 18446744073709551616) (h3 : 0 ≤ y) (h4 : y < 18446744073709551616) (hr : r < 64) : mkN f ((x.toNat * 18446744073709551616 + y.toNat) ^^^ 2 ^ (64 + r)) = ⟨f, Go.bits .xor .u64 x (shl .u64 1 (r : Int)), y⟩ := by
  have hl : (x.toNat ^^^ 2 ^ r) < 2 ^ 64 := Nat.xor_lt_two_pow (by omega) (Nat.pow_lt_pow_right (by decide) hr)
  rw [show (2 : Nat) ^ 64 = 18446744073709551616 from by decide] at hl
  have := bits_xor x.toNat r (by omega) hr
  rw [show ((x.toNat : Nat) : Int) = x from by omega] at this
  rw [shl_pow r hr, this]
  unfold mkN
  rw [xor_hi _ _ _ (by omega)]
  generalize x.toNat ^^^ 2 ^ r = z at *
  simp only [Ad, S31.mk.injEq, true_and]
  exact ⟨by omega, by omega⟩
theorem with_flip {b : Bool} {a : Ad} (h : AF a) {r i : Nat} (hr : i + (r + 1) = szA a.f0) (hb : ¬ ((nv a / 2 ^ r) % 2 == 1) = b) (k : Nat) : r06_with.l0 (k + 1) b (i : Int) a.f0 a.f1 a.f2 = r06_with.l0 k b ((i + 1 : Nat) : Int) (mkN a.f0 (nv a ^^^ 2 ^ r)).f0 (mkN a.f0 (nv a ^^^ 2 ^ r)).f1 (mkN a.f0 (nv a ^^^ 2 ^ r)).f2 := by
  have hW := szA_le a.f0
  have hi : (i : Int) < ((szA a.f0 : Nat) : Int) := by omega
  have hwi : wrap64 ((i : Int) + 1) = ((i + 1 : Nat) : Int) := r_up (by omega)
  rw [r06_with.l0, width_eq]
  rw [Option.bind_some]
  rw [if_pos hi, bit_eq h r i hr]
  rw [Option.bind_some]
  rw [if_neg (by rw [beq_iff_eq]; exact hb), hwi]
  clear hb hi hwi
  obtain ⟨⟨h1, h2, h3, h4⟩, h5⟩ := h
  obtain ⟨a0, a1, a2⟩ := a
  unfold nv
  dsimp only at h1 h2 h3 h4 h5 hr hW ⊢
  cases a0
  · have hr : i + (r + 1) = 32 := hr
    rw [if_neg Bool.false_ne_true, u64_wr (by omega) (by omega), if_pos (by omega), show (31 - (i : Int)) = (r : Int) from by omega, flip_lo h1 h2 h3 h4 (by omega)]
  · have hr : i + (r + 1) = 128 := hr
    rw [if_pos rfl]
    by_cases hi6 : (i : Int) < 64
    · rw [if_pos hi6, u64_wr (by omega) (by omega), if_pos (by omega)]
      obtain ⟨j, rfl⟩ : ∃ j, r = 64 + j := ⟨r - 64, by omega⟩
      rw [show (63 - (i : Int)) = (j : Int) from by omega, flip_hi h1 h2 h3 h4 (by omega)]
    · rw [if_neg hi6, u64_wr (by omega) (by omega), if_pos (by omega), show (127 - (i : Int)) = (r : Int) from by omega, flip_lo h1 h2 h3 h4 (by omega)]
theorem with_ev (b : Bool) : ∀ (r i : Nat) (a : Ad), AF a → i + r = szA a.f0 → Ev (fun k => r06_with.l0 k b (i : Int) a.f0 a.f1 a.f2) ((subA a r b).f0, (subA a r b).f1, (subA a r b).f2)
  | 0, i, a, h, hr => by
    refine Ev.step (f := fun _ => some (a.f0, a.f1, a.f2)) (fun k => ?_) ?_
    · rw [r06_with.l0, width_eq]
      rw [Option.bind_some]
      rw [if_neg (by omega)]
    · have e : subA a 0 b = a := by
        unfold subA setN
        rw [Nat.pow_zero, Nat.mod_one]
        cases b
        · simpa using mkN_nv h.1
        · simpa using mkN_nv h.1
      rw [e]
      exact Ev.now _
  | r + 1, i, a, h, hr => by
    have hW := szA_le a.f0
    have hi : (i : Int) < ((szA a.f0 : Nat) : Int) := by omega
    have hnl := h.nvlt
    by_cases hb : ((nv a / 2 ^ r) % 2 == 1) = b
    · have ih := with_ev b r (i + 1) a h (by omega)
      have e : subA a r b = subA a (r + 1) b := by
        unfold subA
        rw [← setN_flip, flipN, if_pos hb]
      rw [e] at ih
      refine Ev.step (fun k => ?_) ih
      rw [r06_with.l0, width_eq]
      rw [Option.bind_some]
      rw [if_pos hi, bit_eq h r i hr]
      rw [Option.bind_some]
      rw [if_pos (by rw [hb]; exact beq_self_eq_true b), show wrap64 ((i : Int) + 1) = ((i + 1 : Nat) : Int) from r_up (by omega)]
    · have hx : nv a ^^^ 2 ^ r < 2 ^ szA a.f0 := Nat.xor_lt_two_pow hnl (Nat.pow_lt_pow_right (by decide) (by omega))
      have ih := with_ev b r (i + 1) (mkN a.f0 (nv a ^^^ 2 ^ r)) (mkN_af hx) (by rw [mkN_f0]; omega)
      have e : subA (mkN a.f0 (nv a ^^^ 2 ^ r)) r b = subA a (r + 1) b := by
        unfold subA
        rw [nv_mkN, mkN_f0, ← setN_flip, flipN, if_neg hb]
      rw [e] at ih
      exact Ev.step (with_flip h hr hb) ih
def restN (a : Ad) (b : Int) : Nat := szA a.f0 - b.toNat
theorem withf_ev {a : Ad} (h : AF a) {b : Int} (h0 : 0 ≤ b) (h1 : b ≤ szA a.f0) (o : Bool) : Ev (fun k => r06_with.f k a.f0 a.f1 a.f2 b o) ((subA a (restN a b) o).f0, (subA a (restN a b) o).f1, (subA a (restN a b) o).f2) := by
  have := with_ev o (restN a b) b.toNat a h (by unfold restN; omega)
  rw [show ((b.toNat : Nat) : Int) = b from by omega] at this
  exact this
theorem bt_list (s : ByteArray) (i : Nat) (h : i < s.data.toList.length) : bt s (i : Int) = ((s.data.toList[i]'h).toNat : Int) := by
  have hs : i < s.size := by rw [Array.length_toList] at h; exact h
  unfold bt
  have e : ((i : Int)).toNat = i := Int.toNat_natCast i
  rw [dif_pos (by rw [e]; exact hs)]
  have : ∀ (j : Nat) (hj : j < s.size), j = i → s[j].toNat = (s.data.toList[i]'h).toNat := fun j hj e => by
    subst e
    rfl
  rw [this _ _ e]
theorem size_list (s : ByteArray) : s.size = s.data.toList.length := (Array.length_toList).symm
theorem up_i {i : Nat} (h : i < 1000) : wrap64 ((i : Int) + 1) = ((i + 1 : Nat) : Int) := by rw [wid (by omega) (by omega)]; omega
theorem num_tab : ((List.range 256).all fun n => (r06_Number.f 6 (n : Int)).map (fun b => b.data.toList) == some (Lib.itoa (n : Int)) && decide ((Lib.itoa (n : Int)).length ≤ 3)) = true := by kernel_rfl
theorem num_ev {n : Int} (h0 : 0 ≤ n) (h1 : n < 256) : Ev (fun k => r06_Number.f k n) (decB n) ∧ (decB n).size ≤ 3 := by
  have := List.all_eq_true.1 num_tab n.toNat (List.mem_range.2 (by omega))
  rw [Bool.and_eq_true, beq_iff_eq, decide_eq_true_eq, show ((n.toNat : Nat) : Int) = n from by omega] at this
  obtain ⟨e, hl⟩ := this
  obtain ⟨b, hb, he⟩ := Option.map_eq_some_iff.1 e
  have hd : b = decB n := by
    unfold decB
    apply ByteArray.ext
    rw [← Array.toList_inj]
    exact he
  rw [hd] at hb
  refine ⟨Ev.of (r06_Number.mono n) hb, ?_⟩
  unfold decB
  show (Lib.itoa n).toArray.size ≤ 3
  rw [List.size_toArray]
  exact hl
theorem hex_cut : ((List.range 16).all fun m => ((⟨#[48, 49, 50, 51, 52, 53, 54, 55, 56, 57, 97, 98, 99, 100, 101, 102]⟩ : ByteArray).extract m (m + 1)).data.toList == [hexD m]) = true := by kernel_rfl
theorem hex_cut' {m : Nat} (h : m < 16) : ((⟨#[48, 49, 50, 51, 52, 53, 54, 55, 56, 57, 97, 98, 99, 100, 101, 102]⟩ : ByteArray).extract m (m + 1)) = ⟨#[hexD m]⟩ := by
  have := List.all_eq_true.1 hex_cut m (List.mem_range.2 h)
  rw [beq_iff_eq] at this
  apply ByteArray.ext
  rw [← Array.toList_inj, this]
theorem ba_app (l r : List UInt8) (t : ByteArray) : (⟨(l ++ r).toArray⟩ : ByteArray) ++ t = ⟨l.toArray⟩ ++ (⟨r.toArray⟩ ++ t) := by
  apply ByteArray.ext
  rw [ByteArray.data_append, ByteArray.data_append, ByteArray.data_append, ← Array.toList_inj]
  simp
theorem rhex0 : ∀ (d n : Nat) (t : ByteArray), d ≤ 3 → n < 16 ^ (d + 1) → t.size + d ≤ 100 → Ev (fun k => r06_hex.l0 k (n : Int) t) ((⟨(hexL (d + 1) n).toArray⟩ : ByteArray) ++ t) := by
  intro d
  induction d with
  | zero =>
    intro n t hd3 hn ht
    have hn : n < 16 := by simpa using hn
    refine Ev.step (f := fun _ => some ((⟨(hexL (0 + 1) n).toArray⟩ : ByteArray) ++ t)) (fun k => ?_) (Ev.now _)
    have e : wrap64 ((n : Int) + 1) = ((n + 1 : Nat) : Int) := up_i (by omega)
    rw [r06_hex.l0, if_neg (by omega), if_pos (by omega), e, if_pos (by omega), if_pos (by omega), Int.toNat_natCast, Int.toNat_natCast, hex_cut' hn, if_pos (by show 1 + t.size ≤ _; omega), hexL, if_pos hn]
  | succ d ih =>
    intro n t hd3 hn ht
    by_cases h : n < 16
    · refine Ev.step (f := fun _ => some ((⟨(hexL (d + 1 + 1) n).toArray⟩ : ByteArray) ++ t)) (fun k => ?_) (Ev.now _)
      have e : wrap64 ((n : Int) + 1) = ((n + 1 : Nat) : Int) := up_i (by omega)
      rw [r06_hex.l0, if_neg (by omega), if_pos (by omega), e, if_pos (by omega), if_pos (by omega), Int.toNat_natCast, Int.toNat_natCast, hex_cut' h, if_pos (by show 1 + t.size ≤ _; omega), hexL, if_pos h]
    · have hm : n % 16 < 16 := Nat.mod_lt _ (by decide)
      have hq : n / 16 < 16 ^ (d + 1) := Nat.div_lt_of_lt_mul (by rw [Nat.pow_succ, Nat.mul_comm] at hn; exact hn)
      have hb : n < 9223372036854775808 := by
        have := Nat.pow_le_pow_right (show 0 < 16 by decide) (show d + 1 + 1 ≤ 4 by omega)
        rw [show (16 : Nat) ^ 4 = 65536 from by decide] at this
        omega
      have := ih (n / 16) (⟨#[hexD (n % 16)]⟩ ++ t) (by omega) hq (by rw [ByteArray.size_append, show (⟨#[hexD (n % 16)]⟩ : ByteArray).size = 1 from rfl]; omega)
      rw [show (⟨(hexL (d + 1 + 1) n).toArray⟩ : ByteArray) ++ t = ⟨(hexL (d + 1) (n / 16)).toArray⟩ ++ (⟨#[hexD (n % 16)]⟩ ++ t) from by rw [hexL, if_neg h]; exact ba_app _ _ _]
      refine Ev.step (fun k => ?_) this
      have e1 : Int.tmod (n : Int) 16 = ((n % 16 : Nat) : Int) := rfl
      have e2 : wrap64 (Int.tdiv (n : Int) 16) = ((n / 16 : Nat) : Int) := by rw [show Int.tdiv (n : Int) 16 = ((n / 16 : Nat) : Int) from rfl, wid (by omega) (by omega)]
      have e3 : wrap64 (((n % 16 : Nat) : Int) + 1) = ((n % 16 + 1 : Nat) : Int) := up_i (by omega)
      rw [r06_hex.l0, if_pos (by omega), e1, e2, if_pos (by omega), e3, if_pos (by omega), if_pos (by omega), Int.toNat_natCast, Int.toNat_natCast, hex_cut' hm, if_pos (by show 1 + t.size ≤ _; omega)]
theorem rhex_ev {x : Int} (h : 0 ≤ x ∧ x < 65536) : Ev (fun k => r06_hex.f k x) ⟨(hexL 4 x.toNat).toArray⟩ := by
  have := rhex0 3 x.toNat ⟨#[]⟩ (by omega) (by simp; omega) (by decide)
  rw [show ((x.toNat : Nat) : Int) = x from by omega] at this
  rw [show (⟨(hexL (3 + 1) x.toNat).toArray⟩ : ByteArray) ++ ⟨#[]⟩ = ⟨(hexL 4 x.toNat).toArray⟩ from by apply ByteArray.ext; rw [ByteArray.data_append]; simp] at this
  exact this
theorem w_and (x : Int) : wrap64 (Go.bits .and .u64 x 65535) = Go.bits .and .u64 x 65535 := by
  have := and65535 x
  exact wid (by omega) (by omega)
theorem groups0 (hi lo : Int) : r06_Groups.f 11 true hi lo = some [wrap64 (Go.bits .and .u64 (hi / 281474976710656) 65535), wrap64 (Go.bits .and .u64 (hi / 4294967296) 65535), wrap64 (Go.bits .and .u64 (hi / 65536) 65535), wrap64 (Go.bits .and .u64 (hi / 1) 65535), wrap64 (Go.bits .and .u64 (lo / 281474976710656) 65535), wrap64 (Go.bits .and .u64 (lo / 4294967296) 65535), wrap64 (Go.bits .and .u64 (lo / 65536) 65535), wrap64 (Go.bits .and .u64 (lo / 1) 65535)] := by kernel_rfl
theorem groups_ev (hi lo : Int) : Ev (fun k => r06_Groups.f k true hi lo) (grpL hi lo) := by
  have := groups0 hi lo
  simp only [w_and, Int.ediv_one] at this
  exact Ev.of (r06_Groups.mono true hi lo) this
theorem rd_nat (l : List Int) (i : Nat) : rd l (i : Int) = l.getD i 0 := by unfold rd; rw [Int.toNat_natCast]
theorem rrun0 (l : List Int) (hl : l.length = 8) (i : Nat) (hi : i ≤ 8) : ∀ (d n : Nat), 8 - (i + n) = d → i + n ≤ 8 → zEnd l (8 - i) i = zEnd l (8 - (i + n)) (i + n) → Ev (fun k => r06_run.l0 k l (i : Int) (n : Int)) ((zEnd l (8 - i) i - i : Nat) : Int)
  | 0, n, hd, hn, he => by
    refine Ev.step (f := fun _ => some ((zEnd l (8 - i) i - i : Nat) : Int)) (fun k => ?_) (Ev.now _)
    rw [r06_run.l0, wid (by omega) (by omega), if_neg (by omega), he, hd, zEnd]
    congr 1
    omega
  | d + 1, n, hd, hn, he => by
    by_cases hz : l.getD (i + n) 0 = 0
    · have ih := rrun0 l hl i hi d (n + 1) (by omega) (by omega) (by rw [he, show 8 - (i + n) = (8 - (i + (n + 1))) + 1 from by omega, zEnd, if_pos hz]; rfl)
      refine Ev.step (fun k => ?_) ih
      rw [r06_run.l0, wid (by omega) (by omega), if_pos (by omega), if_pos (by omega), show (i : Int) + (n : Int) = ((i + n : Nat) : Int) from rfl, rd_nat, if_pos hz, up_i (by omega)]
    · refine Ev.step (f := fun _ => some ((zEnd l (8 - i) i - i : Nat) : Int)) (fun k => ?_) (Ev.now _)
      rw [r06_run.l0, wid (by omega) (by omega), if_pos (by omega), if_pos (by omega), show (i : Int) + (n : Int) = ((i + n : Nat) : Int) from rfl, rd_nat, if_neg hz, he, show 8 - (i + n) = (8 - (i + n + 1)) + 1 from by omega, zEnd, if_neg hz]
      congr 1
      omega
theorem rrun_ev (l : List Int) (hl : l.length = 8) (i : Nat) (hi : i ≤ 8) : Ev (fun k => r06_run.f k l (i : Int)) ((zEnd l (8 - i) i - i : Nat) : Int) := rrun0 l hl i hi _ 0 rfl (by omega) rfl
def RelP (a b : Nat) (at_ most : Int) : Prop := (1 < b - a ∧ at_ = (a : Int) ∧ most = ((b - a : Nat) : Int)) ∨ (b - a ≤ 1 ∧ at_ = -1 ∧ most = 1)
theorem suf_last (l : List UInt8) (h : l ≠ []) : Lib.hasSuffix l [58] = (l[l.length - 1]'(by have := List.length_pos_iff.2 h; omega) == 58) := by
  obtain ⟨t, c, rfl⟩ : ∃ t c, l = t ++ [c] := ⟨l.dropLast, l.getLast h, (List.dropLast_concat_getLast h).symm⟩
  unfold Lib.hasSuffix List.isSuffixOf
  rw [List.reverse_append]
  simp [List.isPrefixOf]
  rw [Bool.eq_iff_iff, beq_iff_eq, beq_iff_eq]
  exact eq_comm
theorem toList_nil (o : ByteArray) : o.toList = [] ↔ o.data.toList = [] := by rw [ByteArray.toList_eq]
theorem rtext (l : List Int) (hl : l.length = 8) (hv : ∀ k, k < 8 → 0 ≤ l.getD k 0 ∧ l.getD k 0 < 65536) {p q : Nat} (hp : p ≤ q) (hq : q ≤ 8) {at_ most : Int} (hr : RelP p q at_ most) : ∀ (d i : Nat) (o : ByteArray), 8 - i ≤ d → i ≤ 8 → o.size + 8 * d ≤ 64 → Ev (fun k => r06_Format.l1 k l at_ most o (i : Int)) (fmtT l p q d i o) := by
  intro d
  induction d with
  | zero =>
    intro i o hd hi ho
    refine Ev.step (f := fun _ => some o) (fun k => ?_) (Ev.now _)
    rw [r06_Format.l1, if_neg (by omega)]
  | succ d ih =>
    intro i o hd hi ho
    by_cases hi8 : i < 8
    · by_cases hc : i = p ∧ 1 < q - p
      · have e : at_ = (i : Int) ∧ most = ((q - p : Nat) : Int) := by
          rcases hr with ⟨h1, h2, h3⟩ | ⟨h1, h2, h3⟩
          · exact ⟨by omega, h3⟩
          · omega
        have := ih q (o ++ ⟨#[58, 58]⟩) (by omega) hq (by rw [ByteArray.size_append, show (⟨#[58, 58]⟩ : ByteArray).size = 2 from rfl]; omega)
        rw [fmtT, if_pos hi8, if_pos hc]
        refine Ev.step (fun k => ?_) this
        rw [r06_Format.l1, if_pos (by omega), if_pos e.1.symm, if_pos (by omega), e.2]
        congr 1
        rw [wid (x := ((q - p : Nat) : Int) - 1) (by omega) (by omega), wid (x := (i : Int) + (((q - p : Nat) : Int) - 1)) (by omega) (by omega), wid (by omega) (by omega)]
        omega
      · have e : ¬ ((i : Int) = at_) := by
          rcases hr with ⟨h1, h2, h3⟩ | ⟨h1, h2, h3⟩
          · intro h; apply hc; exact ⟨by omega, h1⟩
          · omega
        have hx := rhex_ev (hv i hi8)
        have hsz := hexL_size 4 (l.getD i 0).toNat
        obtain ⟨K, hK⟩ := hx
        by_cases hn : o.toList = []
        · have := ih (i + 1) (o ++ ⟨(hexL 4 (l.getD i 0).toNat).toArray⟩) (by omega) (by omega) (by rw [ByteArray.size_append]; omega)
          obtain ⟨K2, h2⟩ := this
          rw [fmtT, if_pos hi8, if_neg hc, if_neg (show ¬ (o.toList ≠ [] ∧ Lib.hasSuffix o.data.toList [58] = false) from fun h => h.1 hn)]
          refine ⟨K + K2 + 1, fun k hk => ?_⟩
          obtain ⟨m, rfl⟩ : ∃ m, k = m + 1 := ⟨k - 1, by omega⟩
          have f1 := hK m (by omega)
          have f2 := h2 m (by omega)
          dsimp only at f1 f2 ⊢
          rw [r06_Format.l1, if_pos (by omega), if_neg e, if_pos hn, if_pos (by omega), if_pos (by omega), rd_nat, f1, Option.bind_some, if_pos (by omega), up_i (by omega)]
          exact f2
        · have hne : o.data.toList ≠ [] := fun h => hn ((toList_nil o).2 h)
          have hlen := List.length_pos_iff.2 hne
          rw [← size_list] at hlen
          have ew : wrap64 ((o.size : Int) - 1) = ((o.size - 1 : Nat) : Int) := by rw [wid (by omega) (by omega)]; omega
          have hlast := suf_last o.data.toList hne
          have hb := bt_list o (o.size - 1) (by rw [← size_list]; omega)
          have hidx : (o.data.toList[o.size - 1]'(by rw [← size_list]; omega)) = o.data.toList[o.data.toList.length - 1]'(by rw [← size_list]; omega) := by
            congr 1
          rw [hidx] at hb
          by_cases hsuf : Lib.hasSuffix o.data.toList [58] = false
          · have hb8 : ¬ (bt o ((o.size - 1 : Nat) : Int) = 58) := by
              rw [hb]
              rw [hlast] at hsuf
              intro h
              have : o.data.toList[o.data.toList.length - 1]'(by rw [← size_list]; omega) = 58 := by
                apply UInt8.toNat_inj.1
                have : (58 : UInt8).toNat = 58 := rfl
                omega
              rw [this] at hsuf
              cases hsuf
            have := ih (i + 1) (o ++ ⟨#[58]⟩ ++ ⟨(hexL 4 (l.getD i 0).toNat).toArray⟩) (by omega) (by omega) (by rw [ByteArray.size_append, ByteArray.size_append, show (⟨#[58]⟩ : ByteArray).size = 1 from rfl]; omega)
            obtain ⟨K2, h2⟩ := this
            rw [fmtT, if_pos hi8, if_neg hc, if_pos (show (o.toList ≠ [] ∧ Lib.hasSuffix o.data.toList [58] = false) from ⟨hn, hsuf⟩)]
            refine ⟨K + K2 + 1, fun k hk => ?_⟩
            obtain ⟨m, rfl⟩ : ∃ m, k = m + 1 := ⟨k - 1, by omega⟩
            have f1 := hK m (by omega)
            have f2 := h2 m (by omega)
            dsimp only at f1 f2 ⊢
            rw [r06_Format.l1, if_pos (by omega), if_neg e, if_neg hn, ew, if_pos (by omega), if_pos (by omega), if_neg hb8, if_pos (by omega), if_pos (by omega), if_pos (by omega), rd_nat, f1, Option.bind_some, if_pos (by rw [ByteArray.size_append, show (⟨#[58]⟩ : ByteArray).size = 1 from rfl]; omega), up_i (by omega)]
            exact f2
          · have hb8 : bt o ((o.size - 1 : Nat) : Int) = 58 := by
              rw [hb]
              rw [hlast, Bool.not_eq_false, beq_iff_eq] at hsuf
              rw [hsuf]
              rfl
            have := ih (i + 1) (o ++ ⟨(hexL 4 (l.getD i 0).toNat).toArray⟩) (by omega) (by omega) (by rw [ByteArray.size_append]; omega)
            obtain ⟨K2, h2⟩ := this
            rw [fmtT, if_pos hi8, if_neg hc, if_neg (show ¬ (o.toList ≠ [] ∧ Lib.hasSuffix o.data.toList [58] = false) from fun h => hsuf h.2)]
            refine ⟨K + K2 + 1, fun k hk => ?_⟩
            obtain ⟨m, rfl⟩ : ∃ m, k = m + 1 := ⟨k - 1, by omega⟩
            have f1 := hK m (by omega)
            have f2 := h2 m (by omega)
            dsimp only at f1 f2 ⊢
            rw [r06_Format.l1, if_pos (by omega), if_neg e, if_neg hn, ew, if_pos (by omega), if_pos (by omega), if_pos hb8, if_pos (by omega), if_pos (by omega), rd_nat, f1, Option.bind_some, if_pos (by omega), up_i (by omega)]
            exact f2
    · refine Ev.step (f := fun _ => some o) (fun k => ?_) ?_
      · rw [r06_Format.l1, if_neg (by omega)]
      · rw [fmtT, if_neg hi8]; exact Ev.now _
theorem rbest (l : List Int) (hl : l.length = 8) {r : ByteArray} : ∀ (d i a b : Nat) (at_ most : Int), d + i = 8 → a ≤ b → b ≤ 8 → RelP a b at_ most → (∀ at' most', RelP (runF l d i (a, b)).1 (runF l d i (a, b)).2 at' most' → Ev (fun k => r06_Format.l1 k l at' most' ⟨#[]⟩ 0) r) → Ev (fun k => r06_Format.l0 k l at_ most (i : Int)) r
  | 0, i, a, b, at_, most, hd, hab, hb, hr, h => by
    refine Ev.step (fun k => ?_) (h at_ most hr)
    rw [r06_Format.l0, if_neg (by omega)]
  | d + 1, i, a, b, at_, most, hd, hab, hb, hr, h => by
    have hz := zEnd_le l (8 - i) i
    obtain ⟨K, hK⟩ := rrun_ev l hl i (by omega)
    rw [runF] at h
    have e8 : 8 - i = d + 1 := by omega
    by_cases hc : ((zEnd l (8 - i) i - i : Nat) : Int) > most
    · have hc2 : b - a < zEnd l (8 - i) i - i := by rcases hr with ⟨h1, h2, h3⟩ | ⟨h1, h2, h3⟩ <;> omega
      have hgt : 1 < zEnd l (8 - i) i - i := by rcases hr with ⟨h1, h2, h3⟩ | ⟨h1, h2, h3⟩ <;> omega
      rw [if_pos (show (a, b).2 - (a, b).1 < zEnd l (8 - i) i - i from hc2)] at h
      obtain ⟨K2, h2⟩ := rbest l hl d (i + 1) i (zEnd l (8 - i) i) (i : Int) ((zEnd l (8 - i) i - i : Nat) : Int) (by omega) hz.1 (by omega) (.inl ⟨hgt, rfl, rfl⟩) h
      refine ⟨K + K2 + 1, fun k hk => ?_⟩
      obtain ⟨m, rfl⟩ : ∃ m, k = m + 1 := ⟨k - 1, by omega⟩
      have f1 := hK m (by omega)
      have f2 := h2 m (by omega)
      dsimp only at f1 f2 ⊢
      rw [r06_Format.l0, if_pos (by omega), f1, Option.bind_some, if_pos hc, Option.bind_some, up_i (by omega)]
      exact f2
    · have hrel : RelP (if b - a < zEnd l (8 - i) i - i then (i, zEnd l (8 - i) i) else (a, b)).1 (if b - a < zEnd l (8 - i) i - i then (i, zEnd l (8 - i) i) else (a, b)).2 at_ most ∧ (if b - a < zEnd l (8 - i) i - i then (i, zEnd l (8 - i) i) else (a, b)).1 ≤ (if b - a < zEnd l (8 - i) i - i then (i, zEnd l (8 - i) i) else (a, b)).2 ∧ (if b - a < zEnd l (8 - i) i - i then (i, zEnd l (8 - i) i) else (a, b)).2 ≤ 8 := by
        split
        · rename_i h9
          rcases hr with ⟨h1, h2, h3⟩ | ⟨h1, h2, h3⟩
          · omega
          · exact ⟨.inr ⟨by simp only; omega, h2, h3⟩, hz.1, by simp only; omega⟩
        · exact ⟨hr, hab, hb⟩
      obtain ⟨K2, h2⟩ := rbest l hl d (i + 1) _ _ at_ most (by omega) hrel.2.1 hrel.2.2 hrel.1 h
      refine ⟨K + K2 + 1, fun k hk => ?_⟩
      obtain ⟨m, rfl⟩ : ∃ m, k = m + 1 := ⟨k - 1, by omega⟩
      have f1 := hK m (by omega)
      have f2 := h2 m (by omega)
      dsimp only at f1 f2 ⊢
      rw [r06_Format.l0, if_pos (by omega), f1, Option.bind_some, if_neg hc, up_i (by omega)]
      exact f2
theorem grpL_v (hi lo : Int) (k : Nat) (hk : k < 8) : 0 ≤ (grpL hi lo).getD k 0 ∧ (grpL hi lo).getD k 0 < 65536 := by
  rcases k with _ | _ | _ | _ | _ | _ | _ | _ | k <;> first | omega | exact and65535 _
theorem fmt6_ev (hi lo : Int) : Ev (fun k => r06_Format.f k true hi lo) (fmt6 hi lo) := by
  unfold r06_Format.f
  refine Ev.congr (f := fun k => (r06_Groups.f k true hi lo).bind fun t => r06_Format.l0 k t (-1) 1 0) (fun k => if_pos rfl) ?_
  refine Ev.bind (groups_ev hi lo) ?_
  refine rbest (grpL hi lo) rfl 8 0 0 0 (-1) 1 rfl (by omega) (by omega) (.inr ⟨by omega, rfl, rfl⟩) (fun at' most' hr => ?_)
  have ho := runF_ok (grpL hi lo)
  exact rtext (grpL hi lo) rfl (grpL_v hi lo) ho.1 ho.2 hr 8 0 ⟨#[]⟩ (by omega) (by omega) (by decide)
def letC (n : Int) : Bool := (decide (97 ≤ n) && decide (n ≤ 122)) || (decide (65 ≤ n) && decide (n ≤ 90))
def digC (n : Int) : Bool := decide (48 ≤ n) && decide (n ≤ 57)
def namC (n : Int) : Bool := letC n || digC n || n == 95
def spcC (n : Int) : Bool := n == 32 || n == 9 || n == 10 || n == 13
def clsC (n : Int) : Int := if spcC n then 1 else if letC n then 2 else if digC n then 3 else if (n == 95 || n == 46 || n == 58 || n == 47) then 4 else 0
theorem byte_all {p : Int → Bool} (h : ((List.range 256).all fun c => p (c : Int)) = true) {n : Int} (h0 : 0 ≤ n) (h1 : n ≤ 255) : p n = true := by
  rw [List.all_eq_true] at h
  have := h n.toNat (List.mem_range.2 (by omega))
  rwa [Int.toNat_of_nonneg h0] at this
theorem cls_tab : ((List.range 256).all fun c => lexer_class.f 4 (c : Int) == some (clsC (c : Int))) = true := by kernel_rfl
theorem cls_ev {n : Int} (h0 : 0 ≤ n) (h1 : n ≤ 255) : Ev (fun k => lexer_class.f k n) (clsC n) :=
  Ev.of (lexer_class.mono n) (beq_iff_eq.1 (byte_all (p := fun n => lexer_class.f 4 n == some (clsC n)) cls_tab h0 h1))
theorem nam_tab : ((List.range 256).all fun c => lexer_inName.f 4 (c : Int) == some (namC (c : Int))) = true := by kernel_rfl
theorem nam_ev {n : Int} (h0 : 0 ≤ n) (h1 : n ≤ 255) : Ev (fun k => lexer_inName.f k n) (namC n) :=
  Ev.of (lexer_inName.mono n) (beq_iff_eq.1 (byte_all (p := fun n => lexer_inName.f 4 n == some (namC n)) nam_tab h0 h1))
theorem rlet_tab : ((List.range 256).all fun c => r04_Letter.f (c : Int) == some (letC (c : Int))) = true := by kernel_rfl
theorem rlet_eq {n : Int} (h0 : 0 ≤ n) (h1 : n ≤ 255) : r04_Letter.f n = some (letC n) := beq_iff_eq.1 (byte_all (p := fun n => r04_Letter.f n == some (letC n)) rlet_tab h0 h1)
theorem rnam_tab : ((List.range 256).all fun c => r04_inName.f (c : Int) == some (namC (c : Int))) = true := by kernel_rfl
theorem rnam_eq {n : Int} (h0 : 0 ≤ n) (h1 : n ≤ 255) : r04_inName.f n = some (namC n) := beq_iff_eq.1 (byte_all (p := fun n => r04_inName.f n == some (namC n)) rnam_tab h0 h1)
theorem clet_tab : ((List.range 256).all fun c => decide (clsC (c : Int) = 2) == letC (c : Int)) = true := by kernel_rfl
theorem clet {n : Int} (h0 : 0 ≤ n) (h1 : n ≤ 255) : clsC n = 2 ↔ letC n = true := by
  have := beq_iff_eq.1 (byte_all (p := fun n => decide (clsC n = 2) == letC n) clet_tab h0 h1)
  rw [← this, decide_eq_true_eq]
theorem btLo (s : ByteArray) (i : Int) : 0 ≤ bt s i := (bt_range s i).1
theorem btHi (s : ByteArray) (i : Int) : bt s i ≤ 255 := (bt_range s i).2
def isC (p : Int → Bool) (c : UInt8) : Bool := p ((c.toNat : Nat) : Int)
def runC (p : Int → Bool) : List UInt8 → Nat
  | [] => 0
  | c :: l => if isC p c = true then runC p l + 1 else 0
theorem runC_le (p : Int → Bool) : ∀ l, runC p l ≤ l.length
  | [] => Nat.le_refl _
  | c :: l => by
    have := runC_le p l
    rw [runC, List.length_cons]
    split <;> omega
theorem runC_all (p : Int → Bool) : ∀ l, runC p l = l.length ↔ l.all (isC p) = true
  | [] => by simp [runC]
  | c :: l => by
    have := runC_all p l
    have h2 := runC_le p l
    rw [runC, List.length_cons, List.all_cons]
    by_cases h : isC p c = true
    · rw [if_pos h, h, Bool.true_and, ← this]; omega
    · rw [if_neg h, Bool.not_eq_true] at *
      rw [h, Bool.false_and]
      simp
theorem lx_up {i : Nat} (h : i < 1000000000) : wrap64 ((i : Int) + 1) = ((i + 1 : Nat) : Int) := by rw [wid (by omega) (by omega)]; omega
theorem whileN (s : ByteArray) (hs : s.data.toList.length ≤ 1000000) : ∀ (d i : Nat), s.data.toList.length - i = d → i ≤ s.data.toList.length → Ev (fun k => lexer_while_at_lexer_inName.l0 k s (i : Int)) ((i + runC namC (s.data.toList.drop i) : Nat) : Int)
  | 0, i, hd, hi => by
    rw [List.drop_of_length_le (by omega), runC]
    refine Ev.step (f := fun _ => some (i : Int)) (fun k => ?_) (Ev.now _)
    rw [lexer_while_at_lexer_inName.l0, size_list, if_neg (by omega)]
  | d + 1, i, hd, hi => by
    have h : i < s.data.toList.length := by omega
    rw [List.drop_eq_getElem_cons h, runC]
    have ih := whileN s hs d (i + 1) (by omega) (by omega)
    have e := bt_list s i h
    refine Ev.step (f := fun k => (lexer_inName.f k (bt s (i : Int))).bind fun t => if t = true then lexer_while_at_lexer_inName.l0 k s ((i + 1 : Nat) : Int) else some (i : Int)) (fun k => ?_) (Ev.bind (nam_ev (btLo _ _) (btHi _ _)) ?_)
    · rw [lexer_while_at_lexer_inName.l0, size_list, if_pos (by omega), if_pos (by omega), lx_up (by omega)]
    · rw [e]
      by_cases hc : namC (((s.data.toList[i]).toNat : Nat) : Int) = true
      · rw [if_pos (show isC namC (s.data.toList[i]) = true from hc)]
        refine Ev.congr (fun k => if_pos hc) ?_
        rw [show i + (runC namC (s.data.toList.drop (i + 1)) + 1) = i + 1 + runC namC (s.data.toList.drop (i + 1)) from by omega]
        exact ih
      · rw [if_neg (show ¬ isC namC (s.data.toList[i]) = true from hc)]
        exact Ev.congr (fun k => if_neg hc) (Ev.now _)
def nameB (l : List UInt8) : Bool := !l.isEmpty && decide (l.length ≤ 32) && (l.head?.any (isC letC)) && l.all (isC namC)
theorem isName_ev (s : ByteArray) : Ev (fun k => lexer_IsName.f k s) (nameB s.data.toList) := by
  unfold lexer_IsName.f
  have hsz := size_list s
  have htl : s.toList = s.data.toList := ByteArray.toList_eq s
  by_cases h0 : s.data.toList = []
  · refine Ev.congr (fun k => if_pos (htl.trans h0)) ?_
    rw [h0]
    exact Ev.now _
  · refine Ev.congr (fun k => if_neg (fun e => h0 (htl.symm.trans e))) ?_
    have hp : 0 < s.data.toList.length := List.length_pos_iff.2 h0
    by_cases h1 : s.data.toList.length ≤ 32
    · refine Ev.congr (fun k => if_pos (by omega)) (Ev.congr (fun k => if_pos (by omega)) (Ev.bind (cls_ev (btLo _ _) (btHi _ _)) ?_))
      have e := bt_list s 0 hp
      rw [show ((0 : Nat) : Int) = 0 from rfl] at e
      have hh : s.data.toList.head? = some (s.data.toList[0]) := by rw [List.head?_eq_getElem?, List.getElem?_eq_getElem hp]
      have hn : nameB s.data.toList = (isC letC (s.data.toList[0]) && s.data.toList.all (isC namC)) := by
        unfold nameB
        rw [hh, decide_eq_true h1, show s.data.toList.isEmpty = false from by simpa using h0]
        simp
      rw [hn]
      by_cases h2 : clsC (bt s 0) = 2
      · have h3 : isC letC (s.data.toList[0]) = true := by
          unfold isC
          rw [← e]
          exact (clet (btLo _ _) (btHi _ _)).1 h2
        rw [h3, Bool.true_and]
        have hw := whileN s (by omega) _ 0 rfl (by omega)
        refine Ev.congr (fun k => if_pos h2) (Ev.bind hw ?_)
        rw [show (((0 + runC namC (s.data.toList.drop 0) : Nat) : Int) == (s.size : Int)) = s.data.toList.all (isC namC) from ?_]
        · exact Ev.now _
        · rw [Bool.eq_iff_iff, beq_iff_eq, ← runC_all, List.drop_zero, hsz]
          omega
      · have h3 : isC letC (s.data.toList[0]) = false := by
          rw [← Bool.not_eq_true]
          intro h
          unfold isC at h
          rw [← e] at h
          exact h2 ((clet (btLo _ _) (btHi _ _)).2 h)
        rw [h3, Bool.false_and]
        exact Ev.congr (fun k => if_neg h2) (Ev.now _)
    · refine Ev.congr (fun k => if_neg (by omega)) ?_
      rw [show nameB s.data.toList = false from by unfold nameB; rw [decide_eq_false h1]; simp]
      exact Ev.now _
theorem rIsName_l (s : ByteArray) (hs : s.data.toList.length ≤ 1000000) : ∀ (d i : Nat), s.data.toList.length - i = d → i ≤ s.data.toList.length → Ev (fun k => r04_IsName.l0 k s (i : Int)) ((s.data.toList.drop i).all (isC namC))
  | 0, i, hd, hi => by
    rw [List.drop_of_length_le (by omega), List.all_nil]
    refine Ev.step (f := fun _ => some true) (fun k => ?_) (Ev.now _)
    rw [r04_IsName.l0, size_list, if_neg (by omega)]
  | d + 1, i, hd, hi => by
    have h : i < s.data.toList.length := by omega
    rw [List.drop_eq_getElem_cons h, List.all_cons]
    have ih := rIsName_l s hs d (i + 1) (by omega) (by omega)
    have e := bt_list s i h
    have e2 := rnam_eq (btLo s i) (btHi s i)
    by_cases hc : isC namC (s.data.toList[i]) = true
    · rw [hc, Bool.true_and]
      refine Ev.step (fun k => ?_) ih
      rw [r04_IsName.l0, size_list, if_pos (by omega), if_pos (by omega), e2, Option.bind_some, if_pos (by rw [e]; exact hc), lx_up (by omega)]
    · refine Ev.step (f := fun _ => some false) (fun k => ?_) ?_
      · rw [r04_IsName.l0, size_list, if_pos (by omega), if_pos (by omega), e2, Option.bind_some, if_neg (by rw [e]; exact hc)]
      · rw [Bool.not_eq_true] at hc
        rw [hc, Bool.false_and]
        exact Ev.now _
theorem rIsName_ev (s : ByteArray) : Ev (fun k => r04_IsName.f k s) (nameB s.data.toList) := by
  unfold r04_IsName.f
  have hsz := size_list s
  have htl : s.toList = s.data.toList := ByteArray.toList_eq s
  by_cases h0 : s.data.toList = []
  · refine Ev.congr (fun k => if_pos (htl.trans h0)) ?_
    rw [h0]
    refine Ev.step (f := fun _ => some false) (fun k => ?_) (Ev.now _)
    rw [r04_IsName.j0, if_pos rfl]
  · refine Ev.congr (fun k => if_neg (fun e => h0 (htl.symm.trans e))) ?_
    have hp : 0 < s.data.toList.length := List.length_pos_iff.2 h0
    by_cases h1 : s.data.toList.length ≤ 32
    · have e := bt_list s 0 hp
      rw [show ((0 : Nat) : Int) = 0 from rfl] at e
      have hh : s.data.toList.head? = some (s.data.toList[0]) := by rw [List.head?_eq_getElem?, List.getElem?_eq_getElem hp]
      have hn : nameB s.data.toList = (isC letC (s.data.toList[0]) && s.data.toList.all (isC namC)) := by
        unfold nameB
        rw [hh, decide_eq_true h1, show s.data.toList.isEmpty = false from by simpa using h0]
        simp
      refine Ev.congr (fun k => if_neg (by omega)) (Ev.congr (fun k => if_pos (by omega)) ?_)
      rw [hn, rlet_eq (btLo _ _) (btHi _ _)]
      refine Ev.congr (fun k => Option.bind_some _ _) ?_
      by_cases h2 : isC letC (s.data.toList[0]) = true
      · rw [h2, Bool.true_and]
        have hw := rIsName_l s (by omega) _ 0 rfl (by omega)
        refine Ev.step (fun k => ?_) hw
        rw [r04_IsName.j0, e, show letC (((s.data.toList[0]).toNat : Nat) : Int) = true from h2, if_neg (by simp)]
        rfl
      · refine Ev.step (f := fun _ => some false) (fun k => ?_) ?_
        · rw [Bool.not_eq_true] at h2
          rw [r04_IsName.j0, e, show letC (((s.data.toList[0]).toNat : Nat) : Int) = false from h2, if_pos (show (!false) = true from rfl)]
        · rw [Bool.not_eq_true] at h2
          rw [h2, Bool.false_and]
          exact Ev.now _
    · refine Ev.congr (fun k => if_pos (by omega)) ?_
      rw [show nameB s.data.toList = false from by unfold nameB; rw [decide_eq_false h1]; simp]
      refine Ev.step (f := fun _ => some false) (fun k => ?_) (Ev.now _)
      rw [r04_IsName.j0, if_pos rfl]
theorem w_255 (x : Int) : wrap64 (Go.bits .and .u64 x 255) = Go.bits .and .u64 x 255 := by
  have := and255 x
  exact wid (by omega) (by omega)
def dotB : ByteArray := ⟨#[46]⟩
def fmt4 (w x y z : ByteArray) : ByteArray := ((((((w ++ dotB) ++ x) ++ dotB) ++ y) ++ dotB) ++ z)
theorem dot_size : dotB.size = 1 := rfl
theorem join4 (w x y z : ByteArray) (hw : w.size ≤ 3) (hx : x.size ≤ 3) (hy : y.size ≤ 3) (hz : z.size ≤ 3) : strings_Join.f [w, x, y, z] (⟨#[46]⟩ : ByteArray) = some (fmt4 w x y z) := by
  have e : Lib.join ([w, x, y, z].map (·.data.toList)) (⟨#[46]⟩ : ByteArray).data.toList = (fmt4 w x y z).data.toList := by
    unfold Lib.join fmt4 dotB
    simp [List.intercalate, List.intersperse, ByteArray.data_append]
  have hs : (fmt4 w x y z).size ≤ 15 := by
    unfold fmt4
    simp only [ByteArray.size_append, dot_size]
    omega
  unfold strings_Join.f
  rw [e, if_pos (by rw [← size_list]; omega), if_pos (by simp)]
theorem fmt4_size (w x y z : ByteArray) (hw : w.size ≤ 3) (hx : x.size ≤ 3) (hy : y.size ≤ 3) (hz : z.size ≤ 3) : (fmt4 w x y z).size ≤ 15 := by
  unfold fmt4
  simp only [ByteArray.size_append, dot_size]
  omega
def txt4 (lo : Int) : ByteArray := fmt4 (decB (Go.bits .and .u64 (lo / 16777216) 255)) (decB (Go.bits .and .u64 (lo / 65536) 255)) (decB (Go.bits .and .u64 (lo / 256) 255)) (decB (Go.bits .and .u64 lo 255))
theorem rfmt4_ev (hi lo : Int) : Ev (fun k => r06_Format.f k false hi lo) (txt4 lo) := by
  obtain ⟨⟨K1, e1⟩, s1⟩ := num_ev (and255 (lo / 16777216)).1 (and255 (lo / 16777216)).2
  obtain ⟨⟨K2, e2⟩, s2⟩ := num_ev (and255 (lo / 65536)).1 (and255 (lo / 65536)).2
  obtain ⟨⟨K3, e3⟩, s3⟩ := num_ev (and255 (lo / 256)).1 (and255 (lo / 256)).2
  obtain ⟨⟨K4, e4⟩, s4⟩ := num_ev (and255 lo).1 (and255 lo).2
  refine ⟨K1 + K2 + K3 + K4, fun k hk => ?_⟩
  have f1 := e1 k (by omega)
  have f2 := e2 k (by omega)
  have f3 := e3 k (by omega)
  have f4 := e4 k (by omega)
  dsimp only at f1 f2 f3 f4 ⊢
  unfold r06_Format.f
  simp only [w_255]
  rw [if_neg Bool.false_ne_true, f1, Option.bind_some, if_pos (by omega), f2, Option.bind_some]
  have hd : (⟨#[46]⟩ : ByteArray) = dotB := rfl
  rw [hd]
  rw [if_pos (by simp only [ByteArray.size_append, dot_size]; omega), if_pos (by simp only [ByteArray.size_append, dot_size]; omega), f3, Option.bind_some]
  rw [if_pos (by simp only [ByteArray.size_append, dot_size]; omega), if_pos (by simp only [ByteArray.size_append, dot_size]; omega), f4, Option.bind_some]
  rw [if_pos (by simp only [ByteArray.size_append, dot_size]; omega)]
  rfl
theorem fmtT_size (l : List Int) (p q : Nat) : ∀ (d i : Nat) (o : ByteArray), (fmtT l p q d i o).size ≤ o.size + 8 * d
  | 0, i, o => by unfold fmtT; omega
  | d + 1, i, o => by
    have hx := hexL_size 4 (l.getD i 0).toNat
    unfold fmtT
    split
    · split
      · have := fmtT_size l p q d q (o ++ ⟨#[58, 58]⟩)
        rw [ByteArray.size_append, show (⟨#[58, 58]⟩ : ByteArray).size = 2 from rfl] at this
        omega
      · split
        · have := fmtT_size l p q d (i + 1) (o ++ ⟨#[58]⟩ ++ ⟨(hexL 4 (l.getD i 0).toNat).toArray⟩)
          rw [ByteArray.size_append, ByteArray.size_append, show (⟨#[58]⟩ : ByteArray).size = 1 from rfl] at this
          omega
        · have := fmtT_size l p q d (i + 1) (o ++ ⟨(hexL 4 (l.getD i 0).toNat).toArray⟩)
          rw [ByteArray.size_append] at this
          omega
    · omega
def txtA (a : Ad) : ByteArray := if a.f0 = true then fmt6 a.f1 a.f2 else txt4 a.f2
theorem fmt_eq (a : Ad) : address_Format.f a.f0 a.f1 a.f2 = some (txtA a) := by
  unfold address_Format.f txtA
  cases a.f0
  · rw [if_neg Bool.false_ne_true, if_neg Bool.false_ne_true]
    exact join4 _ _ _ _ (num_ev (and255 _).1 (and255 _).2).2 (num_ev (and255 _).1 (and255 _).2).2 (num_ev (and255 _).1 (and255 _).2).2 (num_ev (and255 _).1 (and255 _).2).2
  · rfl
theorem rfmt_ev (a : Ad) : Ev (fun k => r06_Format.f k a.f0 a.f1 a.f2) (txtA a) := by
  unfold txtA
  cases a.f0
  · rw [if_neg Bool.false_ne_true]
    exact rfmt4_ev _ _
  · rw [if_pos rfl]
    exact fmt6_ev _ _
theorem txtA_size (a : Ad) : (txtA a).size ≤ 64 := by
  unfold txtA
  split
  · have := fmtT_size (grpL a.f1 a.f2) (runF (grpL a.f1 a.f2) 8 0 (0, 0)).1 (runF (grpL a.f1 a.f2) 8 0 (0, 0)).2 8 0 ⟨#[]⟩
    exact this
  · have := fmt4_size _ _ _ _ (num_ev (and255 (a.f2 / 16777216)).1 (and255 _).2).2 (num_ev (and255 (a.f2 / 65536)).1 (and255 _).2).2 (num_ev (and255 (a.f2 / 256)).1 (and255 _).2).2 (num_ev (and255 a.f2).1 (and255 _).2).2
    unfold txt4
    omega
def txtP (a : Ad) (b : Int) : ByteArray := (txtA a ++ ⟨#[47]⟩) ++ decB b
theorem itoa_s {b : Int} (h0 : 0 ≤ b) (h1 : b < 256) : strconv_Itoa.f b = some (decB b) := by
  unfold strconv_Itoa.f decB
  rw [if_pos (by omega)]
theorem fp_eq (a : Ad) {b : Int} (h0 : 0 ≤ b) (h1 : b < 256) : address_FormatPrefix.f a.f0 a.f1 a.f2 b = some (txtP a b) := by
  have hs := txtA_size a
  have hd := (num_ev h0 h1).2
  unfold address_FormatPrefix.f txtP
  rw [fmt_eq, Option.bind_some, if_pos (by omega), itoa_s h0 h1, Option.bind_some, if_pos (by rw [ByteArray.size_append, show (⟨#[47]⟩ : ByteArray).size = 1 from rfl]; omega)]
theorem rfp_ev (a : Ad) {b : Int} (h0 : 0 ≤ b) (h1 : b < 256) : Ev (fun k => r06_FormatPrefix.f k a.f0 a.f1 a.f2 b) (txtP a b) := by
  have hs := txtA_size a
  have hd := (num_ev h0 h1).2
  unfold r06_FormatPrefix.f txtP
  refine Ev.bind (rfmt_ev a) ?_
  refine Ev.congr (f := fun k => (r06_Number.f k b).bind fun t => some (txtA a ++ ⟨#[47]⟩ ++ t)) (fun k => ?_) (Ev.bind (num_ev h0 h1).1 (Ev.now _))
  rw [if_pos (by omega)]
  cases hn : r06_Number.f k b with
  | none => rfl
  | some t =>
    have ht : t = decB b := by
      obtain ⟨K, e⟩ := (num_ev h0 h1).1
      have mono : ∀ j, r06_Number.f (k + j) b = some t := fun j => by
        induction j with
        | zero => exact hn
        | succ j ih => exact r06_Number.mono b (k + j) _ ih
      have := e (k + K) (by omega)
      dsimp only at this
      rw [mono K] at this
      injection this
    rw [Option.bind_some, Option.bind_some, ht, if_pos (by rw [ByteArray.size_append, show (⟨#[47]⟩ : ByteArray).size = 1 from rfl]; omega)]
theorem and_zero (x n : Nat) (hx : x < 18446744073709551616) (hn : n ≤ 64) : Go.bits .and .u64 (x : Int) ((2 ^ n - 1 : Nat) : Int) = 0 ↔ setN x n false = x := by
  rw [bits_and x n hx hn]
  have := Nat.mod_le x (2 ^ n)
  unfold setN
  simp only [Bool.false_eq_true, if_false]
  omega
theorem low_iff {a : Ad} (h : AW a) {k : Nat} (hk : k ≤ 128) : (Go.bits .and .u64 a.f1 (hiM k) = 0 ∧ Go.bits .and .u64 a.f2 (loM k) = 0) ↔ subA a k false = a := by
  rw [subA_eq h hk]
  obtain ⟨h1, h2, h3, h4⟩ := h
  obtain ⟨a0, a1, a2⟩ := a
  simp only at h1 h2 h3 h4 ⊢
  have e1 := and_zero a1.toNat (k - 64) (by omega) (by omega)
  have e2 := and_zero a2.toNat (min k 64) (by omega) (by omega)
  rw [show ((a1.toNat : Nat) : Int) = a1 from by omega] at e1
  rw [show ((a2.toNat : Nat) : Int) = a2 from by omega] at e2
  unfold hiM loM
  rw [e1, e2]
  simp only [Ad, S31.mk.injEq, true_and]
  omega
def vpB (a : Ad) (b : Int) : Bool := adB a && (decide (0 ≤ b ∧ b ≤ szA a.f0) && decide (subA a (restN a b) false = a))
theorem vp_eq {a : Ad} (h : AW a) (b : Int) : address_ValidPrefix.f a.f0 a.f1 a.f2 b = some (vpB a b) := by
  have hs := szA_le a.f0
  unfold address_ValidPrefix.f vpB
  rw [fine_eq, Option.bind_some]
  cases hf : adB a
  · rfl
  · rw [if_pos rfl, Bool.true_and]
    by_cases h0 : b < 0
    · rw [if_pos h0, decide_eq_false (by omega)]; rfl
    · rw [if_neg h0, size_eq, Option.bind_some]
      by_cases h1 : b > ((szA a.f0 : Nat) : Int)
      · rw [if_pos h1, decide_eq_false (by omega)]; rfl
      · have hk : restN a b ≤ 128 := by unfold restN; omega
        have hl := low_iff h hk
        rw [if_neg h1, mask_eq a b (restN a b) (by unfold restN; omega) (by omega) (by omega), Option.bind_some, decide_eq_true (show 0 ≤ b ∧ b ≤ ((szA a.f0 : Nat) : Int) from by omega), Bool.true_and]
        by_cases c : Go.bits .and .u64 a.f1 (hiM (restN a b)) = 0
        · rw [if_pos c]
          congr 1
          rw [Bool.eq_iff_iff, beq_iff_eq, decide_eq_true_eq, ← hl]
          exact ⟨fun h => ⟨c, h⟩, fun h => h.2⟩
        · rw [if_neg c, decide_eq_false (fun e => c (hl.2 e).1)]
theorem rvp_ev {a : Ad} (h : AW a) (b : Int) : Ev (fun k => r06_ValidPrefix.f k a.f0 a.f1 a.f2 b) (vpB a b) := by
  unfold r06_ValidPrefix.f vpB
  rw [rfine_eq]
  cases hf : adB a
  · exact Ev.now _
  · have ha := (fine_iff h).1 hf
    by_cases h0 : b ≥ 0
    · by_cases h1 : b ≤ ((szA a.f0 : Nat) : Int)
      · refine Ev.congr (f := fun k => (r06_with.f k a.f0 a.f1 a.f2 b false).bind fun t => some (t.1 == a.f0 && (t.2.1 == a.f1 && (t.2.2 == a.f2)))) (fun k => ?_) ?_
        · rw [Option.bind_some, if_pos rfl, if_pos h0, width_eq, Option.bind_some, if_pos h1]
        · rw [decide_eq_true (show 0 ≤ b ∧ b ≤ ((szA a.f0 : Nat) : Int) from by omega), Bool.true_and, Bool.true_and, ← ends_eq]
          exact Ev.bind (withf_ev ha h0 h1 false) (Ev.now _)
      · rw [decide_eq_false (show ¬ (0 ≤ b ∧ b ≤ ((szA a.f0 : Nat) : Int)) from by omega)]
        refine Ev.congr (f := fun _ => some false) (fun k => ?_) (Ev.now _)
        rw [Option.bind_some, if_pos rfl, if_pos h0, width_eq, Option.bind_some, if_neg h1]
    · rw [decide_eq_false (show ¬ (0 ≤ b ∧ b ≤ ((szA a.f0 : Nat) : Int)) from by omega)]
      refine Ev.congr (f := fun _ => some false) (fun k => ?_) (Ev.now _)
      rw [Option.bind_some, if_pos rfl, if_neg h0]
theorem ev_ite {α : Type} {c : Prop} [Decidable c] {f g : Nat → Option α} {r : α} (h1 : c → Ev f r) (h2 : ¬ c → Ev g r) : Ev (fun k => if c then f k else g k) r := by
  by_cases h : c
  · exact Ev.congr (fun k => if_pos h) (h1 h)
  · exact Ev.congr (fun k => if_neg h) (h2 h)
theorem ev_is {α : Type} {r r' : α} (h : r = r') : Ev (fun _ => some r) r' := h ▸ Ev.now _
theorem ev_to {α : Type} {f : Nat → Option α} {r r' : α} (h : r = r') (e : Ev f r) : Ev f r' := h ▸ e
theorem sv_get {l : List S74} {i : Nat} (h : i < l.length) : rd_T74 l (i : Int) = l[i] := by unfold rd_T74; rw [Int.toNat_natCast, List.getD_eq_getElem?_getD, List.getElem?_eq_getElem h]; rfl
theorem as_get {l : List S36} {i : Nat} (h : i < l.length) : rd_T36 l (i : Int) = l[i] := by unfold rd_T36; rw [Int.toNat_natCast, List.getD_eq_getElem?_getD, List.getElem?_eq_getElem h]; rfl
def svcB (s : S74) : Bool := decide ((s.f0 = 6 ∨ s.f0 = 17) ∧ 0 ≤ s.f1 ∧ s.f1 ≤ 65535 ∧ 0 ≤ s.f2 ∧ s.f2 ≤ 4)
def numB (a : S36) : Bool := decide (1 ≤ a.f2 ∧ a.f2 ≤ 4 ∧ 1 ≤ a.f3 ∧ a.f3 ≤ 5 ∧ 0 ≤ a.f4 ∧ a.f4 ≤ 64 ∧ 1 ≤ a.f5 ∧ a.f5 ≤ 8192 ∧ 0 ≤ a.f7 ∧ a.f7 ≤ 3)
def oneR (a : S36) : Int := if 16 < a.f8.length then 3 else if nameB a.f0.data.toList = true then (if (numB a && a.f8.all svcB) = true then (if vpB a.f1.f0 a.f1.f1 = true then 0 else 2) else 4) else 5
theorem one_l (a : S36) (ha : AW a.f1.f0) (hl : a.f8.length ≤ 1000) : ∀ (d i : Nat), a.f8.length - i = d → i ≤ a.f8.length → Ev (fun k => asset_checkOne.l0 k a.f8 (a.f8.length : Int) (i : Int) a.f0 a.f1.f0.f0 a.f1.f0.f1 a.f1.f0.f2 a.f1.f1 a.f2 a.f3 a.f4 a.f5 a.f6 a.f7 a.f8) (if (a.f8.drop i).all svcB = true then (if vpB a.f1.f0 a.f1.f1 = true then 0 else 2) else 4)
  | 0, i, hd, hi => by
    rw [List.drop_of_length_le (by omega), List.all_nil, if_pos rfl]
    refine Ev.step (f := fun k => if vpB a.f1.f0 a.f1.f1 = true then some (0 : Int) else some 2) (fun k => ?_) ?_
    · rw [asset_checkOne.l0, if_neg (by omega), vp_eq ha, Option.bind_some]
    · exact ev_ite (fun h => ev_is (by rw [if_pos h])) (fun h => ev_is (by rw [if_neg h]))
  | d + 1, i, hd, hi => by
    have h : i < a.f8.length := by omega
    have ih := one_l a ha hl d (i + 1) (by omega) (by omega)
    have e := sv_get h
    rw [List.drop_eq_getElem_cons h, List.all_cons]
    obtain ⟨s, hs⟩ : ∃ s, a.f8[i] = s := ⟨_, rfl⟩
    rw [hs] at e ⊢
    by_cases hb : svcB s = true
    · have hb2 := of_decide_eq_true hb
      rw [hb, Bool.true_and]
      refine Ev.step (fun k => ?_) ih
      rw [asset_checkOne.l0, if_pos (by omega), if_pos (by omega), if_pos (by omega), e]
      rcases hb2.1 with h6 | h17
      · rw [if_pos h6, if_neg (by omega), if_neg (by omega), if_neg (by omega), if_neg (by omega), lx_up (by omega)]
      · rw [if_neg (by omega), if_pos h17, if_neg (by omega), if_neg (by omega), if_neg (by omega), if_neg (by omega), lx_up (by omega)]
    · have hb2 := of_decide_eq_false (Bool.not_eq_true _ ▸ hb)
      rw [show (svcB s && (a.f8.drop (i + 1)).all svcB) = false from by rw [Bool.not_eq_true] at hb; rw [hb, Bool.false_and], if_neg Bool.false_ne_true]
      refine Ev.step (f := fun _ => some 4) (fun k => ?_) (Ev.now _)
      rw [asset_checkOne.l0, if_pos (by omega), if_pos (by omega), if_pos (by omega), e]
      by_cases h6 : s.f0 = 6
      · rw [if_pos h6]
        by_cases h1 : s.f1 < 0
        · rw [if_pos h1]
        · by_cases h2 : s.f1 > 65535
          · rw [if_neg h1, if_pos h2]
          · by_cases h3 : s.f2 < 0
            · rw [if_neg h1, if_neg h2, if_pos h3]
            · rw [if_neg h1, if_neg h2, if_neg h3, if_pos (by omega)]
      · rw [if_neg h6]
        by_cases h17 : s.f0 = 17
        · rw [if_pos h17]
          by_cases h1 : s.f1 < 0
          · rw [if_pos h1]
          · by_cases h2 : s.f1 > 65535
            · rw [if_neg h1, if_pos h2]
            · by_cases h3 : s.f2 < 0
              · rw [if_neg h1, if_neg h2, if_pos h3]
              · rw [if_neg h1, if_neg h2, if_neg h3, if_pos (by omega)]
        · rw [if_neg h17]
theorem one_j (a : S36) (ha : AW a.f1.f0) (hl : a.f8.length ≤ 1000) (bad : Bool) (h : bad = false ↔ (1 ≤ a.f2 ∧ a.f2 ≤ 4 ∧ 1 ≤ a.f3 ∧ a.f3 ≤ 5)) : Ev (fun k => asset_checkOne.j0 k bad a.f0 a.f1.f0.f0 a.f1.f0.f1 a.f1.f0.f2 a.f1.f1 a.f2 a.f3 a.f4 a.f5 a.f6 a.f7 a.f8) (if (numB a && a.f8.all svcB) = true then (if vpB a.f1.f0 a.f1.f1 = true then 0 else 2) else 4) := by
  have hno : numB a = false → (if (numB a && a.f8.all svcB) = true then (if vpB a.f1.f0 a.f1.f1 = true then (0 : Int) else 2) else 4) = 4 := fun e => by rw [e, Bool.false_and, if_neg Bool.false_ne_true]
  refine Ev.step (fun k => by rw [asset_checkOne.j0]) ?_
  refine ev_ite (fun hb => ev_is (hno (decide_eq_false (fun hh => ?_))).symm) fun hb => ?_
  · rw [h.2 ⟨hh.1, hh.2.1, hh.2.2.1, hh.2.2.2.1⟩] at hb; cases hb
  have hq := h.1 (by rw [Bool.not_eq_true] at hb; exact hb)
  refine ev_ite (fun c => ev_is (hno (decide_eq_false (by omega))).symm) fun c1 => ?_
  refine ev_ite (fun c => ev_is (hno (decide_eq_false (by omega))).symm) fun c2 => ?_
  refine ev_ite (fun c => ev_is (hno (decide_eq_false (by omega))).symm) fun c3 => ?_
  refine ev_ite (fun c => ev_is (hno (decide_eq_false (by omega))).symm) fun c4 => ?_
  refine ev_ite (fun c => ev_is (hno (decide_eq_false (by omega))).symm) fun c5 => ?_
  refine ev_ite (fun c => ev_is (hno (decide_eq_false (by omega))).symm) fun c6 => ?_
  have hn : numB a = true := decide_eq_true (by omega)
  rw [hn, Bool.true_and]
  exact one_l a ha hl _ 0 rfl (by omega)
theorem one_ev (a : S36) (ha : AW a.f1.f0) : Ev (fun k => asset_checkOne.f k a.f0 a.f1.f0.f0 a.f1.f0.f1 a.f1.f0.f2 a.f1.f1 a.f2 a.f3 a.f4 a.f5 a.f6 a.f7 a.f8) (oneR a) := by
  unfold asset_checkOne.f oneR
  refine ev_ite (fun h => ev_is (by rw [if_pos (by omega)])) fun h => ?_
  rw [if_neg (show ¬ 16 < a.f8.length from by omega)]
  refine Ev.bind (isName_ev a.f0) ?_
  refine ev_ite (fun hn => ?_) fun hn => ev_is (by rw [if_neg hn])
  rw [if_pos hn]
  refine ev_ite (fun c => one_j a ha (by omega) true ⟨fun e => absurd e (by decide), fun e => absurd e (by omega)⟩) fun c1 => ?_
  refine ev_ite (fun c => one_j a ha (by omega) true ⟨fun e => absurd e (by decide), fun e => absurd e (by omega)⟩) fun c2 => ?_
  refine ev_ite (fun c => one_j a ha (by omega) true ⟨fun e => absurd e (by decide), fun e => absurd e (by omega)⟩) fun c3 => ?_
  exact one_j a ha (by omega) _ (by rw [decide_eq_false_iff_not]; omega)
theorem rng_l (a : S36) (hl : a.f8.length ≤ 1000) : ∀ (d i : Nat), a.f8.length - i = d → i ≤ a.f8.length → Ev (fun k => r18_inRange.l0 k (i : Int) a.f0 a.f1.f0.f0 a.f1.f0.f1 a.f1.f0.f2 a.f1.f1 a.f2 a.f3 a.f4 a.f5 a.f6 a.f7 a.f8) ((a.f8.drop i).all svcB)
  | 0, i, hd, hi => by
    rw [List.drop_of_length_le (by omega), List.all_nil]
    refine Ev.step (f := fun k => some true) (fun k => ?_) (Ev.now _)
    rw [r18_inRange.l0, if_neg (by omega)]
  | d + 1, i, hd, hi => by
    have h : i < a.f8.length := by omega
    have ih := rng_l a hl d (i + 1) (by omega) (by omega)
    have e := sv_get h
    rw [List.drop_eq_getElem_cons h, List.all_cons]
    obtain ⟨s, hs⟩ : ∃ s, a.f8[i] = s := ⟨_, rfl⟩
    rw [hs] at e ⊢
    by_cases hb : svcB s = true
    · have hb2 := of_decide_eq_true hb
      rw [hb, Bool.true_and]
      refine Ev.step (fun k => ?_) ih
      rw [r18_inRange.l0, if_pos (by omega), if_pos (by omega), e]
      rcases hb2.1 with h6 | h17
      · rw [if_pos h6, if_neg (by omega), if_neg (by omega), if_neg (by omega), if_neg (by omega), lx_up (by omega)]
      · rw [if_neg (by omega), if_pos h17, if_neg (by omega), if_neg (by omega), if_neg (by omega), if_neg (by omega), lx_up (by omega)]
    · have hb2 := of_decide_eq_false (Bool.not_eq_true _ ▸ hb)
      rw [show (svcB s && (a.f8.drop (i + 1)).all svcB) = false from by rw [Bool.not_eq_true] at hb; rw [hb, Bool.false_and]]
      refine Ev.step (f := fun _ => some false) (fun k => ?_) (Ev.now _)
      rw [r18_inRange.l0, if_pos (by omega), if_pos (by omega), e]
      by_cases h6 : s.f0 = 6
      · rw [if_pos h6]
        by_cases h1 : s.f1 < 0
        · rw [if_pos h1]
        · by_cases h2 : s.f1 > 65535
          · rw [if_neg h1, if_pos h2]
          · by_cases h3 : s.f2 < 0
            · rw [if_neg h1, if_neg h2, if_pos h3]
            · rw [if_neg h1, if_neg h2, if_neg h3, if_pos (by omega)]
      · rw [if_neg h6]
        by_cases h17 : s.f0 = 17
        · rw [if_pos h17]
          by_cases h1 : s.f1 < 0
          · rw [if_pos h1]
          · by_cases h2 : s.f1 > 65535
            · rw [if_neg h1, if_pos h2]
            · by_cases h3 : s.f2 < 0
              · rw [if_neg h1, if_neg h2, if_pos h3]
              · rw [if_neg h1, if_neg h2, if_neg h3, if_pos (by omega)]
        · rw [if_neg h17]
theorem rng_bad (a : S36) (h : numB a = false) : Ev (fun k => r18_inRange.j0 k true a.f0 a.f1.f0.f0 a.f1.f0.f1 a.f1.f0.f2 a.f1.f1 a.f2 a.f3 a.f4 a.f5 a.f6 a.f7 a.f8) (numB a && a.f8.all svcB) := by
  rw [h, Bool.false_and]
  refine Ev.step (f := fun _ => some false) (fun k => ?_) (Ev.now _)
  rw [r18_inRange.j0, if_pos rfl]
theorem rng_ev (a : S36) (hl : a.f8.length ≤ 1000) : Ev (fun k => r18_inRange.f k a.f0 a.f1.f0.f0 a.f1.f0.f1 a.f1.f0.f2 a.f1.f1 a.f2 a.f3 a.f4 a.f5 a.f6 a.f7 a.f8) (numB a && a.f8.all svcB) := by
  unfold r18_inRange.f
  refine ev_ite (fun c => rng_bad a (decide_eq_false (by omega))) fun c1 => ?_
  refine ev_ite (fun c => rng_bad a (decide_eq_false (by omega))) fun c2 => ?_
  refine ev_ite (fun c => rng_bad a (decide_eq_false (by omega))) fun c3 => ?_
  refine ev_ite (fun c => rng_bad a (decide_eq_false (by omega))) fun c4 => ?_
  refine ev_ite (fun c => rng_bad a (decide_eq_false (by omega))) fun c5 => ?_
  refine ev_ite (fun c => rng_bad a (decide_eq_false (by omega))) fun c6 => ?_
  refine ev_ite (fun c => rng_bad a (decide_eq_false (by omega))) fun c7 => ?_
  refine ev_ite (fun c => rng_bad a (decide_eq_false (by omega))) fun c8 => ?_
  refine ev_ite (fun c => rng_bad a (decide_eq_false (by omega))) fun c9 => ?_
  by_cases c : a.f7 > 3
  · rw [decide_eq_true c]
    exact rng_bad a (decide_eq_false (by omega))
  · rw [decide_eq_false c, show numB a = true from decide_eq_true (by omega), Bool.true_and]
    refine Ev.step (fun k => ?_) (rng_l a hl _ 0 rfl (by omega))
    rw [r18_inRange.j0, if_neg Bool.false_ne_true]
    rfl
def sameS (x y : S74) : Bool := decide (x.f0 = y.f0 ∧ x.f1 = y.f1)
def twR (pre : List S74) : List S74 → Bool
  | [] => false
  | x :: xs => pre.any (sameS x) || twR (pre ++ [x]) xs
theorem take_sv {l : List S74} {i : Nat} (h : i < l.length) : l.take i ++ [l[i]] = l.take (i + 1) := List.take_append_getElem h
theorem tw1 (l : List S74) (hl : l.length ≤ 1000) (i : Nat) (hi : i < l.length) (r : Bool) (hr : Ev (fun k => asset_twice.l0 k l l (l.length : Int) ((i + 1 : Nat) : Int)) r) : ∀ (d j : Nat), i - j = d → j ≤ i → Ev (fun k => asset_twice.l1 k l l (l.length : Int) (i : Int) (l.take i) ((l.take i).length : Int) (j : Int) l[i].f0 l[i].f1 l[i].f2) (((l.take i).drop j).any (sameS l[i]) || r)
  | 0, j, hd, hj => by
    have hlen : (l.take i).length = i := by rw [List.length_take]; omega
    rw [List.drop_of_length_le (by omega), List.any_nil, Bool.false_or]
    refine Ev.step (fun k => ?_) hr
    rw [asset_twice.l1, if_neg (by omega), lx_up (by omega)]
  | d + 1, j, hd, hj => by
    have hlen : (l.take i).length = i := by rw [List.length_take]; omega
    have h : j < (l.take i).length := by omega
    have ih := tw1 l hl i hi r hr d (j + 1) (by omega) (by omega)
    rw [List.drop_eq_getElem_cons h, List.any_cons]
    have e := sv_get h
    obtain ⟨s, hs⟩ : ∃ s, (l.take i)[j] = s := ⟨_, rfl⟩
    rw [hs] at e ⊢
    by_cases hb : sameS l[i] s = true
    · have hb2 := of_decide_eq_true hb
      rw [hb, Bool.true_or, Bool.true_or]
      refine Ev.step (f := fun _ => some true) (fun k => ?_) (Ev.now _)
      rw [asset_twice.l1, if_pos (by omega), if_pos (by omega), if_pos (by omega), e, if_pos hb2.1, if_pos hb2.2]
    · have hb2 := of_decide_eq_false (Bool.not_eq_true _ ▸ hb)
      rw [show sameS l[i] s = false from by simpa using hb, Bool.false_or]
      refine Ev.step (fun k => ?_) ih
      rw [asset_twice.l1, if_pos (by omega), if_pos (by omega), if_pos (by omega), e]
      by_cases h1 : l[i].f0 = s.f0
      · rw [if_pos h1, if_neg (fun h2 => hb2 ⟨h1, h2⟩), lx_up (by omega)]
      · rw [if_neg h1, lx_up (by omega)]
theorem tw0 (l : List S74) (hl : l.length ≤ 1000) : ∀ (d i : Nat), l.length - i = d → i ≤ l.length → Ev (fun k => asset_twice.l0 k l l (l.length : Int) (i : Int)) (twR (l.take i) (l.drop i))
  | 0, i, hd, hi => by
    rw [List.drop_of_length_le (by omega), twR]
    refine Ev.step (f := fun _ => some false) (fun k => ?_) (Ev.now _)
    rw [asset_twice.l0, if_neg (by omega)]
  | d + 1, i, hd, hi => by
    have h : i < l.length := by omega
    have ih := tw0 l hl d (i + 1) (by omega) (by omega)
    rw [List.drop_eq_getElem_cons h, twR, take_sv h]
    have h1 := tw1 l hl i h _ ih _ 0 rfl (by omega)
    rw [List.drop_zero] at h1
    refine Ev.step (fun k => ?_) h1
    rw [asset_twice.l0, if_pos (by omega), if_pos (by omega), if_pos (by omega), if_pos (by omega), Option.bind_some, Int.toNat_natCast, sv_get h]
    rfl
theorem twice_ev (l : List S74) (hl : l.length ≤ 1000) : Ev (fun k => asset_twice.f k l) (twR [] l) := tw0 l hl _ 0 rfl (by omega)
theorem rtw1 (a : S36) (hl : a.f8.length ≤ 1000) (i : Nat) (hi : i < a.f8.length) (r : Bool) (hr : Ev (fun k => r18_twice.l0 k ((i + 1 : Nat) : Int) a.f0 a.f1.f0.f0 a.f1.f0.f1 a.f1.f0.f2 a.f1.f1 a.f2 a.f3 a.f4 a.f5 a.f6 a.f7 a.f8) r) : ∀ (d j : Nat), i - j = d → j ≤ i → Ev (fun k => r18_twice.l1 k (i : Int) (j : Int) a.f0 a.f1.f0.f0 a.f1.f0.f1 a.f1.f0.f2 a.f1.f1 a.f2 a.f3 a.f4 a.f5 a.f6 a.f7 a.f8) (((a.f8.take i).drop j).any (sameS a.f8[i]) || r)
  | 0, j, hd, hj => by
    have hlen : (a.f8.take i).length = i := by rw [List.length_take]; omega
    rw [List.drop_of_length_le (by omega), List.any_nil, Bool.false_or]
    refine Ev.step (fun k => ?_) hr
    rw [r18_twice.l1, if_neg (by omega), lx_up (by omega)]
  | d + 1, j, hd, hj => by
    have hlen : (a.f8.take i).length = i := by rw [List.length_take]; omega
    have h : j < (a.f8.take i).length := by omega
    have hj2 : j < a.f8.length := by omega
    have ih := rtw1 a hl i hi r hr d (j + 1) (by omega) (by omega)
    rw [List.drop_eq_getElem_cons h, List.any_cons, List.getElem_take]
    have e := sv_get hj2
    have e2 := sv_get hi
    obtain ⟨s, hs⟩ : ∃ s, a.f8[j] = s := ⟨_, rfl⟩
    rw [hs] at e ⊢
    by_cases hb : sameS a.f8[i] s = true
    · have hb2 := of_decide_eq_true hb
      rw [hb, Bool.true_or, Bool.true_or]
      refine Ev.step (f := fun _ => some true) (fun k => ?_) (Ev.now _)
      rw [r18_twice.l1, if_pos (by omega), if_pos (by omega), if_pos (by omega), if_pos (by omega), if_pos (by omega), e, e2, if_pos hb2.1, if_pos hb2.2]
    · have hb2 := of_decide_eq_false (Bool.not_eq_true _ ▸ hb)
      rw [show sameS a.f8[i] s = false from by simpa using hb, Bool.false_or]
      refine Ev.step (fun k => ?_) ih
      rw [r18_twice.l1, if_pos (by omega), if_pos (by omega), if_pos (by omega), if_pos (by omega), if_pos (by omega), e, e2]
      by_cases h1 : a.f8[i].f0 = s.f0
      · rw [if_pos h1, if_neg (fun h2 => hb2 ⟨h1, h2⟩), lx_up (by omega)]
      · rw [if_neg h1, lx_up (by omega)]
theorem rtw0 (a : S36) (hl : a.f8.length ≤ 1000) : ∀ (d i : Nat), a.f8.length - i = d → i ≤ a.f8.length → Ev (fun k => r18_twice.l0 k (i : Int) a.f0 a.f1.f0.f0 a.f1.f0.f1 a.f1.f0.f2 a.f1.f1 a.f2 a.f3 a.f4 a.f5 a.f6 a.f7 a.f8) (twR (a.f8.take i) (a.f8.drop i))
  | 0, i, hd, hi => by
    rw [List.drop_of_length_le (by omega), twR]
    refine Ev.step (f := fun _ => some false) (fun k => ?_) (Ev.now _)
    rw [r18_twice.l0, if_neg (by omega)]
  | d + 1, i, hd, hi => by
    have h : i < a.f8.length := by omega
    have ih := rtw0 a hl d (i + 1) (by omega) (by omega)
    rw [List.drop_eq_getElem_cons h, twR, take_sv h]
    have h1 := rtw1 a hl i h _ ih _ 0 rfl (by omega)
    rw [List.drop_zero] at h1
    refine Ev.step (fun k => ?_) h1
    rw [r18_twice.l0, if_pos (by omega)]
    rfl
theorem rtwice_ev (a : S36) (hl : a.f8.length ≤ 1000) : Ev (fun k => r18_twice.f k a.f0 a.f1.f0.f0 a.f1.f0.f1 a.f1.f0.f2 a.f1.f1 a.f2 a.f3 a.f4 a.f5 a.f6 a.f7 a.f8) (twR [] a.f8) := rtw0 a hl _ 0 rfl (by omega)
theorem dig_tab : ((List.range 10).all fun m => (strOfNums [(wrap64 (48 + (m : Int))) % 256]).data.toList == [UInt8.ofNat (48 + m)]) = true := by kernel_rfl
theorem dig_eq {m : Nat} (h : m < 10) : strOfNums [(wrap64 (48 + (m : Int))) % 256] = ⟨#[UInt8.ofNat (48 + m)]⟩ := by
  have := List.all_eq_true.1 dig_tab m (List.mem_range.2 h)
  rw [beq_iff_eq] at this
  apply ByteArray.ext
  rw [← Array.toList_inj, this]
theorem rnum0 : ∀ (d n : Nat) (t : ByteArray), d ≤ 9 → n < 10 ^ (d + 1) → t.size + d ≤ 100 → Ev (fun k => r06_Number.l0 k (n : Int) t) ((⟨(Lib.decDigits n).toArray⟩ : ByteArray) ++ t) := by
  intro d
  induction d with
  | zero =>
    intro n t hd hn ht
    have hn : n < 10 := by simpa using hn
    refine Ev.step (f := fun _ => some ((⟨(Lib.decDigits n).toArray⟩ : ByteArray) ++ t)) (fun k => ?_) (Ev.now _)
    rw [r06_Number.l0, if_neg (by omega), Option.bind_some, dig_eq hn, if_pos (by show 1 + t.size ≤ _; omega), Lib.decDigits_one hn]
  | succ d ih =>
    intro n t hd hn ht
    by_cases h : n < 10
    · refine Ev.step (f := fun _ => some ((⟨(Lib.decDigits n).toArray⟩ : ByteArray) ++ t)) (fun k => ?_) (Ev.now _)
      rw [r06_Number.l0, if_neg (by omega), Option.bind_some, dig_eq h, if_pos (by show 1 + t.size ≤ _; omega), Lib.decDigits_one h]
    · have hm : n % 10 < 10 := Nat.mod_lt _ (by decide)
      have hq : n / 10 < 10 ^ (d + 1) := Nat.div_lt_of_lt_mul (by rw [Nat.pow_succ, Nat.mul_comm] at hn; exact hn)
      have hb : n < 9223372036854775808 := by
        have := Nat.pow_le_pow_right (show 0 < 10 by decide) (show d + 1 + 1 ≤ 10 by omega)
        rw [show (10 : Nat) ^ 10 = 10000000000 from by decide] at this
        omega
      have := ih (n / 10) (⟨#[UInt8.ofNat (48 + n % 10)]⟩ ++ t) (by omega) hq (by rw [ByteArray.size_append, show (⟨#[UInt8.ofNat (48 + n % 10)]⟩ : ByteArray).size = 1 from rfl]; omega)
      rw [show (⟨(Lib.decDigits n).toArray⟩ : ByteArray) ++ t = ⟨(Lib.decDigits (n / 10)).toArray⟩ ++ (⟨#[UInt8.ofNat (48 + n % 10)]⟩ ++ t) from by rw [Lib.decDigits, dif_neg h]; exact ba_app _ _ _]
      refine Ev.step (fun k => ?_) this
      have e1 : Int.tmod (n : Int) 10 = ((n % 10 : Nat) : Int) := rfl
      have e2 : wrap64 (Int.tdiv (n : Int) 10) = ((n / 10 : Nat) : Int) := by rw [show Int.tdiv (n : Int) 10 = ((n / 10 : Nat) : Int) from rfl, wid (by omega) (by omega)]
      rw [r06_Number.l0, if_pos (by omega), Option.bind_some, e1, e2, dig_eq hm, if_pos (by show 1 + t.size ≤ _; omega)]
theorem ba_nil (s : ByteArray) : s ++ ⟨#[]⟩ = s := by apply ByteArray.ext; rw [ByteArray.data_append]; simp
theorem rnum_ev {n : Int} (h0 : 0 ≤ n) (h1 : n ≤ 1000000) : Ev (fun k => r06_Number.f k n) (decB n) := by
  have := rnum0 9 n.toNat ⟨#[]⟩ (by omega) (by rw [show (10 : Nat) ^ (9 + 1) = 10000000000 from by decide]; omega) (by decide)
  rw [ba_nil, show ((n.toNat : Nat) : Int) = n from by omega] at this
  rw [show decB n = ⟨(Lib.decDigits n.toNat).toArray⟩ from by unfold decB Lib.itoa; rw [if_neg (by omega)]]
  exact this
theorem decB_size {n : Int} (h0 : 0 ≤ n) (h1 : n ≤ 1000000) : (decB n).size ≤ 21 := by
  have := Lib.itoa_length_le n (by omega) (by omega)
  show (Lib.itoa n).toArray.size ≤ 21
  simpa using this
def chkR (pre : List S36) : List S36 → Int
  | [] => 0
  | b :: bs => if oneR b = 0 then (if (pre.any fun x => clash x b) = true then 7 else if twR [] b.f8 = true then 7 else chkR (pre ++ [b]) bs) else oneR b
theorem one_len {b : S36} (h : oneR b = 0) : b.f8.length ≤ 16 := by
  unfold oneR at h
  split at h
  · cases h
  · omega
theorem take_as {l : List S36} {i : Nat} (h : i < l.length) : l.take i ++ [l[i]] = l.take (i + 1) := List.take_append_getElem h
theorem chk_l (l : List S36) (ha : ∀ x ∈ l, AW x.f1.f0) : ∀ (d i : Nat), l.length - i = d → i ≤ l.length → Ev (fun k => asset_Check.l0 k l i) (chkR (l.take i) (l.drop i))
  | 0, i, hd, hi => by
    rw [List.drop_of_length_le (by omega), chkR]
    refine Ev.step (f := fun _ => some 0) (fun k => ?_) (Ev.now _)
    rw [asset_Check.l0, if_neg (by omega)]
  | d + 1, i, hd, hi => by
    have h : i < l.length := by omega
    have ih := chk_l l ha d (i + 1) (by omega) (by omega)
    rw [List.drop_eq_getElem_cons h, chkR, take_as h]
    refine Ev.step (f := fun k => (asset_checkOne.f k l[i].f0 l[i].f1.f0.f0 l[i].f1.f0.f1 l[i].f1.f0.f2 l[i].f1.f1 l[i].f2 l[i].f3 l[i].f4 l[i].f5 l[i].f6 l[i].f7 l[i].f8).bind fun e => if e = 0 then (if ((l.take i).any fun b => clash b l[i]) = true then some 7 else (asset_twice.f k l[i].f8).bind fun t => if t = true then some 7 else asset_Check.l0 k l (i + 1)) else some e) (fun k => by rw [asset_Check.l0, if_pos h, as_get h]) ?_
    refine Ev.bind (one_ev _ (ha _ (List.getElem_mem h))) ?_
    refine ev_ite (fun h0 => ?_) fun h0 => ev_is (by rw [if_neg h0])
    rw [if_pos h0]
    refine ev_ite (fun h1 => ev_is (by rw [if_pos h1])) fun h1 => ?_
    rw [if_neg h1]
    refine Ev.bind (twice_ev _ (by have := one_len h0; omega)) ?_
    refine ev_ite (fun h2 => ev_is (by rw [if_pos h2])) fun h2 => ?_
    rw [if_neg h2]
    exact ih
def chkB (l : List S36) : Int := if (l.length : Int) > 64 then 3 else chkR [] l
theorem check_ev (l : List S36) (ha : ∀ x ∈ l, AW x.f1.f0) : Ev (fun k => asset_Check.f k l) (chkB l) := by
  unfold asset_Check.f chkB
  refine ev_ite (fun h => ev_is (by rw [if_pos h])) fun h => ?_
  rw [if_neg h]
  exact chk_l l ha _ 0 rfl (by omega)
theorem rone_ev (b : S36) (ha : AW b.f1.f0) : Ev (fun k => refOne k b) (oneR b) := by
  unfold refOne oneR
  refine ev_ite (fun h => ev_is (by rw [if_pos (by omega)])) fun h => ?_
  rw [if_neg (show ¬ 16 < b.f8.length from by omega)]
  refine Ev.bind (rIsName_ev b.f0) ?_
  refine ev_ite (fun hn => ?_) fun hn => ev_is (by rw [if_neg hn])
  rw [if_pos hn]
  refine Ev.bind (rng_ev b (by omega)) ?_
  refine ev_ite (fun hq => ?_) fun hq => ev_is (by rw [if_neg hq])
  rw [if_pos hq]
  refine Ev.bind (rvp_ev ha b.f1.f1) ?_
  exact ev_ite (fun hv => ev_is (by rw [if_pos hv])) fun hv => ev_is (by rw [if_neg hv])
theorem rchk_l (l : List S36) (ha : ∀ x ∈ l, AW x.f1.f0) : ∀ (d i : Nat), l.length - i = d → i ≤ l.length → Ev (fun k => r18_Check.l0 k l i) (chkR (l.take i) (l.drop i))
  | 0, i, hd, hi => by
    rw [List.drop_of_length_le (by omega), chkR]
    refine Ev.step (f := fun _ => some 0) (fun k => ?_) (Ev.now _)
    rw [r18_Check.l0, if_neg (by omega)]
  | d + 1, i, hd, hi => by
    have h : i < l.length := by omega
    have ih := rchk_l l ha d (i + 1) (by omega) (by omega)
    rw [List.drop_eq_getElem_cons h, chkR, take_as h]
    refine Ev.step (f := fun k => (refOne k l[i]).bind fun e => if e = 0 then (if ((l.take i).any fun b => clash b l[i]) = true then some 7 else (refTwice k l[i]).bind fun t => if t = true then some 7 else r18_Check.l0 k l (i + 1)) else some e) (fun k => by rw [r18_Check.l0, if_pos h, as_get h]) ?_
    refine Ev.bind (rone_ev _ (ha _ (List.getElem_mem h))) ?_
    refine ev_ite (fun h0 => ?_) fun h0 => ev_is (by rw [if_neg h0])
    rw [if_pos h0]
    refine ev_ite (fun h1 => ev_is (by rw [if_pos h1])) fun h1 => ?_
    rw [if_neg h1]
    refine Ev.bind (rtwice_ev _ (by have := one_len h0; omega)) ?_
    refine ev_ite (fun h2 => ev_is (by rw [if_pos h2])) fun h2 => ?_
    rw [if_neg h2]
    exact ih
theorem rcheck_ev (l : List S36) (ha : ∀ x ∈ l, AW x.f1.f0) : Ev (fun k => r18_Check.f k l) (chkB l) := by
  unfold r18_Check.f chkB
  refine ev_ite (fun h => ev_is (by rw [if_pos h])) fun h => ?_
  rw [if_neg h]
  exact rchk_l l ha _ 0 rfl (by omega)
theorem chkR_one : ∀ (l pre : List S36), chkR pre l = 0 → ∀ b ∈ l, oneR b = 0
  | [], _, _, b, hb => by cases hb
  | x :: xs, pre, h, b, hb => by
    rw [chkR] at h
    split at h
    · rename_i h0
      rcases List.mem_cons.1 hb with rfl | hb
      · exact h0
      · split at h
        · cases h
        · split at h
          · cases h
          · exact chkR_one xs _ h b hb
    · rename_i h0
      exact absurd h h0
theorem chkB_one {l : List S36} (h : chkB l = 0) : l.length ≤ 64 ∧ ∀ b ∈ l, oneR b = 0 := by
  unfold chkB at h
  split at h
  · cases h
  · exact ⟨by omega, chkR_one l [] h⟩
structure GoodA (a : S36) : Prop where
  f8 : a.f8.length ≤ 16
  name : nameB a.f0.data.toList = true
  num : 1 ≤ a.f2 ∧ a.f2 ≤ 4 ∧ 1 ≤ a.f3 ∧ a.f3 ≤ 5 ∧ 0 ≤ a.f4 ∧ a.f4 ≤ 64 ∧ 1 ≤ a.f5 ∧ a.f5 ≤ 8192 ∧ 0 ≤ a.f7 ∧ a.f7 ≤ 3
  svc : ∀ s ∈ a.f8, (s.f0 = 6 ∨ s.f0 = 17) ∧ 0 ≤ s.f1 ∧ s.f1 ≤ 65535 ∧ 0 ≤ s.f2 ∧ s.f2 ≤ 4
  vp : vpB a.f1.f0 a.f1.f1 = true
theorem good_of {a : S36} (h : oneR a = 0) : GoodA a := by
  have hl := one_len h
  unfold oneR at h
  rw [if_neg (by omega)] at h
  split at h
  · rename_i hn
    split at h
    · rename_i hq
      split at h
      · rename_i hv
        rw [Bool.and_eq_true, List.all_eq_true] at hq
        exact ⟨hl, hn, of_decide_eq_true hq.1, fun s hs => of_decide_eq_true (hq.2 s hs), hv⟩
      · cases h
    · cases h
  · cases h
theorem GoodA.fine {a : S36} (h : GoodA a) : fineB a = true := by
  have hs : a.f0.size ≤ 100 := by
    have := h.name
    unfold nameB at this
    simp only [Bool.and_eq_true, decide_eq_true_eq] at this
    rw [size_list]
    omega
  have hn := h.num
  have hl := h.f8
  unfold fineB
  simp only [Bool.and_eq_true, decide_eq_true_eq, List.all_eq_true]
  refine ⟨⟨⟨⟨⟨⟨⟨⟨⟨⟨⟨⟨hs, by omega⟩, by omega⟩, by omega⟩, by omega⟩, by omega⟩, by omega⟩, by omega⟩, by omega⟩, by omega⟩, by omega⟩, by omega⟩, fun s hs => ?_⟩
  have := h.svc s hs
  exact ⟨⟨⟨by omega, by omega⟩, by omega⟩, by omega⟩
theorem GoodA.bits {a : S36} (h : GoodA a) : 0 ≤ a.f1.f1 ∧ a.f1.f1 ≤ szA a.f1.f0.f0 ∧ a.f1.f1 < 256 := by
  have := h.vp
  unfold vpB at this
  simp only [Bool.and_eq_true, decide_eq_true_eq] at this
  have h2 := szA_le a.f1.f0.f0
  omega
def fpA (a : S36) : ByteArray := txtP a.f1.f0 a.f1.f1
theorem GoodA.fp {a : S36} (h : GoodA a) : address_FormatPrefix.f a.f1.f0.f0 a.f1.f0.f1 a.f1.f0.f2 a.f1.f1 = some (fpA a) := fp_eq a.f1.f0 h.bits.1 h.bits.2.2
theorem GoodA.fps {a : S36} (h : GoodA a) : (fpA a).size ≤ 1000 := by
  have h1 := txtA_size a.f1.f0
  have h2 := decB_size h.bits.1 (by have := h.bits.2.2; omega)
  unfold fpA txtP
  rw [ByteArray.size_append, ByteArray.size_append, show (⟨#[47]⟩ : ByteArray).size = 1 from rfl]
  omega
theorem fmt_l (l : List S36) (hg : ∀ a ∈ l, GoodA a) : ∀ (d i : Nat) (out : List UInt8), l.length - i = d → i ≤ l.length → Ev (fun k => asset_Format.l0 k l i out) (out ++ ((l.drop i).map fun a => linePart a (fpA a)).flatten)
  | 0, i, out, hd, hi => by
    rw [List.drop_of_length_le (by omega)]
    refine Ev.step (f := fun _ => some out) (fun k => ?_) (ev_is (by simp))
    rw [asset_Format.l0, if_neg (by omega)]
  | d + 1, i, out, hd, hi => by
    have h : i < l.length := by omega
    have g := hg _ (List.getElem_mem h)
    have ih := fmt_l l hg d (i + 1) (out ++ linePart l[i] (fpA l[i])) (by omega) (by omega)
    rw [List.drop_eq_getElem_cons h, List.map_cons, List.flatten_cons, ← List.append_assoc]
    refine Ev.step (fun k => ?_) ih
    rw [asset_Format.l0, if_pos h, as_get h, if_pos g.fine, g.fp, Option.bind_some, if_pos g.fps]
def fmtB (l : List S36) : ByteArray := if chkB l = 0 then ⟨((l.map fun a => linePart a (fpA a)).flatten).toArray⟩ else ⟨#[]⟩
theorem format_ev (l : List S36) (ha : ∀ x ∈ l, AW x.f1.f0) : Ev (fun k => asset_Format.f k l) (fmtB l) := by
  unfold asset_Format.f fmtB
  refine Ev.bind (check_ev l ha) ?_
  refine ev_ite (fun h => ?_) fun h => ev_is (by rw [if_neg h])
  rw [if_pos h]
  obtain ⟨h1, h2⟩ := chkB_one h
  refine Ev.congr (fun k => if_pos (by omega)) (Ev.bind (fmt_l l (fun a ha => good_of (h2 a ha)) _ 0 [] rfl (by omega)) ?_)
  exact ev_is (by rw [List.nil_append, List.drop_zero])
theorem ba_list (s t : ByteArray) : (s ++ t).data.toList = s.data.toList ++ t.data.toList := by rw [ByteArray.data_append]; simp
theorem rsPol_list {lit word : ByteArray} (h : lit.data.toList = sp.data.toList ++ word.data.toList ++ sp.data.toList) (n : Int) (s : ByteArray) : (rsPol lit n s).data.toList = s.data.toList ++ namePart word n := by
  unfold rsPol namePart
  split
  · simp
  · simp only [ba_list, h, List.append_assoc]
theorem rsNum_list {lit word : ByteArray} (h : lit.data.toList = sp.data.toList ++ word.data.toList ++ sp.data.toList) (n u : Int) (s : ByteArray) : (rsNum lit (decB n) n u s).data.toList = s.data.toList ++ numPart word n u := by
  unfold rsNum numPart
  split
  · simp
  · simp only [ba_list, h, List.append_assoc, decB]
theorem rsFold_list : ∀ (l : List S74), (∀ x ∈ l, x.f0 = 6 ∨ x.f0 = 17) → ∀ s : ByteArray, (rsFold l (l.map fun x => decB x.f1) s).data.toList = s.data.toList ++ (l.map svcPart).flatten
  | [], _, s => by simp [rsFold]
  | x :: xs, h, s => by
    rw [List.map_cons, rsFold, rsFold_list xs (fun y hy => h y (List.mem_cons_of_mem _ hy)), List.map_cons, List.flatten_cons, ← List.append_assoc]
    congr 1
    unfold rsSvc svcPart
    rcases h x (List.mem_cons_self ..) with h6 | h17
    · rw [if_pos h6, if_neg (show ¬ x.f0 = 17 by omega)]
      simp only [ba_list, List.append_assoc, decB]
      rfl
    · rw [if_neg (show ¬ x.f0 = 6 by omega), if_pos h17]
      simp only [ba_list, List.append_assoc, decB]
      rfl
theorem rsAll_list {a : S36} (g : GoodA a) (fp : ByteArray) : (rsAll a fp (decB a.f4) (decB a.f5) (decB a.f7) (a.f8.map fun x => decB x.f1)).data.toList ++ [10] = linePart a fp := by
  unfold rsAll linePart headPart
  rw [ba_list, rsFold_list _ (fun x hx => (g.svc x hx).1), rsNum_list (word := ⟨#[118, 97, 108, 117, 101]⟩) rfl]
  have hst : ∀ s : ByteArray, (if a.f6 = true then s ++ ⟨#[32, 115, 116, 97, 109, 112, 115]⟩ else s).data.toList = s.data.toList ++ (if a.f6 = true then [32, 115, 116, 97, 109, 112, 115] else []) := by
    intro s
    split
    · rw [ba_list]
    · simp
  dsimp only
  rw [hst, rsNum_list (word := ⟨#[119, 105, 110, 100, 111, 119]⟩) rfl, rsNum_list (word := ⟨#[104, 111, 112, 115]⟩) rfl, rsPol_list (word := ⟨#[102, 114, 97, 103]⟩) rfl, rsPol_list (word := ⟨#[112, 111, 108, 105, 99, 121]⟩) rfl]
  simp only [ba_list, List.append_assoc]
  rfl
theorem rsList_ev : ∀ (l : List S74), (∀ x ∈ l, 0 ≤ x.f1 ∧ x.f1 ≤ 65535) → Ev (fun k => rsList k l) (l.map fun x => decB x.f1)
  | [], _ => Ev.now _
  | x :: xs, h => by
    have h1 := h x (List.mem_cons_self ..)
    exact Ev.bind (rnum_ev h1.1 (by omega)) (Ev.bind (rsList_ev xs fun y hy => h y (List.mem_cons_of_mem _ hy)) (Ev.now _))
def stB (a : S36) : ByteArray := rsAll a (fpA a) (decB a.f4) (decB a.f5) (decB a.f7) (a.f8.map fun x => decB x.f1)
theorem GoodA.st {a : S36} (h : GoodA a) : Ev (fun k => r18_Statement.f k a.f0 a.f1.f0.f0 a.f1.f0.f1 a.f1.f0.f2 a.f1.f1 a.f2 a.f3 a.f4 a.f5 a.f6 a.f7 a.f8) (stB a) := by
  have hn := h.num
  have s4 := decB_size (n := a.f4) (by omega) (by omega)
  have s5 := decB_size (n := a.f5) (by omega) (by omega)
  have s7 := decB_size (n := a.f7) (by omega) (by omega)
  refine Ev.bind (rfp_ev a.f1.f0 h.bits.1 h.bits.2.2) (Ev.bind (rnum_ev (n := a.f4) (by omega) (by omega)) (Ev.bind (rnum_ev (n := a.f5) (by omega) (by omega)) (Ev.bind (rnum_ev (n := a.f7) (by omega) (by omega)) (Ev.bind (rsList_ev a.f8 fun x hx => ⟨(h.svc x hx).2.1, (h.svc x hx).2.2.1⟩) ?_))))
  refine Ev.congr (fun k => if_pos ?_) (Ev.now _)
  have hf := h.fine
  have hfp := h.fps
  unfold fpA at hfp
  simp only [Bool.and_eq_true, decide_eq_true_eq, List.all_eq_true]
  refine ⟨⟨⟨⟨⟨hf, hfp⟩, by omega⟩, by omega⟩, by omega⟩, fun t ht => ?_⟩
  obtain ⟨x, hx, rfl⟩ := List.mem_map.1 ht
  have := h.svc x hx
  have := decB_size (n := x.f1) (by omega) (by omega)
  omega
theorem GoodA.stl {a : S36} (h : GoodA a) : (stB a ++ ⟨#[10]⟩).data.toList = linePart a (fpA a) := by rw [ba_list]; exact rsAll_list h (fpA a)
theorem GoodA.sts {a : S36} (h : GoodA a) : (stB a ++ ⟨#[10]⟩).size ≤ 30000 := by rw [size_list, h.stl]; exact line_size (fine_of h.fine) h.fps
theorem rfmt_l (l : List S36) (hg : ∀ a ∈ l, GoodA a) (hl : l.length ≤ 64) : ∀ (d i : Nat) (s : ByteArray), l.length - i = d → i ≤ l.length → s.size ≤ 30000 * i → Ev (fun k => r18_Format.l0 k l s (i : Int)) (s ++ ⟨(((l.drop i).map fun a => linePart a (fpA a)).flatten).toArray⟩)
  | 0, i, s, hd, hi, hs => by
    rw [List.drop_of_length_le (by omega)]
    refine Ev.step (f := fun _ => some s) (fun k => ?_) (ev_is (ba_nil s).symm)
    rw [r18_Format.l0, if_neg (by omega)]
  | d + 1, i, s, hd, hi, hs => by
    have h : i < l.length := by omega
    have g := hg _ (List.getElem_mem h)
    have h3 := g.sts
    have ih := rfmt_l l hg hl d (i + 1) (s ++ (stB l[i] ++ ⟨#[10]⟩)) (by omega) (by omega) (by rw [ByteArray.size_append]; omega)
    have e : s ++ ⟨(((l.drop i).map fun a => linePart a (fpA a)).flatten).toArray⟩ = (s ++ (stB l[i] ++ ⟨#[10]⟩)) ++ ⟨(((l.drop (i + 1)).map fun a => linePart a (fpA a)).flatten).toArray⟩ := by
      rw [List.drop_eq_getElem_cons h, List.map_cons, List.flatten_cons]
      apply ByteArray.ext
      rw [← Array.toList_inj, ba_list, ba_list, ba_list, g.stl]
      simp
    rw [e]
    have h4 : (stB l[i]).size + 1 ≤ 30000 := by rw [ByteArray.size_append] at h3; exact h3
    refine Ev.step (f := fun k => (r18_Statement.f k l[i].f0 l[i].f1.f0.f0 l[i].f1.f0.f1 l[i].f1.f0.f2 l[i].f1.f1 l[i].f2 l[i].f3 l[i].f4 l[i].f5 l[i].f6 l[i].f7 l[i].f8).bind fun t => if t.size + 1 ≤ 9223372036854775807 then (if s.size + (t ++ (⟨#[10]⟩ : ByteArray)).size ≤ 9223372036854775807 then (r18_Format.l0 k l (s ++ (t ++ (⟨#[10]⟩ : ByteArray))) ((i + 1 : Nat) : Int)) else none) else none) (fun k => by rw [r18_Format.l0, if_pos (by omega), if_pos (by omega), as_get h, lx_up (by omega)]) (Ev.bind g.st ?_)
    exact Ev.congr (fun k => if_pos (by omega)) (Ev.congr (fun k => if_pos (by omega)) ih)
theorem rformat_ev (l : List S36) (ha : ∀ x ∈ l, AW x.f1.f0) : Ev (fun k => r18_Format.f k l) (fmtB l) := by
  unfold r18_Format.f fmtB
  refine Ev.bind (rcheck_ev l ha) ?_
  refine ev_ite (fun h => ?_) fun h => ev_is (by rw [if_neg h])
  rw [if_pos h]
  obtain ⟨h1, h2⟩ := chkB_one h
  refine ev_to ?_ (rfmt_l l (fun a ha => good_of (h2 a ha)) h1 _ 0 ⟨#[]⟩ rfl (by omega) (by decide))
  rw [List.drop_zero]
  apply ByteArray.ext
  rw [ByteArray.data_append]
  simp
def smallB (a : S36) : Bool := decide (a.f8.length ≤ 20) && decide (a.f0.size ≤ 100)
theorem few_l (l : List S36) : ∀ (d i : Nat), 71 - i = d → i ≤ 71 → i ≤ l.length → Ev (fun k => r18_Few.l0 k l (i : Int)) (((l.take 71).drop i).all smallB && decide ((l.length : Int) ≤ 70)) := by
  intro d
  induction d with
  | zero =>
    intro i hd hi hl
    have e : i = 71 := by omega
    have h0 : (l.take 71).drop i = [] := List.drop_of_length_le (by rw [List.length_take]; omega)
    rw [h0, List.all_nil, Bool.true_and]
    by_cases h : i < l.length
    · refine Ev.step (f := fun k => r18_Few.j1 k l (i : Int) false) (fun k => by rw [r18_Few.l0, if_pos (by omega), decide_eq_false (show ¬ (i : Int) < 71 by omega)]) ?_
      refine Ev.step (f := fun _ => some (decide ((l.length : Int) ≤ 70))) (fun k => by rw [r18_Few.j1, if_neg Bool.false_ne_true]) (Ev.now _)
    · refine Ev.step (f := fun k => r18_Few.j1 k l (i : Int) false) (fun k => by rw [r18_Few.l0, if_neg (by omega)]) ?_
      refine Ev.step (f := fun _ => some (decide ((l.length : Int) ≤ 70))) (fun k => by rw [r18_Few.j1, if_neg Bool.false_ne_true]) (Ev.now _)
  | succ d ih =>
    intro i hd hi hl
    by_cases h : i < l.length
    · have h2 : i < (l.take 71).length := by rw [List.length_take]; omega
      rw [List.drop_eq_getElem_cons h2, List.all_cons, List.getElem_take]
      refine Ev.step (f := fun k => r18_Few.j1 k l (i : Int) true) (fun k => by rw [r18_Few.l0, if_pos (by omega), decide_eq_true (show (i : Int) < 71 by omega)]) ?_
      by_cases h3 : (l[i].f8.length : Int) > 20
      · rw [show smallB l[i] = false from by unfold smallB; rw [decide_eq_false (by omega), Bool.false_and], Bool.false_and, Bool.false_and]
        refine Ev.step (f := fun _ => some false) (fun k => by rw [r18_Few.j1, if_pos rfl, if_pos (by omega), if_pos (by omega), as_get h, if_pos h3]) (Ev.now _)
      · by_cases h4 : (l[i].f0.size : Int) > 100
        · rw [show smallB l[i] = false from by unfold smallB; rw [decide_eq_false (show ¬ l[i].f0.size ≤ 100 by omega), Bool.and_false], Bool.false_and, Bool.false_and]
          refine Ev.step (f := fun _ => some false) (fun k => by rw [r18_Few.j1, if_pos rfl, if_pos (by omega), if_pos (by omega), as_get h, if_neg h3, if_pos h4]) (Ev.now _)
        · rw [show smallB l[i] = true from by unfold smallB; rw [decide_eq_true (by omega), decide_eq_true (by omega)]; rfl, Bool.true_and]
          refine Ev.step (fun k => ?_) (ih (i + 1) (by omega) (by omega) (by omega))
          rw [r18_Few.j1, if_pos rfl, if_pos (by omega), if_pos (by omega), as_get h, if_neg h3, if_neg h4, lx_up (by omega)]
    · have h0 : (l.take 71).drop i = [] := List.drop_of_length_le (by rw [List.length_take]; omega)
      rw [h0, List.all_nil, Bool.true_and]
      refine Ev.step (f := fun k => r18_Few.j1 k l (i : Int) false) (fun k => by rw [r18_Few.l0, if_neg (by omega)]) ?_
      refine Ev.step (f := fun _ => some (decide ((l.length : Int) ≤ 70))) (fun k => by rw [r18_Few.j1, if_neg Bool.false_ne_true]) (Ev.now _)
def fewB (l : List S36) : Bool := (l.take 71).all smallB && decide ((l.length : Int) ≤ 70)
theorem few_ev (l : List S36) : Ev (fun k => r18_Few.f k l) (fewB l) := few_l l _ 0 rfl (by omega) (by omega)
theorem one_def : Ev (fun k => r18_One.f k (⟨#[100, 101, 102, 97, 117, 108, 116]⟩ : ByteArray) false 0 0 0 1 1 0 8192 false 1 ([] : List (S74)) (⟨#[100, 101, 102, 97, 117, 108, 116]⟩ : ByteArray) false 0 0 0 1 1 0 8192 false 1 ([] : List (S74))) true :=
  Ev.of (fun k => r18_One.mono _ _ _ _ _ _ _ _ _ _ _ _ _ _ _ _ _ _ _ _ _ _ _ _ k) (k := 4) (by kernel_rfl)
end Go.Proofs.YtnphnhkinjppjaaGreatDoor.Q
end

section
namespace Go.Proofs.YtnphnhkinjppjaaGreatDoor.Pure
open Go.RowKit Go.Proofs.YtnphnhkinjppjaaGreatDoor.Q Go.Proofs.YtnphnhkinjppjaaGreatDoorW.PrintWords Go.Proofs.YtnphnhkinjppjaaGreatDoorW.PrintLast
theorem AssetChecks : ∀ (l0 : List (S36)), l0.length ≤ maxLen → (∀ x ∈ l0, q36 x) → ∃ k, w18_AssetChecks.f k l0 = some true := by
  intro l _ hq
  have ha : ∀ x ∈ l, AW x.f1.f0 := fun x hx => aw_of (hq x hx).2.1.1
  refine Ev.rounds (g := fun k => w18_AssetChecks.f k l) ?_
  unfold w18_AssetChecks.f
  refine Ev.bind (few_ev l) ?_
  refine ev_ite (fun h => ?_) fun h => Ev.now _
  refine Ev.bind (check_ev l ha) (Ev.bind (rcheck_ev l ha) (Ev.congr (fun k => if_pos rfl) ?_))
  refine Ev.bind (format_ev l ha) (Ev.bind (rformat_ev l ha) (Ev.congr (fun k => if_pos rfl) ?_))
  refine Ev.bind (Ev.now _) (Ev.bind (Ev.now _) (Ev.bind one_def ?_))
  exact Ev.congr (fun k => if_pos rfl) (Ev.now _)
end Go.Proofs.YtnphnhkinjppjaaGreatDoor.Pure
end

section
set_option maxHeartbeats 8000000
set_option maxRecDepth 100000
namespace Go.Proofs.YtnphnhkinjppjaaGreatDoor.Q
open Go.RowKit
theorem returns_laid {H : Type} {enc : TypeId × Value → H} {a : Assume} {C : Checked} {os : Os} {f : FuncId} {fn : Func} {s : ChangeSpec} {conds : List PathCond} {apart fresh handsOn again : Bool} {X : World → Array Value → Prop}
    (hX : ∀ (w w' : World) (args : Array Value), w.heap = w'.heap → X w args → X w' args)
    (own : ownKnob C.prog.godebug = none) (started : os.Started) (noInit : C.prog.inits.idxOf? f = none) (hfn : C.prog.funcs[f]? = some fn)
    (witness : ∃ (w : World) (tape : Tape) (i : Input), w.os = os ∧ (w.forCall tape i).Shaped C.prog ∧ i.vars = [] ∧ Input.okWide C.prog (w.forCall tape i) .any w.heap.size f i ∧
      ((s.pre enc C.prog fn conds apart (w.forCall tape i).memory i.args ∧ X (w.forCall tape i).memory i.args) ∧ sizedMet enc C.prog fn (OpenSpec.ofChange s) apart (w.forCall tape i).memory i.args) ∧ a.holds C.prog (lone (Frame.enter C.prog f i.args .normal) [] (w.forCall tape i)))
    (contract : ∀ (W : World) (base : Nat) (args : Array Value) (ds gs : List (DataW H)) (before : List MemPlace),
      (∀ (j : Nat) t v, fn.params[j]? = some t → args[j]? = some v → Value.okWide C.prog W .any base t v) →
      DataW.Whole enc C.prog fn.params.toList s.vars apart W args.toList ds gs before →
      conds.all (PathCond.test C.prog ⟨fn.params.toList, ds, s.plain.varTypes C.prog, gs⟩) = true →
      (DataW.weightsEach C.prog (fn.params.toList ++ s.plain.varTypes C.prog) (ds ++ gs)).all (· ≤ reachBytes) = true → X W args → W.ShapedOpen C.prog →
      a.holds C.prog (lone (Frame.enter C.prog f args .normal) [] W) →
      Calls C.prog f args W fun e W' => ∃ v, e = .returned v ∧ s.post enc C.prog fn apart fresh handsOn again W args v W') :
    ReturnsInHanded a C os f .any (fun w args => (s.pre enc C.prog fn conds apart w args ∧ X w args) ∧ sizedMet enc C.prog fn (OpenSpec.ofChange s) apart w args) (s.post enc C.prog fn apart fresh handsOn again) := by
  refine returnsInHanded_of_calls own started noInit witness ?_
  intro w tape i _ hsh _ hok hpre hholds
  obtain ⟨_, _, _, fn', hfn', _, _, _, _, hval⟩ := hok
  have e : fn' = fn := Option.some.inj (hfn'.symm.trans hfn)
  subst e
  obtain ⟨⟨⟨ds, gs, before, hw, hc⟩, hx⟩, hz⟩ := hpre
  have hw' := DataW.Whole.of_heap (w' := w.forCall tape i) (by rfl) hw
  refine (contract (w.forCall tape i) w.heap.size i.args ds gs before hval hw' hc (hz.weights hw) (hX _ _ _ (by rfl) hx) hsh hholds).mono fun e W' ⟨v, he, hp⟩ => ?_
  subst he
  exact ChangeSpec.post_blind hp
theorem laidVars_at {P : Program} {W : World} : ∀ {laid : List (String × DataW Unit)} {ps : List MemPlace}, DataW.LaidVars P W laid ps → ∀ (i : Nat) (n : String) (d : DataW Unit), laid[i]? = some (n, d) →
    ∃ g t cs fuel p, P.globalNamed n = some g ∧ (P.globals[g]?).map (·.type) = some t ∧ W.var? P n = some cs ∧ DataW.trod (fun _ => ()) P W 0 (fun _ => true) false fuel t cs.toList = some (d, p)
  | [], _, _, i, _, _, h => by simp at h
  | (m, c) :: r, ps, h, i, n, d, hi => by
    obtain ⟨g, t, cs, fuel, p, q, h1, h2, h3, h4, h5, _⟩ := h
    cases i with
    | zero =>
      simp only [List.getElem?_cons_zero, Option.some.injEq, Prod.mk.injEq] at hi
      obtain ⟨rfl, rfl⟩ := hi
      exact ⟨g, t, cs, fuel, p, h1, h2, h3, h4⟩
    | succ j => exact laidVars_at h5 j n d (by simpa using hi)
theorem tabIs_at {P : Program} {W : World} {laid : List (String × DataW Unit)} {name : String} {k : IntKind} {zs : List Int} {g : Nat} {t e : TypeId} {n : Nat} (i : Nat) (hi : laid[i]? = some (name, Lib.tabData k zs))
    (hg : P.globalNamed name = some g) (hty : (P.globals[g]?).map (·.type) = some t) (ht : P.underlying t = some (.array n e)) (he : P.underlying e = some (.int k)) (hce : P.cellsOf e = 1) (hct : P.cellsOf t = n)
    (h : laidMet P laid W) : Lib.TabIs P W name k zs := by
  obtain ⟨ps, h, _⟩ := h
  obtain ⟨g', t', cs, fuel, p, hg', ht', hvar, hd⟩ := laidVars_at h i _ _ hi
  obtain rfl := Option.some.inj (hg.symm.trans hg')
  obtain rfl := Option.some.inj (hty.symm.trans ht')
  unfold Lib.TabIs
  rw [hvar, ← Lib.cells_of_tab ht he hce hct hd]
def laidL : List (String × DataW Unit) := [("math/bits.deBruijn32tab", Rows.laid_math_bits_deBruijn32tab), ("math/bits.deBruijn64tab", Rows.laid_math_bits_deBruijn64tab), ("internal/strconv.uint64pow10", Rows.laid_internal_strconv_uint64pow10), ("unicode/utf8.acceptRanges", Rows.laid_unicode_utf8_acceptRanges), ("unicode/utf8.first", Rows.laid_unicode_utf8_first)]
theorem wok_of {W : World} (h : laidMetH Tryz.prog laidL W) (hs : W.ShapedOpen Tryz.prog) : WOK W := by
  rw [MakeChecks.laidMetH_plain _ _ _ (by kernel_rfl)] at h
  refine ⟨?_, ?_, ?_⟩
  · exact cell_of_shapedOpen_int (t := 3) (zero := #[.int .i64 0]) hs (by decide +kernel) (by kernel_rfl) (by kernel_rfl) (by kernel_rfl) (by kernel_rfl) Tryz.underlying3
  · exact tabIs_at (g := 0) (n := 20) 2 (by rfl) (by kernel_rfl) (t := 164) (by kernel_rfl) (by kernel_rfl) (e := 29) Tryz.underlying29 (by kernel_rfl) (by kernel_rfl) h
  · have hb : Lib.TabIs Tryz.prog W "math/bits.deBruijn64tab" .u8 (Lib.deBruijn64tab.map Int.ofNat) := tabIs_at (g := 3) (n := 64) 1 (by rfl) (by kernel_rfl) (t := 186) (by kernel_rfl) (by kernel_rfl) (e := 5) Tryz.underlying5 (by kernel_rfl) (by kernel_rfl) h
    intro j hj
    have h2 := hb.cell (g := 3) (by kernel_rfl) j (by rw [List.length_map]; exact hj)
    rw [h2, List.getD, List.getD, List.getElem?_map, List.getElem?_eq_getElem hj]
    rfl
theorem laid_world (os : Os) (args : Array Value) : laidMetH Tryz.prog laidL ((World.laidAll Tryz.prog os laidL).forCall (fun _ _ => 0) ⟨#[], args, []⟩).memory := by
  rw [MakeChecks.laidMetH_plain _ _ _ (by kernel_rfl)]
  exact laidMet_laidAll _ (by kernel_rfl) (by kernel_rfl)
end Go.Proofs.YtnphnhkinjppjaaGreatDoor.Q
end

section
set_option maxHeartbeats 8000000
set_option maxRecDepth 100000
namespace Go.Proofs.YtnphnhkinjppjaaGreatDoor.assetChecks
open Go.ChangeShapes Go.WideShapes Go.ChangeAt Go.RowKit Go.Proofs.YtnphnhkinjppjaaGreatDoorW.PrintWords Go.Proofs.YtnphnhkinjppjaaGreatDoor.Read Go.Proofs.YtnphnhkinjppjaaGreatDoor.Q
open Go.ChangeMaps (open_string shut_string)
theorem own : ownKnob Tryz.prog.godebug = none := by kernel_rfl
theorem laidOut : laidOutB Tryz.prog = true := by kernel_rfl
theorem lifted (os : Os) (started : os.Started) (H : Type) (enc : TypeId × Value → H) :
    ReturnsInHanded {} Tryz.checked os 3 .any (fun w args => (Rows.assetChecksSpec.pre enc Tryz.prog Tryz.f3 Rows.assetChecksRow.domain false w args ∧ laidMetH Tryz.prog laidL w) ∧ sizedMet enc Tryz.prog Tryz.f3 (OpenSpec.ofChange Rows.assetChecksSpec) false w args) (Rows.assetChecksSpec.post enc Tryz.prog Tryz.f3 false true false false) := by
  refine returns_laid (C := Tryz.checked) (X := (fun w _ => laidMetH Tryz.prog laidL w)) (fun _ _ _ hh h => h.of_heap hh) own started (by kernel_rfl) Tryz.func3
    (ChangeSpec.witness_shaped (enc := enc) (C := Tryz.checked) (os := os) (X := (fun w _ => laidMetH Tryz.prog laidL w)) false (World.laidAll Tryz.prog os laidL) #[.slice none 0 0] 8 (World.laidAll_os _ _ _)
      (World.shaped_of_ZipB (by kernel_rfl) (by kernel_rfl)) (by kernel_rfl) (by kernel_rfl) (by kernel_rfl) (laid_world os _)) ?_
  intro W base args ds gs before hval0 hW hcnd hsz0 hL hsh _
  have hWok := wok_of hL hsh
  have hsz : (DataW.weightsEach Tryz.prog (Tryz.f3.params.toList ++ Rows.assetChecksSpec.plain.varTypes Tryz.prog) (ds ++ gs)).all (· ≤ reachBytes) = true := hsz0
  have hval : ∀ (j : Nat) t v, Tryz.f3.params[j]? = some t → args[j]? = some v → Value.okWide Tryz.prog W .any base t v := hval0
  have hW' := hW
  obtain ⟨p, q, hA0, hV, rfl, hfz, hnd⟩ := hW
  have hA : DataW.TrodAll enc Tryz.prog W 0 (fun _ => true) true Tryz.f3.params.toList args.toList ds p := hA0
  rw [Tryz.params3] at hA hval hsz
  obtain ⟨v0, vs0, d0, ds0, p0, q0, hargs, rfl, rfl, h0, r0⟩ := trodAll_cons hA
  obtain ⟨rfl, rfl, rfl⟩ := trodAll_nil r0
  obtain rfl : args = #[v0] := by cases args; simp_all
  obtain ⟨rfl, rfl⟩ := trodVars_none hV
  obtain ⟨a0, len0, cap0, rfl⟩ := okWide_slice Tryz.underlying22 (hval 0 22 v0 rfl rfl)
  have k0_ := h0
  have lt0 : ∀ x ∈ p0, x.block < W.heap.size := by obtain ⟨m, hm⟩ := k0_; exact DataW.trod_lt m _ _ _ hm
  obtain ⟨fuel0, hf0⟩ := h0
  obtain ⟨l0, ⟨A0, c0, hcs0, hle0, hC0⟩, hm0, hq0⟩ := (reads_slice Tryz.underlying22 (by kernel_rfl) (reads_k36 W) : Reads Tryz.prog W (Kd.slice 36 k36) _ 22) H enc fuel0 _ _ hf0
  simp [Value.cells] at hcs0
  obtain ⟨rfl, rfl, rfl⟩ := hcs0
  clear hA0 hval0 hsz0 hsz
  obtain ⟨k, hk⟩ := Pure.AssetChecks l0 hm0 hq0
  refine (w18_AssetChecks.calls k _ _ l0 true W hC0 hle0 hk hWok).mono fun e W' he => ?_
  obtain ⟨rfl, bel⟩ := he
  exact ⟨_, rfl, _, _, _, [], _, [], hW', trodAll_mk1 (shut_bool Tryz.underlying4 _), (trodAll_cons_mk (Below.trod laidOut (by kernel_rfl) (of_decide_eq_true (by kernel_rfl)) k0_ bel lt0) trodAll_mk0), rfl, bel.frame _, fun h => by cases h⟩
theorem over : Rows.assetChecksRow.holds Tryz.pinned (OpenSpec.ofChange Rows.assetChecksSpec) :=
  OpenClaim.holds_of_wide 3 Tryz.f3 rfl rfl rfl rfl rfl rfl rfl ⟨rfl, rfl, rfl, rfl, rfl⟩ rfl rfl rfl rfl rfl (by kernel_rfl) Tryz.func3 (by kernel_rfl)
    (of_decide_eq_true (by kernel_rfl)) (by unfold Func.isWrapper; first | (rw [if_pos (by decide +kernel)]; kernel_rfl) | (rw [if_neg (by decide +kernel)]; exact ⟨rfl, rfl⟩))
    (fun os started H enc _ => lifted os started H enc)
theorem card : Rows.AssetChecksCardSaid :=
  Claim7.holds_tied_plain_at .later [] [.data, .data, .data, .data, .pinned] true (true, "e2fb7f09b75ce55e686a17d0d7ee68673f5cc2846f6649169a4a74c75a4abc06") false over (fun _ h => by cases h) (by kernel_rfl) (fun _ h => by cases h) assetChecks_row_tie rfl ⟨rfl, rfl⟩ (by kernel_rfl) rfl
    (fun f fn hf hfn => by
      obtain rfl : f = 3 := Option.some.inj ((show Tryz.prog.funcNamed "intrusion/intrusionlaw18.AssetChecks" = some 3 by kernel_rfl).symm.trans hf) |>.symm
      obtain rfl : fn = Tryz.f3 := (Option.some.inj (Tryz.func3.symm.trans hfn)).symm
      exact ⟨by kernel_rfl, fun j t ht => by
        rw [Tryz.params3] at ht
        have hm : t ∈ [22] := by simpa using Array.mem_of_getElem? ht
        have hall : ([22].all fun u => !Tryz.prog.wantsStandIn u) = true := by kernel_rfl
        exact (show Tryz.prog.wantsStandIn t = false by simpa using List.all_eq_true.1 hall t hm)⟩)
    (by kernel_rfl)
#print axioms card
end Go.Proofs.YtnphnhkinjppjaaGreatDoor.assetChecks
namespace Go.Proofs.YtnphnhkinjppjaaGreatDoor
theorem assetChecks_holds : Rows.AssetChecksCardSaid := assetChecks.card
end Go.Proofs.YtnphnhkinjppjaaGreatDoor
end
