/- The law AddrsetNormal answers true for every input and leaves its arguments as they were. No condition. (Part 5 of 5: the kit's printed words and walks, hand-made contracts and plain laws, joined in build order, without what the theorem does not reach.) -/
import Derived.Deep.Slices
import Derived.ChangeArms
import Derived.WideShapes
import Derived.DataElems
import Derived.Laws.EntriesVeiled
import Derived.IntWalk
import Derived.Test.YtcgfpffgiimgmaaRows
import Derived.WalkKit
import Derived.ProofKit
import Derived.OpenShut
import Derived.ShutString
import Derived.ChangeOld
import Derived.Below
import Derived.SizedLaws
import Derived.Carry
import Derived.Test.YtcgfpffgiimgmaaGAddrsetNormal4
section
namespace Go.Proofs.Ytcgfpffgiimgmaa.Q
open Go.RowKit Go.Proofs.YtcgfpffgiimgmaaW.PrintWords Go.Proofs.YtcgfpffgiimgmaaW.PrintLast Go.Proofs.YtcgfpffgiimgmaaW.PrintMore
attribute [local go_sem] max2_int min2_int max_two min_two max_three min_three max_four min_four
set_option linter.unusedVariables false
set_option linter.unusedSimpArgs false
def intrusionlaw07_AddrsetNormal.f (k : Nat) (l0 : List (S66)) (a1_0 : Bool) (a1_1 : Int) (a1_2 : Int) : Option (Bool) := (intrusionlaw07_few.f l0 ([] : List (S66))).bind fun t660 => (if t660 = true then ((addrset_Normal.f k l0).bind fun t662 => ((intrusionref07_Normal.f k l0).bind fun t665 => ((intrusionref07_Same.f k t662 t665).bind fun t668 => (if t668 = true then ((addrset_Valid.f k l0).bind fun t669 => ((intrusionref07_Valid.f k l0).bind fun t670 => (if (t669 == t670) = true then ((addrset_Contains.f l0 a1_0 a1_1 a1_2).bind fun t671 => ((intrusionref07_Contains.f k l0 a1_0 a1_1 a1_2).bind fun t672 => (if (t671 == t672) = true then ((addrset_All.f).bind fun t673 => ((intrusionref07_All.f).bind fun t676 => ((intrusionref07_Same.f k t673 t676).bind fun t679 => (if t679 = true then ((intrusionlaw07_awake.f k).bind fun t680 => (some t680)) else (some false))))) else (some false)))) else (some false)))) else (some false))))) else ((intrusionlaw07_awake.f k).bind fun t661 => (some t661)))
theorem intrusionlaw07_AddrsetNormal.mono : ∀ a0 a1 a2 a3 k, LeO (intrusionlaw07_AddrsetNormal.f k a0 a1 a2 a3) (intrusionlaw07_AddrsetNormal.f (k + 1) a0 a1 a2 a3) := by
  intro a0 a1 a2 a3 k
  unfold intrusionlaw07_AddrsetNormal.f
  repeat' first
      | (with_reducible exact addrset_Normal.mono _ _)
      | (with_reducible exact addrset_Valid.mono _ _)
      | (with_reducible exact intrusionlaw07_awake.mono _)
      | (with_reducible exact intrusionref07_Contains.mono _ _ _ _ _)
      | (with_reducible exact intrusionref07_Normal.mono _ _)
      | (with_reducible exact intrusionref07_Same.mono _ _ _)
      | (with_reducible exact intrusionref07_Valid.mono _ _)
      | (with_reducible exact LeO.refl _)
      | (with_reducible exact LeO.none _)
      | (with_reducible refine LeO.ite ?_ ?_)
      | (with_reducible refine LeO.bind ?_ (fun _ => ?_))
      | exact addrset_Normal.mono _ _
      | exact addrset_Valid.mono _ _
      | exact intrusionlaw07_awake.mono _
      | exact intrusionref07_Contains.mono _ _ _ _ _
      | exact intrusionref07_Normal.mono _ _
      | exact intrusionref07_Same.mono _ _ _
      | exact intrusionref07_Valid.mono _ _
      | exact LeO.none _
      | refine LeO.ite ?_ ?_
      | refine LeO.bind ?_ (fun _ => ?_)
def intrusionlaw07_AddrsetNormal.T3 : Bool × List (List Nat × List Nat) := (true, [([], []), ([0], [0]), ([], []), ([2, 1], [2]), ([1, 3, 3], [1, 3]), ([4, 4], [4]), ([5], [5]), ([6, 5, 5], [5, 6]), ([5], [5]), ([8, 7, 5], [5, 8]), ([7, 9, 5], [5, 7, 9]), ([5, 10], [5, 10]), ([11, 9], [11]), ([12], [12]), ([12], [12]), ([13, 14, 12, 12], [12, 13, 14]), ([12], [12]), ([12], [12]), ([16, 17, 15, 12], [12, 16, 17]), ([15, 18, 12], [12, 15, 18]), ([12, 19], [12, 19]), ([20, 18], [20]), ([21, 21], [21]), ([22, 21], [21]), ([22, 23, 23, 21], [21, 22, 23]), ([21, 24], [21, 24]), ([25, 24], [25]), ([26, 26], [26]), ([26, 27], [26, 27]), ([28, 27, 0, 1, 2, 3, 4, 5, 6, 7, 8, 9, 10, 11, 12, 13, 14, 15, 16, 17, 18, 19, 20, 21, 22, 23, 24, 25, 26, 27, 28], [28])])
def intrusionlaw07_AddrsetNormal.B3 : List Nat := [0, 1, 0, 7, 15, 31, 63, 127, 63, 511, 1023, 2047, 4095, 8191, 8191, 32767, 8191, 8191, 262143, 524287, 1048575, 2097151, 4194303, 8388607, 16777215, 33554431, 67108863, 134217727, 268435455, 536870911]
theorem intrusionlaw07_AddrsetNormal.tab3 : rtab .any (opsOf Try.f9 3) = intrusionlaw07_AddrsetNormal.T3 := by kernel_rfl
theorem intrusionlaw07_AddrsetNormal.bits3 : waitsOk intrusionlaw07_AddrsetNormal.T3.2 intrusionlaw07_AddrsetNormal.B3 = true := by kernel_rfl
set_option maxHeartbeats 8000000 in
set_option maxRecDepth 100000 in
theorem intrusionlaw07_AddrsetNormal.calls (k : Nat) (A0 : Option Addr) (c0 : Nat) (l0 : List (S66)) (a1_0 : Bool) (a1_1 : Int) (a1_2 : Int) (r : Bool) (w : World) (hr0 : Kd.C k66 w A0 l0.length l0) (hc0 : l0.length ≤ c0) (h : intrusionlaw07_AddrsetNormal.f k l0 a1_0 a1_1 a1_2 = some r) :
 Calls Try.prog 9 #[.slice A0 l0.length c0, .agg #[.bool a1_0, .int .u64 a1_1, .int .u64 a1_2]] w fun e w' => e = .returned (.bool r) ∧ Below w.heap.size w w' := by
 have hu36 := Try.underlying36
 have HR0 := Aside0.mk hr0
 have HC0 := Aside0.mk hc0
 clear hr0 hc0
 have HB := Aside0.mk (Below.refl w.heap.size w)
 have H : ((intrusionlaw07_few.f l0 ([] : List (S66))).bind fun t660 => (if t660 = true then ((addrset_Normal.f k l0).bind fun t662 => ((intrusionref07_Normal.f k l0).bind fun t665 => ((intrusionref07_Same.f k t662 t665).bind fun t668 => (if t668 = true then ((addrset_Valid.f k l0).bind fun t669 => ((intrusionref07_Valid.f k l0).bind fun t670 => (if (t669 == t670) = true then ((addrset_Contains.f l0 a1_0 a1_1 a1_2).bind fun t671 => ((intrusionref07_Contains.f k l0 a1_0 a1_1 a1_2).bind fun t672 => (if (t671 == t672) = true then ((addrset_All.f).bind fun t673 => ((intrusionref07_All.f).bind fun t676 => ((intrusionref07_Same.f k t673 t676).bind fun t679 => (if t679 = true then ((intrusionlaw07_awake.f k).bind fun t680 => (some t680)) else (some false))))) else (some false)))) else (some false)))) else (some false))))) else ((intrusionlaw07_awake.f k).bind fun t661 => (some t661)))) = some r := h
 clear h
 replace H := Option.bind_eq_some_iff.mp H
 obtain ⟨t660, A30, H⟩ := H
 try dsimp only at H
 have A3 := Aside0.mk A30
 clear A30
 by_cases c4 : t660 = true
 · subst c4
   rw [if_pos rfl] at H
   replace H := Option.bind_eq_some_iff.mp H
   obtain ⟨t662, A50, H⟩ := H
   try dsimp only at H
   have A5 := Aside0.mk A50
   clear A50
   replace H := Option.bind_eq_some_iff.mp H
   obtain ⟨t665, A60, H⟩ := H
   try dsimp only at H
   have A6 := Aside0.mk A60
   clear A60
   replace H := Option.bind_eq_some_iff.mp H
   obtain ⟨t668, A70, H⟩ := H
   try dsimp only at H
   have A7 := Aside0.mk A70
   clear A70
   by_cases c8 : t668 = true
   · subst c8
     rw [if_pos rfl] at H
     replace H := Option.bind_eq_some_iff.mp H
     obtain ⟨t669, A90, H⟩ := H
     try dsimp only at H
     have A9 := Aside0.mk A90
     clear A90
     replace H := Option.bind_eq_some_iff.mp H
     obtain ⟨t670, A100, H⟩ := H
     try dsimp only at H
     have A10 := Aside0.mk A100
     clear A100
     by_cases c11 : (t669 == t670) = true
     · rw [if_pos c11] at H
       have c11b0 : (t669 == t670) = true := c11
       (try (have c11b1 : decide (t669 = t670) = true := by first | (simpa using c11) | exact decide_eq_true (Decidable.not_not.1 (fun hn => c11 (bne_iff_ne.2 hn))) | exact beq_iff_eq.2 (Decidable.not_not.1 (fun hn => c11 (bne_iff_ne.2 hn))) | exact decide_eq_false (bne_iff_ne.1 c11) | exact beq_eq_false_iff_ne.2 (bne_iff_ne.1 c11) | exact bne_iff_ne.1 c11))
       (try (have c11b2 : (t669 == t670) = true := by first | (simpa using c11) | exact decide_eq_true (Decidable.not_not.1 (fun hn => c11 (bne_iff_ne.2 hn))) | exact beq_iff_eq.2 (Decidable.not_not.1 (fun hn => c11 (bne_iff_ne.2 hn))) | exact decide_eq_false (bne_iff_ne.1 c11) | exact beq_eq_false_iff_ne.2 (bne_iff_ne.1 c11) | exact bne_iff_ne.1 c11))
       clear c11
       replace H := Option.bind_eq_some_iff.mp H
       obtain ⟨t671, A120, H⟩ := H
       try dsimp only at H
       have A12 := Aside0.mk A120
       clear A120
       replace H := Option.bind_eq_some_iff.mp H
       obtain ⟨t672, A130, H⟩ := H
       try dsimp only at H
       have A13 := Aside0.mk A130
       clear A130
       by_cases c14 : (t671 == t672) = true
       · rw [if_pos c14] at H
         have c14b0 : (t671 == t672) = true := c14
         (try (have c14b1 : decide (t671 = t672) = true := by first | (simpa using c14) | exact decide_eq_true (Decidable.not_not.1 (fun hn => c14 (bne_iff_ne.2 hn))) | exact beq_iff_eq.2 (Decidable.not_not.1 (fun hn => c14 (bne_iff_ne.2 hn))) | exact decide_eq_false (bne_iff_ne.1 c14) | exact beq_eq_false_iff_ne.2 (bne_iff_ne.1 c14) | exact bne_iff_ne.1 c14))
         (try (have c14b2 : (t671 == t672) = true := by first | (simpa using c14) | exact decide_eq_true (Decidable.not_not.1 (fun hn => c14 (bne_iff_ne.2 hn))) | exact beq_iff_eq.2 (Decidable.not_not.1 (fun hn => c14 (bne_iff_ne.2 hn))) | exact decide_eq_false (bne_iff_ne.1 c14) | exact beq_eq_false_iff_ne.2 (bne_iff_ne.1 c14) | exact bne_iff_ne.1 c14))
         clear c14
         replace H := Option.bind_eq_some_iff.mp H
         obtain ⟨t673, A150, H⟩ := H
         try dsimp only at H
         have A15 := Aside0.mk A150
         clear A150
         replace H := Option.bind_eq_some_iff.mp H
         obtain ⟨t676, A160, H⟩ := H
         try dsimp only at H
         have A16 := Aside0.mk A160
         clear A160
         replace H := Option.bind_eq_some_iff.mp H
         obtain ⟨t679, A170, H⟩ := H
         try dsimp only at H
         have A17 := Aside0.mk A170
         clear A170
         by_cases c18 : t679 = true
         · subst c18
           rw [if_pos rfl] at H
           replace H := Option.bind_eq_some_iff.mp H
           obtain ⟨t680, A190, H⟩ := H
           try dsimp only at H
           have A19 := Aside0.mk A190
           clear A190
           obtain rfl := Option.some.inj H
           go_enter Try.func9, Try.ntmps9
           try go_wp2_with (first | ((with_reducible refine gate_dst (N := 3) rfl ?_); refine zx 3 #[.bool a1_0, .int .u64 a1_1, .int .u64 a1_2] 36 ?_; intro gb659 hg w20 hbox hb; have BK659 := Aside0.mk (hbox); have GW659 := Aside0.mk ((by rw [hg]; exact (below_size (zB HB)) : w.heap.size ≤ gb659)); have GE659 := Aside0.mk ((by rw [hg]; exact (below_size (zB HB)) : w.heap.size ≤ gb659)); replace HB := Aside0.mk (below_step (zB HB) hb); clear hb hbox hg) | ((with_reducible refine gate_callee (f := 35) rfl ?_); refine goesL_ (some 6) rfl rfl Try.func35 (by kernel_rfl) rfl #[.slice A0 l0.length c0, .slice none 0 0] rfl (by (try simp only [List.map_toArray, List.map_cons, List.map_nil]); first | done | rfl | (simp only [List.length_drop, List.length_take]; rfl)) ?_; (refine (intrusionlaw07_few.calls _ _ l0 _ _ ([] : List (S66)) true _ ?side1 ?side2 ?side3 ?side4 A3.out).mono ?_); (case side1 => repeat (first | exact (Kd.C_below HR0.out HB.out) | (with_reducible refine Kd.C_alloc ?_ _) | (with_reducible refine Kd.C_drewN ?_ _) | (with_reducible refine Kd.C_drew ?_))); (case side2 => exact HC0.out); (case side3 => exact Kd.C_nil _ _); (case side4 => exact Nat.le_refl _); rintro e w' ⟨rfl, ⟨nd, rfl⟩⟩; refine ⟨_, rfl, ?_⟩))
           (try (rw [drewN_self w20]; generalize hq_ : World.drewN w20 _ = w20; have n0_ : Aside0 (w20.heap[gb659]? = some (.cells #[.bool a1_0, .int .u64 a1_1, .int .u64 a1_2] 36 (0, 0))) := ⟨by rw [← hq_]; exact (zK BK659)⟩; have n1_ : Aside0 (Below w.heap.size w w20) := ⟨by rw [← hq_]; exact (zB HB)⟩; clear BK659 HB hq_; have BK659 := n0_; have HB := n1_; clear n0_ n1_))
           replace BK659 := Aside0.mk (blk_drew BK659.out)
           replace HB := Aside0.mk (below_drew1 HB.out)
           refine start_ (n := 30) (S := fun w' => w'.cell? ⟨gb659, 0, none⟩ = some (.bool a1_0) ∧ w'.cell? ⟨gb659, 1, none⟩ = some (.int .u64 a1_1) ∧ w'.cell? ⟨gb659, 2, none⟩ = some (.int .u64 a1_2)) (ds := []) #[false, false, false, false, false, false, false, false, false, false, false, false, false, false, false, false, false, false, false, false, false, false, false, false, false, false, false, false, false, false] (by kernel_rfl) rfl rfl ⟨zc BK659 0, zc BK659 1, zc BK659 2⟩ (fun hHeld => ?_); refine with_tabW intrusionlaw07_AddrsetNormal.tab3 intrusionlaw07_AddrsetNormal.bits3 (fun HT_ HW_ => ?_)
           generalize w20.drew = w21 at BK659 HB hHeld ⊢
           refine zp 0 9 HT_ ?_; refine zp 2 11 HT_ ?_; refine zo 1 10 HT_ (fun K hK => ?_)
           refine zg Try.func38 #[.slice A0 l0.length c0] ?_
           with_reducible refine (addrset_Normal.calls k _ _ l0 t662 _ ?side1 ?side2 A5.out).mono ?_
           (case side1 => repeat (first | exact (Kd.C_below HR0.out HB.out) | (with_reducible refine Kd.C_alloc ?_ _) | (with_reducible refine Kd.C_drewN ?_ _) | (with_reducible refine Kd.C_drew ?_)))
           (case side2 => exact HC0.out)
           rintro e w22 ⟨v663, rfl, ho0, hb⟩
           refine ⟨_, rfl, ?_⟩
           have HO664 := Aside0.mk (Kd.R_lower ho0 (below_size (zB HB)))
           replace BK659 := Aside0.mk (blk_below (g := gb659) (o := .cells #[.bool a1_0, .int .u64 a1_1, .int .u64 a1_2] 36 (0, 0)) (zK BK659) hb)
           replace HB := Aside0.mk (below_step (zB HB) hb)
           (try clear hb)
           (try clear ho0)
           refine hK.out _ _ ⟨zc BK659 0, zc BK659 1, zc BK659 2⟩ (fun hHeld => ?_)
           clear hK K
           refine zn 10 ?_; refine zo 3 12 HT_ (fun K hK => ?_)
           refine zg Try.func39 #[.slice A0 l0.length c0] ?_
           with_reducible refine (intrusionref07_Normal.calls k _ _ l0 t665 _ ?side1 ?side2 A6.out).mono ?_
           (case side1 => repeat (first | exact (Kd.C_below HR0.out HB.out) | (with_reducible refine Kd.C_alloc ?_ _) | (with_reducible refine Kd.C_drewN ?_ _) | (with_reducible refine Kd.C_drew ?_)))
           (case side2 => exact HC0.out)
           rintro e w23 ⟨v666, rfl, ho0, hb⟩
           refine ⟨_, rfl, ?_⟩
           have HO667 := Aside0.mk (Kd.R_lower (Kd.R_new' ho0 (Kd.R_lt (zR HO664))) (below_size (zB HB)))
           replace HO664 := Aside0.mk (Kd.R_elder' (zR HO664) (Kd.R_base ho0) hb)
           replace BK659 := Aside0.mk (blk_below (g := gb659) (o := .cells #[.bool a1_0, .int .u64 a1_1, .int .u64 a1_2] 36 (0, 0)) (zK BK659) hb)
           replace HB := Aside0.mk (below_step (zB HB) hb)
           (try clear hb)
           (try clear ho0)
           obtain ⟨Ao24, co24, eo24⟩ := Kd.R_slice HO664.out
           (first | subst eo24 | (injection eo24 with f1_ f2_ f3_; have f4_ := f1_.symm; have f5_ := f3_.symm; clear f1_ f2_ f3_; subst f4_; subst f5_))
           obtain ⟨Ao25, co25, eo25⟩ := Kd.R_slice HO667.out
           (first | subst eo25 | (injection eo25 with f1_ f2_ f3_; have f4_ := f1_.symm; have f5_ := f3_.symm; clear f1_ f2_ f3_; subst f4_; subst f5_))
           refine hK.out _ _ ⟨zc BK659 0, zc BK659 1, zc BK659 2⟩ (fun hHeld => ?_)
           clear hK K
           refine zn 12 ?_; refine zo 4 13 HT_ (fun K hK => ?_)
           refine zg Try.func37 #[.slice Ao24 t662.length co24, .slice Ao25 t665.length co25] ?_
           with_reducible refine (intrusionref07_Same.calls k _ _ t662 _ _ t665 true _ ?side1 ?side2 ?side3 ?side4 A7.out).mono ?_
           (case side1 => repeat (first | exact (Kd.R_reads' HO664.out).2.2 | (with_reducible refine Kd.C_alloc ?_ _) | (with_reducible refine Kd.C_drewN ?_ _) | (with_reducible refine Kd.C_drew ?_)))
           (case side2 => exact (Kd.R_reads' HO664.out).2.1)
           (case side3 => repeat (first | exact (Kd.R_reads' HO667.out).2.2 | (with_reducible refine Kd.C_alloc ?_ _) | (with_reducible refine Kd.C_drewN ?_ _) | (with_reducible refine Kd.C_drew ?_)))
           (case side4 => exact (Kd.R_reads' HO667.out).2.1)
           rintro e w' ⟨rfl, ⟨nd, rfl⟩⟩
           refine ⟨_, rfl, ?_⟩
           refine hK.out _ _ ⟨zc BK659 0, zc BK659 1, zc BK659 2⟩ (fun hHeld => ?_)
           clear hK K
           refine zn 13 ?_; refine zp 5 14 HT_ ?_; refine zp 6 15 HT_ ?_; refine zp 8 17 HT_ ?_; refine zo 7 16 HT_ (fun K hK => ?_)
           refine zg Try.func40 #[.slice A0 l0.length c0] ?_
           with_reducible refine (addrset_Valid.calls k _ _ l0 t669 _ ?side1 ?side2 A9.out).mono ?_
           (case side1 => repeat (first | exact (Kd.C_below HR0.out (zB HB)) | (with_reducible refine Kd.C_alloc ?_ _) | (with_reducible refine Kd.C_drewN ?_ _) | (with_reducible refine Kd.C_drew ?_)))
           (case side2 => exact HC0.out)
           rintro e w26 ⟨rfl, hb⟩
           refine ⟨_, rfl, ?_⟩
           replace HO664 := Aside0.mk (Kd.R_below (zR HO664) hb)
           replace HO667 := Aside0.mk (Kd.R_below (zR HO667) hb)
           replace BK659 := Aside0.mk (blk_below (g := gb659) (o := .cells #[.bool a1_0, .int .u64 a1_1, .int .u64 a1_2] 36 (0, 0)) (zK BK659) hb)
           replace HB := Aside0.mk (below_step (zB HB) hb)
           (try clear hb)
           refine hK.out _ _ ⟨zc BK659 0, zc BK659 1, zc BK659 2⟩ (fun hHeld => ?_)
           clear hK K
           refine zn 16 ?_; refine zo 9 18 HT_ (fun K hK => ?_)
           refine zg Try.func41 #[.slice A0 l0.length c0] ?_
           with_reducible refine (intrusionref07_Valid.calls k _ _ l0 t670 _ ?side1 ?side2 A10.out).mono ?_
           (case side1 => repeat (first | exact (Kd.C_below HR0.out HB.out) | (with_reducible refine Kd.C_alloc ?_ _) | (with_reducible refine Kd.C_drewN ?_ _) | (with_reducible refine Kd.C_drew ?_)))
           (case side2 => exact HC0.out)
           rintro e w27 ⟨rfl, hb⟩
           refine ⟨_, rfl, ?_⟩
           replace HO664 := Aside0.mk (Kd.R_below (zR HO664) hb)
           replace HO667 := Aside0.mk (Kd.R_below (zR HO667) hb)
           replace BK659 := Aside0.mk (blk_below (g := gb659) (o := .cells #[.bool a1_0, .int .u64 a1_1, .int .u64 a1_2] 36 (0, 0)) (zK BK659) hb)
           replace HB := Aside0.mk (below_step (zB HB) hb)
           (try clear hb)
           refine hK.out _ _ ⟨zc BK659 0, zc BK659 1, zc BK659 2⟩ (fun hHeld => ?_)
           clear hK K
           refine zn 18 ?_; refine zp 10 19 HT_ ?_; refine zp 11 20 HT_ ?_; refine zp 12 21 HT_ ?_; refine zp 13 22 HT_ ?_; refine zp 16 25 HT_ ?_; refine zt 14 23 HT_ HW_ hHeld ?_; refine zt 17 26 HT_ HW_ hHeld ?_; refine zo 15 24 HT_ (fun K hK => ?_)
           refine zg Try.func42 #[.slice A0 l0.length c0, .agg #[.bool a1_0, .int .u64 a1_1, .int .u64 a1_2]] ?_
           with_reducible refine (addrset_Contains.calls _ _ l0 a1_0 a1_1 a1_2 t671 _ ?side1 ?side2 A12.out).mono ?_
           (case side1 => repeat (first | exact (Kd.C_below HR0.out HB.out) | (with_reducible refine Kd.C_alloc ?_ _) | (with_reducible refine Kd.C_drewN ?_ _) | (with_reducible refine Kd.C_drew ?_)))
           (case side2 => exact HC0.out)
           rintro e w28 ⟨rfl, hb⟩
           refine ⟨_, rfl, ?_⟩
           replace HO664 := Aside0.mk (Kd.R_below (zR HO664) hb)
           replace HO667 := Aside0.mk (Kd.R_below (zR HO667) hb)
           replace BK659 := Aside0.mk (blk_below (g := gb659) (o := .cells #[.bool a1_0, .int .u64 a1_1, .int .u64 a1_2] 36 (0, 0)) (zK BK659) hb)
           replace HB := Aside0.mk (below_step (zB HB) hb)
           (try clear hb)
           refine hK.out _ _ ⟨zc BK659 0, zc BK659 1, zc BK659 2⟩ (fun hHeld => ?_)
           clear hK K
           refine zn 24 ?_; refine zo 18 27 HT_ (fun K hK => ?_)
           refine zg Try.func43 #[.slice A0 l0.length c0, .agg #[.bool a1_0, .int .u64 a1_1, .int .u64 a1_2]] ?_
           with_reducible refine (intrusionref07_Contains.calls k _ _ l0 a1_0 a1_1 a1_2 t672 _ ?side1 ?side2 A13.out).mono ?_
           (case side1 => repeat (first | exact (Kd.C_below HR0.out HB.out) | (with_reducible refine Kd.C_alloc ?_ _) | (with_reducible refine Kd.C_drewN ?_ _) | (with_reducible refine Kd.C_drew ?_)))
           (case side2 => exact HC0.out)
           rintro e w29 ⟨rfl, hb⟩
           refine ⟨_, rfl, ?_⟩
           replace HO664 := Aside0.mk (Kd.R_below (zR HO664) hb)
           replace HO667 := Aside0.mk (Kd.R_below (zR HO667) hb)
           replace BK659 := Aside0.mk (blk_below (g := gb659) (o := .cells #[.bool a1_0, .int .u64 a1_1, .int .u64 a1_2] 36 (0, 0)) (zK BK659) hb)
           replace HB := Aside0.mk (below_step (zB HB) hb)
           (try clear hb)
           refine hK.out _ _ ⟨zc BK659 0, zc BK659 1, zc BK659 2⟩ (fun hHeld => ?_)
           clear hK K
           refine zn 27 ?_; refine zp 19 28 HT_ ?_; refine zp 20 29 HT_ ?_; refine zp 21 30 HT_ ?_; refine zo 22 31 HT_ (fun K hK => ?_)
           refine zg Try.func44 #[] ?_
           with_reducible refine (addrset_All.calls  t673 _ A15.out).mono ?_
           rintro e w30 ⟨v674, rfl, ho0, hb⟩
           refine ⟨_, rfl, ?_⟩
           have HO675 := Aside0.mk (Kd.R_lower (Kd.R_new' (Kd.R_new' ho0 (Kd.R_lt (zR HO664))) (Kd.R_lt (zR HO667))) (below_size (zB HB)))
           replace HO664 := Aside0.mk (Kd.R_elder' (zR HO664) (Kd.R_base ho0) hb)
           replace HO667 := Aside0.mk (Kd.R_elder' (zR HO667) (Kd.R_base ho0) hb)
           replace BK659 := Aside0.mk (blk_below (g := gb659) (o := .cells #[.bool a1_0, .int .u64 a1_1, .int .u64 a1_2] 36 (0, 0)) (zK BK659) hb)
           replace HB := Aside0.mk (below_step (zB HB) hb)
           (try clear hb)
           (try clear ho0)
           refine hK.out _ _ ⟨zc BK659 0, zc BK659 1, zc BK659 2⟩ (fun hHeld => ?_)
           clear hK K
           refine zn 31 ?_; refine zo 23 32 HT_ (fun K hK => ?_)
           refine zg Try.func45 #[] ?_
           with_reducible refine (intrusionref07_All.calls  t676 _ A16.out).mono ?_
           rintro e w31 ⟨v677, rfl, ho0, hb⟩
           refine ⟨_, rfl, ?_⟩
           have HO678 := Aside0.mk (Kd.R_lower (Kd.R_new' (Kd.R_new' (Kd.R_new' ho0 (Kd.R_lt (zR HO664))) (Kd.R_lt (zR HO667))) (Kd.R_lt (zR HO675))) (below_size (zB HB)))
           replace HO664 := Aside0.mk (Kd.R_elder' (zR HO664) (Kd.R_base ho0) hb)
           replace HO667 := Aside0.mk (Kd.R_elder' (zR HO667) (Kd.R_base ho0) hb)
           replace HO675 := Aside0.mk (Kd.R_elder' (zR HO675) (Kd.R_base ho0) hb)
           replace BK659 := Aside0.mk (blk_below (g := gb659) (o := .cells #[.bool a1_0, .int .u64 a1_1, .int .u64 a1_2] 36 (0, 0)) (zK BK659) hb)
           replace HB := Aside0.mk (below_step (zB HB) hb)
           (try clear hb)
           (try clear ho0)
           obtain ⟨Ao32, co32, eo32⟩ := Kd.R_slice HO675.out
           (first | subst eo32 | (injection eo32 with f1_ f2_ f3_; have f4_ := f1_.symm; have f5_ := f3_.symm; clear f1_ f2_ f3_; subst f4_; subst f5_))
           obtain ⟨Ao33, co33, eo33⟩ := Kd.R_slice HO678.out
           (first | subst eo33 | (injection eo33 with f1_ f2_ f3_; have f4_ := f1_.symm; have f5_ := f3_.symm; clear f1_ f2_ f3_; subst f4_; subst f5_))
           refine hK.out _ _ ⟨zc BK659 0, zc BK659 1, zc BK659 2⟩ (fun hHeld => ?_)
           clear hK K
           refine zn 32 ?_; refine zo 24 33 HT_ (fun K hK => ?_)
           refine zg Try.func37 #[.slice Ao32 t673.length co32, .slice Ao33 t676.length co33] ?_
           with_reducible refine (intrusionref07_Same.calls k _ _ t673 _ _ t676 true _ ?side1 ?side2 ?side3 ?side4 A17.out).mono ?_
           (case side1 => repeat (first | exact (Kd.R_reads' HO675.out).2.2 | (with_reducible refine Kd.C_alloc ?_ _) | (with_reducible refine Kd.C_drewN ?_ _) | (with_reducible refine Kd.C_drew ?_)))
           (case side2 => exact (Kd.R_reads' HO675.out).2.1)
           (case side3 => repeat (first | exact (Kd.R_reads' HO678.out).2.2 | (with_reducible refine Kd.C_alloc ?_ _) | (with_reducible refine Kd.C_drewN ?_ _) | (with_reducible refine Kd.C_drew ?_)))
           (case side4 => exact (Kd.R_reads' HO678.out).2.1)
           rintro e w' ⟨rfl, ⟨nd, rfl⟩⟩
           refine ⟨_, rfl, ?_⟩
           refine hK.out _ _ ⟨zc BK659 0, zc BK659 1, zc BK659 2⟩ (fun hHeld => ?_)
           clear hK K
           refine zn 33 ?_; refine zp 25 34 HT_ ?_; refine zp 26 35 HT_ ?_; refine zo 27 36 HT_ (fun K hK => ?_)
           refine zg Try.func36 #[] ?_
           with_reducible refine (intrusionlaw07_awake.calls k  t680 _ A19.out).mono ?_
           rintro e w34 ⟨rfl, hb⟩
           refine ⟨_, rfl, ?_⟩
           replace HO664 := Aside0.mk (Kd.R_below (zR HO664) hb)
           replace HO667 := Aside0.mk (Kd.R_below (zR HO667) hb)
           replace HO675 := Aside0.mk (Kd.R_below (zR HO675) hb)
           replace HO678 := Aside0.mk (Kd.R_below (zR HO678) hb)
           replace BK659 := Aside0.mk (blk_below (g := gb659) (o := .cells #[.bool a1_0, .int .u64 a1_1, .int .u64 a1_2] 36 (0, 0)) (zK BK659) hb)
           replace HB := Aside0.mk (below_step (zB HB) hb)
           (try clear hb)
           refine hK.out _ _ ⟨zc BK659 0, zc BK659 1, zc BK659 2⟩ (fun hHeld => ?_)
           clear hK K
           refine zn 36 ?_; refine zp 28 37 HT_ ?_; refine zp 29 4 HT_ ?_; refine zd HT_ ?_
           try go_wp2
           go_ret
           exact ⟨by first | rfl | (simp [errW_none, errW_some] <;> rfl) | (simp [*, errW_none, errW_some] <;> rfl), by repeat (first | (with_reducible first | exact HB.out | apply below_alloc | apply pw_below_drewN | apply below_drew1 | refine below_set ?_ GE659.out) | exact HB.out)⟩
         · replace c18 := Bool.eq_false_iff.mpr c18
           subst c18
           rw [if_neg zF] at H
           obtain rfl := Option.some.inj H
           go_enter Try.func9, Try.ntmps9
           try go_wp2_with (first | ((with_reducible refine gate_dst (N := 3) rfl ?_); refine zx 3 #[.bool a1_0, .int .u64 a1_1, .int .u64 a1_2] 36 ?_; intro gb659 hg w35 hbox hb; have BK659 := Aside0.mk (hbox); have GW659 := Aside0.mk ((by rw [hg]; exact (below_size (zB HB)) : w.heap.size ≤ gb659)); have GE659 := Aside0.mk ((by rw [hg]; exact (below_size (zB HB)) : w.heap.size ≤ gb659)); replace HB := Aside0.mk (below_step (zB HB) hb); clear hb hbox hg) | ((with_reducible refine gate_callee (f := 35) rfl ?_); refine goesL_ (some 6) rfl rfl Try.func35 (by kernel_rfl) rfl #[.slice A0 l0.length c0, .slice none 0 0] rfl (by (try simp only [List.map_toArray, List.map_cons, List.map_nil]); first | done | rfl | (simp only [List.length_drop, List.length_take]; rfl)) ?_; (refine (intrusionlaw07_few.calls _ _ l0 _ _ ([] : List (S66)) true _ ?side1 ?side2 ?side3 ?side4 A3.out).mono ?_); (case side1 => repeat (first | exact (Kd.C_below HR0.out HB.out) | (with_reducible refine Kd.C_alloc ?_ _) | (with_reducible refine Kd.C_drewN ?_ _) | (with_reducible refine Kd.C_drew ?_))); (case side2 => exact HC0.out); (case side3 => exact Kd.C_nil _ _); (case side4 => exact Nat.le_refl _); rintro e w' ⟨rfl, ⟨nd, rfl⟩⟩; refine ⟨_, rfl, ?_⟩))
           (try (rw [drewN_self w35]; generalize hq_ : World.drewN w35 _ = w35; have n0_ : Aside0 (w35.heap[gb659]? = some (.cells #[.bool a1_0, .int .u64 a1_1, .int .u64 a1_2] 36 (0, 0))) := ⟨by rw [← hq_]; exact (zK BK659)⟩; have n1_ : Aside0 (Below w.heap.size w w35) := ⟨by rw [← hq_]; exact (zB HB)⟩; clear BK659 HB hq_; have BK659 := n0_; have HB := n1_; clear n0_ n1_))
           replace BK659 := Aside0.mk (blk_drew BK659.out)
           replace HB := Aside0.mk (below_drew1 HB.out)
           refine start_ (n := 30) (S := fun w' => w'.cell? ⟨gb659, 0, none⟩ = some (.bool a1_0) ∧ w'.cell? ⟨gb659, 1, none⟩ = some (.int .u64 a1_1) ∧ w'.cell? ⟨gb659, 2, none⟩ = some (.int .u64 a1_2)) (ds := []) #[false, false, false, false, false, false, false, false, false, false, false, false, false, false, false, false, false, false, false, false, false, false, false, false, false, false, false, false, false, false] (by kernel_rfl) rfl rfl ⟨zc BK659 0, zc BK659 1, zc BK659 2⟩ (fun hHeld => ?_); refine with_tabW intrusionlaw07_AddrsetNormal.tab3 intrusionlaw07_AddrsetNormal.bits3 (fun HT_ HW_ => ?_)
           generalize w35.drew = w36 at BK659 HB hHeld ⊢
           refine zp 0 9 HT_ ?_; refine zp 2 11 HT_ ?_; refine zo 1 10 HT_ (fun K hK => ?_)
           refine zg Try.func38 #[.slice A0 l0.length c0] ?_
           with_reducible refine (addrset_Normal.calls k _ _ l0 t662 _ ?side1 ?side2 A5.out).mono ?_
           (case side1 => repeat (first | exact (Kd.C_below HR0.out HB.out) | (with_reducible refine Kd.C_alloc ?_ _) | (with_reducible refine Kd.C_drewN ?_ _) | (with_reducible refine Kd.C_drew ?_)))
           (case side2 => exact HC0.out)
           rintro e w37 ⟨v663, rfl, ho0, hb⟩
           refine ⟨_, rfl, ?_⟩
           have HO664 := Aside0.mk (Kd.R_lower ho0 (below_size (zB HB)))
           replace BK659 := Aside0.mk (blk_below (g := gb659) (o := .cells #[.bool a1_0, .int .u64 a1_1, .int .u64 a1_2] 36 (0, 0)) (zK BK659) hb)
           replace HB := Aside0.mk (below_step (zB HB) hb)
           (try clear hb)
           (try clear ho0)
           refine hK.out _ _ ⟨zc BK659 0, zc BK659 1, zc BK659 2⟩ (fun hHeld => ?_)
           clear hK K
           refine zn 10 ?_; refine zo 3 12 HT_ (fun K hK => ?_)
           refine zg Try.func39 #[.slice A0 l0.length c0] ?_
           with_reducible refine (intrusionref07_Normal.calls k _ _ l0 t665 _ ?side1 ?side2 A6.out).mono ?_
           (case side1 => repeat (first | exact (Kd.C_below HR0.out HB.out) | (with_reducible refine Kd.C_alloc ?_ _) | (with_reducible refine Kd.C_drewN ?_ _) | (with_reducible refine Kd.C_drew ?_)))
           (case side2 => exact HC0.out)
           rintro e w38 ⟨v666, rfl, ho0, hb⟩
           refine ⟨_, rfl, ?_⟩
           have HO667 := Aside0.mk (Kd.R_lower (Kd.R_new' ho0 (Kd.R_lt (zR HO664))) (below_size (zB HB)))
           replace HO664 := Aside0.mk (Kd.R_elder' (zR HO664) (Kd.R_base ho0) hb)
           replace BK659 := Aside0.mk (blk_below (g := gb659) (o := .cells #[.bool a1_0, .int .u64 a1_1, .int .u64 a1_2] 36 (0, 0)) (zK BK659) hb)
           replace HB := Aside0.mk (below_step (zB HB) hb)
           (try clear hb)
           (try clear ho0)
           obtain ⟨Ao39, co39, eo39⟩ := Kd.R_slice HO664.out
           (first | subst eo39 | (injection eo39 with f1_ f2_ f3_; have f4_ := f1_.symm; have f5_ := f3_.symm; clear f1_ f2_ f3_; subst f4_; subst f5_))
           obtain ⟨Ao40, co40, eo40⟩ := Kd.R_slice HO667.out
           (first | subst eo40 | (injection eo40 with f1_ f2_ f3_; have f4_ := f1_.symm; have f5_ := f3_.symm; clear f1_ f2_ f3_; subst f4_; subst f5_))
           refine hK.out _ _ ⟨zc BK659 0, zc BK659 1, zc BK659 2⟩ (fun hHeld => ?_)
           clear hK K
           refine zn 12 ?_; refine zo 4 13 HT_ (fun K hK => ?_)
           refine zg Try.func37 #[.slice Ao39 t662.length co39, .slice Ao40 t665.length co40] ?_
           with_reducible refine (intrusionref07_Same.calls k _ _ t662 _ _ t665 true _ ?side1 ?side2 ?side3 ?side4 A7.out).mono ?_
           (case side1 => repeat (first | exact (Kd.R_reads' HO664.out).2.2 | (with_reducible refine Kd.C_alloc ?_ _) | (with_reducible refine Kd.C_drewN ?_ _) | (with_reducible refine Kd.C_drew ?_)))
           (case side2 => exact (Kd.R_reads' HO664.out).2.1)
           (case side3 => repeat (first | exact (Kd.R_reads' HO667.out).2.2 | (with_reducible refine Kd.C_alloc ?_ _) | (with_reducible refine Kd.C_drewN ?_ _) | (with_reducible refine Kd.C_drew ?_)))
           (case side4 => exact (Kd.R_reads' HO667.out).2.1)
           rintro e w' ⟨rfl, ⟨nd, rfl⟩⟩
           refine ⟨_, rfl, ?_⟩
           refine hK.out _ _ ⟨zc BK659 0, zc BK659 1, zc BK659 2⟩ (fun hHeld => ?_)
           clear hK K
           refine zn 13 ?_; refine zp 5 14 HT_ ?_; refine zp 6 15 HT_ ?_; refine zp 8 17 HT_ ?_; refine zo 7 16 HT_ (fun K hK => ?_)
           refine zg Try.func40 #[.slice A0 l0.length c0] ?_
           with_reducible refine (addrset_Valid.calls k _ _ l0 t669 _ ?side1 ?side2 A9.out).mono ?_
           (case side1 => repeat (first | exact (Kd.C_below HR0.out (zB HB)) | (with_reducible refine Kd.C_alloc ?_ _) | (with_reducible refine Kd.C_drewN ?_ _) | (with_reducible refine Kd.C_drew ?_)))
           (case side2 => exact HC0.out)
           rintro e w41 ⟨rfl, hb⟩
           refine ⟨_, rfl, ?_⟩
           replace HO664 := Aside0.mk (Kd.R_below (zR HO664) hb)
           replace HO667 := Aside0.mk (Kd.R_below (zR HO667) hb)
           replace BK659 := Aside0.mk (blk_below (g := gb659) (o := .cells #[.bool a1_0, .int .u64 a1_1, .int .u64 a1_2] 36 (0, 0)) (zK BK659) hb)
           replace HB := Aside0.mk (below_step (zB HB) hb)
           (try clear hb)
           refine hK.out _ _ ⟨zc BK659 0, zc BK659 1, zc BK659 2⟩ (fun hHeld => ?_)
           clear hK K
           refine zn 16 ?_; refine zo 9 18 HT_ (fun K hK => ?_)
           refine zg Try.func41 #[.slice A0 l0.length c0] ?_
           with_reducible refine (intrusionref07_Valid.calls k _ _ l0 t670 _ ?side1 ?side2 A10.out).mono ?_
           (case side1 => repeat (first | exact (Kd.C_below HR0.out HB.out) | (with_reducible refine Kd.C_alloc ?_ _) | (with_reducible refine Kd.C_drewN ?_ _) | (with_reducible refine Kd.C_drew ?_)))
           (case side2 => exact HC0.out)
           rintro e w42 ⟨rfl, hb⟩
           refine ⟨_, rfl, ?_⟩
           replace HO664 := Aside0.mk (Kd.R_below (zR HO664) hb)
           replace HO667 := Aside0.mk (Kd.R_below (zR HO667) hb)
           replace BK659 := Aside0.mk (blk_below (g := gb659) (o := .cells #[.bool a1_0, .int .u64 a1_1, .int .u64 a1_2] 36 (0, 0)) (zK BK659) hb)
           replace HB := Aside0.mk (below_step (zB HB) hb)
           (try clear hb)
           refine hK.out _ _ ⟨zc BK659 0, zc BK659 1, zc BK659 2⟩ (fun hHeld => ?_)
           clear hK K
           refine zn 18 ?_; refine zp 10 19 HT_ ?_; refine zp 11 20 HT_ ?_; refine zp 12 21 HT_ ?_; refine zp 13 22 HT_ ?_; refine zp 16 25 HT_ ?_; refine zt 14 23 HT_ HW_ hHeld ?_; refine zt 17 26 HT_ HW_ hHeld ?_; refine zo 15 24 HT_ (fun K hK => ?_)
           refine zg Try.func42 #[.slice A0 l0.length c0, .agg #[.bool a1_0, .int .u64 a1_1, .int .u64 a1_2]] ?_
           with_reducible refine (addrset_Contains.calls _ _ l0 a1_0 a1_1 a1_2 t671 _ ?side1 ?side2 A12.out).mono ?_
           (case side1 => repeat (first | exact (Kd.C_below HR0.out HB.out) | (with_reducible refine Kd.C_alloc ?_ _) | (with_reducible refine Kd.C_drewN ?_ _) | (with_reducible refine Kd.C_drew ?_)))
           (case side2 => exact HC0.out)
           rintro e w43 ⟨rfl, hb⟩
           refine ⟨_, rfl, ?_⟩
           replace HO664 := Aside0.mk (Kd.R_below (zR HO664) hb)
           replace HO667 := Aside0.mk (Kd.R_below (zR HO667) hb)
           replace BK659 := Aside0.mk (blk_below (g := gb659) (o := .cells #[.bool a1_0, .int .u64 a1_1, .int .u64 a1_2] 36 (0, 0)) (zK BK659) hb)
           replace HB := Aside0.mk (below_step (zB HB) hb)
           (try clear hb)
           refine hK.out _ _ ⟨zc BK659 0, zc BK659 1, zc BK659 2⟩ (fun hHeld => ?_)
           clear hK K
           refine zn 24 ?_; refine zo 18 27 HT_ (fun K hK => ?_)
           refine zg Try.func43 #[.slice A0 l0.length c0, .agg #[.bool a1_0, .int .u64 a1_1, .int .u64 a1_2]] ?_
           with_reducible refine (intrusionref07_Contains.calls k _ _ l0 a1_0 a1_1 a1_2 t672 _ ?side1 ?side2 A13.out).mono ?_
           (case side1 => repeat (first | exact (Kd.C_below HR0.out HB.out) | (with_reducible refine Kd.C_alloc ?_ _) | (with_reducible refine Kd.C_drewN ?_ _) | (with_reducible refine Kd.C_drew ?_)))
           (case side2 => exact HC0.out)
           rintro e w44 ⟨rfl, hb⟩
           refine ⟨_, rfl, ?_⟩
           replace HO664 := Aside0.mk (Kd.R_below (zR HO664) hb)
           replace HO667 := Aside0.mk (Kd.R_below (zR HO667) hb)
           replace BK659 := Aside0.mk (blk_below (g := gb659) (o := .cells #[.bool a1_0, .int .u64 a1_1, .int .u64 a1_2] 36 (0, 0)) (zK BK659) hb)
           replace HB := Aside0.mk (below_step (zB HB) hb)
           (try clear hb)
           refine hK.out _ _ ⟨zc BK659 0, zc BK659 1, zc BK659 2⟩ (fun hHeld => ?_)
           clear hK K
           refine zn 27 ?_; refine zp 19 28 HT_ ?_; refine zp 20 29 HT_ ?_; refine zp 21 30 HT_ ?_; refine zo 22 31 HT_ (fun K hK => ?_)
           refine zg Try.func44 #[] ?_
           with_reducible refine (addrset_All.calls  t673 _ A15.out).mono ?_
           rintro e w45 ⟨v674, rfl, ho0, hb⟩
           refine ⟨_, rfl, ?_⟩
           have HO675 := Aside0.mk (Kd.R_lower (Kd.R_new' (Kd.R_new' ho0 (Kd.R_lt (zR HO664))) (Kd.R_lt (zR HO667))) (below_size (zB HB)))
           replace HO664 := Aside0.mk (Kd.R_elder' (zR HO664) (Kd.R_base ho0) hb)
           replace HO667 := Aside0.mk (Kd.R_elder' (zR HO667) (Kd.R_base ho0) hb)
           replace BK659 := Aside0.mk (blk_below (g := gb659) (o := .cells #[.bool a1_0, .int .u64 a1_1, .int .u64 a1_2] 36 (0, 0)) (zK BK659) hb)
           replace HB := Aside0.mk (below_step (zB HB) hb)
           (try clear hb)
           (try clear ho0)
           refine hK.out _ _ ⟨zc BK659 0, zc BK659 1, zc BK659 2⟩ (fun hHeld => ?_)
           clear hK K
           refine zn 31 ?_; refine zo 23 32 HT_ (fun K hK => ?_)
           refine zg Try.func45 #[] ?_
           with_reducible refine (intrusionref07_All.calls  t676 _ A16.out).mono ?_
           rintro e w46 ⟨v677, rfl, ho0, hb⟩
           refine ⟨_, rfl, ?_⟩
           have HO678 := Aside0.mk (Kd.R_lower (Kd.R_new' (Kd.R_new' (Kd.R_new' ho0 (Kd.R_lt (zR HO664))) (Kd.R_lt (zR HO667))) (Kd.R_lt (zR HO675))) (below_size (zB HB)))
           replace HO664 := Aside0.mk (Kd.R_elder' (zR HO664) (Kd.R_base ho0) hb)
           replace HO667 := Aside0.mk (Kd.R_elder' (zR HO667) (Kd.R_base ho0) hb)
           replace HO675 := Aside0.mk (Kd.R_elder' (zR HO675) (Kd.R_base ho0) hb)
           replace BK659 := Aside0.mk (blk_below (g := gb659) (o := .cells #[.bool a1_0, .int .u64 a1_1, .int .u64 a1_2] 36 (0, 0)) (zK BK659) hb)
           replace HB := Aside0.mk (below_step (zB HB) hb)
           (try clear hb)
           (try clear ho0)
           obtain ⟨Ao47, co47, eo47⟩ := Kd.R_slice HO675.out
           (first | subst eo47 | (injection eo47 with f1_ f2_ f3_; have f4_ := f1_.symm; have f5_ := f3_.symm; clear f1_ f2_ f3_; subst f4_; subst f5_))
           obtain ⟨Ao48, co48, eo48⟩ := Kd.R_slice HO678.out
           (first | subst eo48 | (injection eo48 with f1_ f2_ f3_; have f4_ := f1_.symm; have f5_ := f3_.symm; clear f1_ f2_ f3_; subst f4_; subst f5_))
           refine hK.out _ _ ⟨zc BK659 0, zc BK659 1, zc BK659 2⟩ (fun hHeld => ?_)
           clear hK K
           refine zn 32 ?_; refine zo 24 33 HT_ (fun K hK => ?_)
           refine zg Try.func37 #[.slice Ao47 t673.length co47, .slice Ao48 t676.length co48] ?_
           with_reducible refine (intrusionref07_Same.calls k _ _ t673 _ _ t676 false _ ?side1 ?side2 ?side3 ?side4 A17.out).mono ?_
           (case side1 => repeat (first | exact (Kd.R_reads' HO675.out).2.2 | (with_reducible refine Kd.C_alloc ?_ _) | (with_reducible refine Kd.C_drewN ?_ _) | (with_reducible refine Kd.C_drew ?_)))
           (case side2 => exact (Kd.R_reads' HO675.out).2.1)
           (case side3 => repeat (first | exact (Kd.R_reads' HO678.out).2.2 | (with_reducible refine Kd.C_alloc ?_ _) | (with_reducible refine Kd.C_drewN ?_ _) | (with_reducible refine Kd.C_drew ?_)))
           (case side4 => exact (Kd.R_reads' HO678.out).2.1)
           rintro e w' ⟨rfl, ⟨nd, rfl⟩⟩
           refine ⟨_, rfl, ?_⟩
           refine hK.out _ _ ⟨zc BK659 0, zc BK659 1, zc BK659 2⟩ (fun hHeld => ?_)
           clear hK K
           refine zn 33 ?_; refine zp 25 34 HT_ ?_; refine zp 26 35 HT_ ?_; refine zu 27 36 HT_ ?_; refine zp 28 37 HT_ ?_; refine zp 29 4 HT_ ?_; refine zd HT_ ?_
           try go_wp2
           go_ret
           exact ⟨by first | rfl | (simp [errW_none, errW_some] <;> rfl) | (simp [*, errW_none, errW_some] <;> rfl), by repeat (first | (with_reducible first | exact HB.out | apply below_alloc | apply pw_below_drewN | apply below_drew1 | refine below_set ?_ GE659.out) | exact HB.out)⟩
       · rw [if_neg c14] at H
         have c14b0 : (t671 == t672) = false := by simpa using c14
         (try (have c14b1 : decide (t671 = t672) = false := by first | (simpa using c14) | exact decide_eq_true (Decidable.not_not.1 (fun hn => c14 (bne_iff_ne.2 hn))) | exact beq_iff_eq.2 (Decidable.not_not.1 (fun hn => c14 (bne_iff_ne.2 hn))) | exact decide_eq_false (bne_iff_ne.1 c14) | exact beq_eq_false_iff_ne.2 (bne_iff_ne.1 c14) | exact bne_iff_ne.1 c14))
         (try (have c14b2 : (t671 == t672) = false := by first | (simpa using c14) | exact decide_eq_true (Decidable.not_not.1 (fun hn => c14 (bne_iff_ne.2 hn))) | exact beq_iff_eq.2 (Decidable.not_not.1 (fun hn => c14 (bne_iff_ne.2 hn))) | exact decide_eq_false (bne_iff_ne.1 c14) | exact beq_eq_false_iff_ne.2 (bne_iff_ne.1 c14) | exact bne_iff_ne.1 c14))
         (try (have c14b3 : ¬ (t671 = t672) := by first | (simpa using c14) | exact decide_eq_true (Decidable.not_not.1 (fun hn => c14 (bne_iff_ne.2 hn))) | exact beq_iff_eq.2 (Decidable.not_not.1 (fun hn => c14 (bne_iff_ne.2 hn))) | exact decide_eq_false (bne_iff_ne.1 c14) | exact beq_eq_false_iff_ne.2 (bne_iff_ne.1 c14) | exact bne_iff_ne.1 c14))
         clear c14
         obtain rfl := Option.some.inj H
         go_enter Try.func9, Try.ntmps9
         try go_wp2_with (first | ((with_reducible refine gate_dst (N := 3) rfl ?_); refine zx 3 #[.bool a1_0, .int .u64 a1_1, .int .u64 a1_2] 36 ?_; intro gb659 hg w49 hbox hb; have BK659 := Aside0.mk (hbox); have GW659 := Aside0.mk ((by rw [hg]; exact (below_size (zB HB)) : w.heap.size ≤ gb659)); have GE659 := Aside0.mk ((by rw [hg]; exact (below_size (zB HB)) : w.heap.size ≤ gb659)); replace HB := Aside0.mk (below_step (zB HB) hb); clear hb hbox hg) | ((with_reducible refine gate_callee (f := 35) rfl ?_); refine goesL_ (some 6) rfl rfl Try.func35 (by kernel_rfl) rfl #[.slice A0 l0.length c0, .slice none 0 0] rfl (by (try simp only [List.map_toArray, List.map_cons, List.map_nil]); first | done | rfl | (simp only [List.length_drop, List.length_take]; rfl)) ?_; (refine (intrusionlaw07_few.calls _ _ l0 _ _ ([] : List (S66)) true _ ?side1 ?side2 ?side3 ?side4 A3.out).mono ?_); (case side1 => repeat (first | exact (Kd.C_below HR0.out HB.out) | (with_reducible refine Kd.C_alloc ?_ _) | (with_reducible refine Kd.C_drewN ?_ _) | (with_reducible refine Kd.C_drew ?_))); (case side2 => exact HC0.out); (case side3 => exact Kd.C_nil _ _); (case side4 => exact Nat.le_refl _); rintro e w' ⟨rfl, ⟨nd, rfl⟩⟩; refine ⟨_, rfl, ?_⟩))
         (try (rw [drewN_self w49]; generalize hq_ : World.drewN w49 _ = w49; have n0_ : Aside0 (w49.heap[gb659]? = some (.cells #[.bool a1_0, .int .u64 a1_1, .int .u64 a1_2] 36 (0, 0))) := ⟨by rw [← hq_]; exact (zK BK659)⟩; have n1_ : Aside0 (Below w.heap.size w w49) := ⟨by rw [← hq_]; exact (zB HB)⟩; clear BK659 HB hq_; have BK659 := n0_; have HB := n1_; clear n0_ n1_))
         replace BK659 := Aside0.mk (blk_drew BK659.out)
         replace HB := Aside0.mk (below_drew1 HB.out)
         refine start_ (n := 30) (S := fun w' => w'.cell? ⟨gb659, 0, none⟩ = some (.bool a1_0) ∧ w'.cell? ⟨gb659, 1, none⟩ = some (.int .u64 a1_1) ∧ w'.cell? ⟨gb659, 2, none⟩ = some (.int .u64 a1_2)) (ds := []) #[false, false, false, false, false, false, false, false, false, false, false, false, false, false, false, false, false, false, false, false, false, false, false, false, false, false, false, false, false, false] (by kernel_rfl) rfl rfl ⟨zc BK659 0, zc BK659 1, zc BK659 2⟩ (fun hHeld => ?_); refine with_tabW intrusionlaw07_AddrsetNormal.tab3 intrusionlaw07_AddrsetNormal.bits3 (fun HT_ HW_ => ?_)
         generalize w49.drew = w50 at BK659 HB hHeld ⊢
         refine zp 0 9 HT_ ?_; refine zp 2 11 HT_ ?_; refine zo 1 10 HT_ (fun K hK => ?_)
         refine zg Try.func38 #[.slice A0 l0.length c0] ?_
         with_reducible refine (addrset_Normal.calls k _ _ l0 t662 _ ?side1 ?side2 A5.out).mono ?_
         (case side1 => repeat (first | exact (Kd.C_below HR0.out HB.out) | (with_reducible refine Kd.C_alloc ?_ _) | (with_reducible refine Kd.C_drewN ?_ _) | (with_reducible refine Kd.C_drew ?_)))
         (case side2 => exact HC0.out)
         rintro e w51 ⟨v663, rfl, ho0, hb⟩
         refine ⟨_, rfl, ?_⟩
         have HO664 := Aside0.mk (Kd.R_lower ho0 (below_size (zB HB)))
         replace BK659 := Aside0.mk (blk_below (g := gb659) (o := .cells #[.bool a1_0, .int .u64 a1_1, .int .u64 a1_2] 36 (0, 0)) (zK BK659) hb)
         replace HB := Aside0.mk (below_step (zB HB) hb)
         (try clear hb)
         (try clear ho0)
         refine hK.out _ _ ⟨zc BK659 0, zc BK659 1, zc BK659 2⟩ (fun hHeld => ?_)
         clear hK K
         refine zn 10 ?_; refine zo 3 12 HT_ (fun K hK => ?_)
         refine zg Try.func39 #[.slice A0 l0.length c0] ?_
         with_reducible refine (intrusionref07_Normal.calls k _ _ l0 t665 _ ?side1 ?side2 A6.out).mono ?_
         (case side1 => repeat (first | exact (Kd.C_below HR0.out HB.out) | (with_reducible refine Kd.C_alloc ?_ _) | (with_reducible refine Kd.C_drewN ?_ _) | (with_reducible refine Kd.C_drew ?_)))
         (case side2 => exact HC0.out)
         rintro e w52 ⟨v666, rfl, ho0, hb⟩
         refine ⟨_, rfl, ?_⟩
         have HO667 := Aside0.mk (Kd.R_lower (Kd.R_new' ho0 (Kd.R_lt (zR HO664))) (below_size (zB HB)))
         replace HO664 := Aside0.mk (Kd.R_elder' (zR HO664) (Kd.R_base ho0) hb)
         replace BK659 := Aside0.mk (blk_below (g := gb659) (o := .cells #[.bool a1_0, .int .u64 a1_1, .int .u64 a1_2] 36 (0, 0)) (zK BK659) hb)
         replace HB := Aside0.mk (below_step (zB HB) hb)
         (try clear hb)
         (try clear ho0)
         obtain ⟨Ao53, co53, eo53⟩ := Kd.R_slice HO664.out
         (first | subst eo53 | (injection eo53 with f1_ f2_ f3_; have f4_ := f1_.symm; have f5_ := f3_.symm; clear f1_ f2_ f3_; subst f4_; subst f5_))
         obtain ⟨Ao54, co54, eo54⟩ := Kd.R_slice HO667.out
         (first | subst eo54 | (injection eo54 with f1_ f2_ f3_; have f4_ := f1_.symm; have f5_ := f3_.symm; clear f1_ f2_ f3_; subst f4_; subst f5_))
         refine hK.out _ _ ⟨zc BK659 0, zc BK659 1, zc BK659 2⟩ (fun hHeld => ?_)
         clear hK K
         refine zn 12 ?_; refine zo 4 13 HT_ (fun K hK => ?_)
         refine zg Try.func37 #[.slice Ao53 t662.length co53, .slice Ao54 t665.length co54] ?_
         with_reducible refine (intrusionref07_Same.calls k _ _ t662 _ _ t665 true _ ?side1 ?side2 ?side3 ?side4 A7.out).mono ?_
         (case side1 => repeat (first | exact (Kd.R_reads' HO664.out).2.2 | (with_reducible refine Kd.C_alloc ?_ _) | (with_reducible refine Kd.C_drewN ?_ _) | (with_reducible refine Kd.C_drew ?_)))
         (case side2 => exact (Kd.R_reads' HO664.out).2.1)
         (case side3 => repeat (first | exact (Kd.R_reads' HO667.out).2.2 | (with_reducible refine Kd.C_alloc ?_ _) | (with_reducible refine Kd.C_drewN ?_ _) | (with_reducible refine Kd.C_drew ?_)))
         (case side4 => exact (Kd.R_reads' HO667.out).2.1)
         rintro e w' ⟨rfl, ⟨nd, rfl⟩⟩
         refine ⟨_, rfl, ?_⟩
         refine hK.out _ _ ⟨zc BK659 0, zc BK659 1, zc BK659 2⟩ (fun hHeld => ?_)
         clear hK K
         refine zn 13 ?_; refine zp 5 14 HT_ ?_; refine zp 6 15 HT_ ?_; refine zp 8 17 HT_ ?_; refine zo 7 16 HT_ (fun K hK => ?_)
         refine zg Try.func40 #[.slice A0 l0.length c0] ?_
         with_reducible refine (addrset_Valid.calls k _ _ l0 t669 _ ?side1 ?side2 A9.out).mono ?_
         (case side1 => repeat (first | exact (Kd.C_below HR0.out (zB HB)) | (with_reducible refine Kd.C_alloc ?_ _) | (with_reducible refine Kd.C_drewN ?_ _) | (with_reducible refine Kd.C_drew ?_)))
         (case side2 => exact HC0.out)
         rintro e w55 ⟨rfl, hb⟩
         refine ⟨_, rfl, ?_⟩
         replace HO664 := Aside0.mk (Kd.R_below (zR HO664) hb)
         replace HO667 := Aside0.mk (Kd.R_below (zR HO667) hb)
         replace BK659 := Aside0.mk (blk_below (g := gb659) (o := .cells #[.bool a1_0, .int .u64 a1_1, .int .u64 a1_2] 36 (0, 0)) (zK BK659) hb)
         replace HB := Aside0.mk (below_step (zB HB) hb)
         (try clear hb)
         refine hK.out _ _ ⟨zc BK659 0, zc BK659 1, zc BK659 2⟩ (fun hHeld => ?_)
         clear hK K
         refine zn 16 ?_; refine zo 9 18 HT_ (fun K hK => ?_)
         refine zg Try.func41 #[.slice A0 l0.length c0] ?_
         with_reducible refine (intrusionref07_Valid.calls k _ _ l0 t670 _ ?side1 ?side2 A10.out).mono ?_
         (case side1 => repeat (first | exact (Kd.C_below HR0.out HB.out) | (with_reducible refine Kd.C_alloc ?_ _) | (with_reducible refine Kd.C_drewN ?_ _) | (with_reducible refine Kd.C_drew ?_)))
         (case side2 => exact HC0.out)
         rintro e w56 ⟨rfl, hb⟩
         refine ⟨_, rfl, ?_⟩
         replace HO664 := Aside0.mk (Kd.R_below (zR HO664) hb)
         replace HO667 := Aside0.mk (Kd.R_below (zR HO667) hb)
         replace BK659 := Aside0.mk (blk_below (g := gb659) (o := .cells #[.bool a1_0, .int .u64 a1_1, .int .u64 a1_2] 36 (0, 0)) (zK BK659) hb)
         replace HB := Aside0.mk (below_step (zB HB) hb)
         (try clear hb)
         refine hK.out _ _ ⟨zc BK659 0, zc BK659 1, zc BK659 2⟩ (fun hHeld => ?_)
         clear hK K
         refine zn 18 ?_; refine zp 10 19 HT_ ?_; refine zp 11 20 HT_ ?_; refine zp 12 21 HT_ ?_; refine zp 13 22 HT_ ?_; refine zp 16 25 HT_ ?_; refine zt 14 23 HT_ HW_ hHeld ?_; refine zt 17 26 HT_ HW_ hHeld ?_; refine zo 15 24 HT_ (fun K hK => ?_)
         refine zg Try.func42 #[.slice A0 l0.length c0, .agg #[.bool a1_0, .int .u64 a1_1, .int .u64 a1_2]] ?_
         with_reducible refine (addrset_Contains.calls _ _ l0 a1_0 a1_1 a1_2 t671 _ ?side1 ?side2 A12.out).mono ?_
         (case side1 => repeat (first | exact (Kd.C_below HR0.out HB.out) | (with_reducible refine Kd.C_alloc ?_ _) | (with_reducible refine Kd.C_drewN ?_ _) | (with_reducible refine Kd.C_drew ?_)))
         (case side2 => exact HC0.out)
         rintro e w57 ⟨rfl, hb⟩
         refine ⟨_, rfl, ?_⟩
         replace HO664 := Aside0.mk (Kd.R_below (zR HO664) hb)
         replace HO667 := Aside0.mk (Kd.R_below (zR HO667) hb)
         replace BK659 := Aside0.mk (blk_below (g := gb659) (o := .cells #[.bool a1_0, .int .u64 a1_1, .int .u64 a1_2] 36 (0, 0)) (zK BK659) hb)
         replace HB := Aside0.mk (below_step (zB HB) hb)
         (try clear hb)
         refine hK.out _ _ ⟨zc BK659 0, zc BK659 1, zc BK659 2⟩ (fun hHeld => ?_)
         clear hK K
         refine zn 24 ?_; refine zo 18 27 HT_ (fun K hK => ?_)
         refine zg Try.func43 #[.slice A0 l0.length c0, .agg #[.bool a1_0, .int .u64 a1_1, .int .u64 a1_2]] ?_
         with_reducible refine (intrusionref07_Contains.calls k _ _ l0 a1_0 a1_1 a1_2 t672 _ ?side1 ?side2 A13.out).mono ?_
         (case side1 => repeat (first | exact (Kd.C_below HR0.out HB.out) | (with_reducible refine Kd.C_alloc ?_ _) | (with_reducible refine Kd.C_drewN ?_ _) | (with_reducible refine Kd.C_drew ?_)))
         (case side2 => exact HC0.out)
         rintro e w58 ⟨rfl, hb⟩
         refine ⟨_, rfl, ?_⟩
         replace HO664 := Aside0.mk (Kd.R_below (zR HO664) hb)
         replace HO667 := Aside0.mk (Kd.R_below (zR HO667) hb)
         replace BK659 := Aside0.mk (blk_below (g := gb659) (o := .cells #[.bool a1_0, .int .u64 a1_1, .int .u64 a1_2] 36 (0, 0)) (zK BK659) hb)
         replace HB := Aside0.mk (below_step (zB HB) hb)
         (try clear hb)
         refine hK.out _ _ ⟨zc BK659 0, zc BK659 1, zc BK659 2⟩ (fun hHeld => ?_)
         clear hK K
         refine zn 27 ?_; refine zp 19 28 HT_ ?_; refine zp 20 29 HT_ ?_; refine zp 21 30 HT_ ?_; refine zu 22 31 HT_ ?_; refine zu 23 32 HT_ ?_; refine zu 24 33 HT_ ?_; refine zp 25 34 HT_ ?_; refine zp 26 35 HT_ ?_; refine zu 27 36 HT_ ?_; refine zp 28 37 HT_ ?_; refine zp 29 4 HT_ ?_; refine zd HT_ ?_
         try go_wp2
         go_ret
         exact ⟨by first | rfl | (simp [errW_none, errW_some] <;> rfl) | (simp [*, errW_none, errW_some] <;> rfl), by repeat (first | (with_reducible first | exact HB.out | apply below_alloc | apply pw_below_drewN | apply below_drew1 | refine below_set ?_ GE659.out) | exact HB.out)⟩
     · rw [if_neg c11] at H
       have c11b0 : (t669 == t670) = false := by simpa using c11
       (try (have c11b1 : decide (t669 = t670) = false := by first | (simpa using c11) | exact decide_eq_true (Decidable.not_not.1 (fun hn => c11 (bne_iff_ne.2 hn))) | exact beq_iff_eq.2 (Decidable.not_not.1 (fun hn => c11 (bne_iff_ne.2 hn))) | exact decide_eq_false (bne_iff_ne.1 c11) | exact beq_eq_false_iff_ne.2 (bne_iff_ne.1 c11) | exact bne_iff_ne.1 c11))
       (try (have c11b2 : (t669 == t670) = false := by first | (simpa using c11) | exact decide_eq_true (Decidable.not_not.1 (fun hn => c11 (bne_iff_ne.2 hn))) | exact beq_iff_eq.2 (Decidable.not_not.1 (fun hn => c11 (bne_iff_ne.2 hn))) | exact decide_eq_false (bne_iff_ne.1 c11) | exact beq_eq_false_iff_ne.2 (bne_iff_ne.1 c11) | exact bne_iff_ne.1 c11))
       (try (have c11b3 : ¬ (t669 = t670) := by first | (simpa using c11) | exact decide_eq_true (Decidable.not_not.1 (fun hn => c11 (bne_iff_ne.2 hn))) | exact beq_iff_eq.2 (Decidable.not_not.1 (fun hn => c11 (bne_iff_ne.2 hn))) | exact decide_eq_false (bne_iff_ne.1 c11) | exact beq_eq_false_iff_ne.2 (bne_iff_ne.1 c11) | exact bne_iff_ne.1 c11))
       clear c11
       obtain rfl := Option.some.inj H
       go_enter Try.func9, Try.ntmps9
       try go_wp2_with (first | ((with_reducible refine gate_dst (N := 3) rfl ?_); refine zx 3 #[.bool a1_0, .int .u64 a1_1, .int .u64 a1_2] 36 ?_; intro gb659 hg w59 hbox hb; have BK659 := Aside0.mk (hbox); have GW659 := Aside0.mk ((by rw [hg]; exact (below_size (zB HB)) : w.heap.size ≤ gb659)); have GE659 := Aside0.mk ((by rw [hg]; exact (below_size (zB HB)) : w.heap.size ≤ gb659)); replace HB := Aside0.mk (below_step (zB HB) hb); clear hb hbox hg) | ((with_reducible refine gate_callee (f := 35) rfl ?_); refine goesL_ (some 6) rfl rfl Try.func35 (by kernel_rfl) rfl #[.slice A0 l0.length c0, .slice none 0 0] rfl (by (try simp only [List.map_toArray, List.map_cons, List.map_nil]); first | done | rfl | (simp only [List.length_drop, List.length_take]; rfl)) ?_; (refine (intrusionlaw07_few.calls _ _ l0 _ _ ([] : List (S66)) true _ ?side1 ?side2 ?side3 ?side4 A3.out).mono ?_); (case side1 => repeat (first | exact (Kd.C_below HR0.out HB.out) | (with_reducible refine Kd.C_alloc ?_ _) | (with_reducible refine Kd.C_drewN ?_ _) | (with_reducible refine Kd.C_drew ?_))); (case side2 => exact HC0.out); (case side3 => exact Kd.C_nil _ _); (case side4 => exact Nat.le_refl _); rintro e w' ⟨rfl, ⟨nd, rfl⟩⟩; refine ⟨_, rfl, ?_⟩))
       (try (rw [drewN_self w59]; generalize hq_ : World.drewN w59 _ = w59; have n0_ : Aside0 (w59.heap[gb659]? = some (.cells #[.bool a1_0, .int .u64 a1_1, .int .u64 a1_2] 36 (0, 0))) := ⟨by rw [← hq_]; exact (zK BK659)⟩; have n1_ : Aside0 (Below w.heap.size w w59) := ⟨by rw [← hq_]; exact (zB HB)⟩; clear BK659 HB hq_; have BK659 := n0_; have HB := n1_; clear n0_ n1_))
       replace BK659 := Aside0.mk (blk_drew BK659.out)
       replace HB := Aside0.mk (below_drew1 HB.out)
       refine start_ (n := 30) (S := fun w' => True) (ds := []) #[false, false, false, false, false, false, false, false, false, false, false, false, false, false, false, false, false, false, false, false, false, false, false, false, false, false, false, false, false, false] (by kernel_rfl) rfl rfl trivial (fun hHeld => ?_); refine with_tabW intrusionlaw07_AddrsetNormal.tab3 intrusionlaw07_AddrsetNormal.bits3 (fun HT_ HW_ => ?_)
       generalize w59.drew = w60 at BK659 HB hHeld ⊢
       refine zp 0 9 HT_ ?_; refine zp 2 11 HT_ ?_; refine zo 1 10 HT_ (fun K hK => ?_)
       refine zg Try.func38 #[.slice A0 l0.length c0] ?_
       with_reducible refine (addrset_Normal.calls k _ _ l0 t662 _ ?side1 ?side2 A5.out).mono ?_
       (case side1 => repeat (first | exact (Kd.C_below HR0.out HB.out) | (with_reducible refine Kd.C_alloc ?_ _) | (with_reducible refine Kd.C_drewN ?_ _) | (with_reducible refine Kd.C_drew ?_)))
       (case side2 => exact HC0.out)
       rintro e w61 ⟨v663, rfl, ho0, hb⟩
       refine ⟨_, rfl, ?_⟩
       have HO664 := Aside0.mk (Kd.R_lower ho0 (below_size (zB HB)))
       replace BK659 := Aside0.mk (blk_below (g := gb659) (o := .cells #[.bool a1_0, .int .u64 a1_1, .int .u64 a1_2] 36 (0, 0)) (zK BK659) hb)
       replace HB := Aside0.mk (below_step (zB HB) hb)
       (try clear hb)
       (try clear ho0)
       refine hK.out _ _ trivial (fun hHeld => ?_)
       clear hK K
       refine zn 10 ?_; refine zo 3 12 HT_ (fun K hK => ?_)
       refine zg Try.func39 #[.slice A0 l0.length c0] ?_
       with_reducible refine (intrusionref07_Normal.calls k _ _ l0 t665 _ ?side1 ?side2 A6.out).mono ?_
       (case side1 => repeat (first | exact (Kd.C_below HR0.out HB.out) | (with_reducible refine Kd.C_alloc ?_ _) | (with_reducible refine Kd.C_drewN ?_ _) | (with_reducible refine Kd.C_drew ?_)))
       (case side2 => exact HC0.out)
       rintro e w62 ⟨v666, rfl, ho0, hb⟩
       refine ⟨_, rfl, ?_⟩
       have HO667 := Aside0.mk (Kd.R_lower (Kd.R_new' ho0 (Kd.R_lt (zR HO664))) (below_size (zB HB)))
       replace HO664 := Aside0.mk (Kd.R_elder' (zR HO664) (Kd.R_base ho0) hb)
       replace BK659 := Aside0.mk (blk_below (g := gb659) (o := .cells #[.bool a1_0, .int .u64 a1_1, .int .u64 a1_2] 36 (0, 0)) (zK BK659) hb)
       replace HB := Aside0.mk (below_step (zB HB) hb)
       (try clear hb)
       (try clear ho0)
       obtain ⟨Ao63, co63, eo63⟩ := Kd.R_slice HO664.out
       (first | subst eo63 | (injection eo63 with f1_ f2_ f3_; have f4_ := f1_.symm; have f5_ := f3_.symm; clear f1_ f2_ f3_; subst f4_; subst f5_))
       obtain ⟨Ao64, co64, eo64⟩ := Kd.R_slice HO667.out
       (first | subst eo64 | (injection eo64 with f1_ f2_ f3_; have f4_ := f1_.symm; have f5_ := f3_.symm; clear f1_ f2_ f3_; subst f4_; subst f5_))
       refine hK.out _ _ trivial (fun hHeld => ?_)
       clear hK K
       refine zn 12 ?_; refine zo 4 13 HT_ (fun K hK => ?_)
       refine zg Try.func37 #[.slice Ao63 t662.length co63, .slice Ao64 t665.length co64] ?_
       with_reducible refine (intrusionref07_Same.calls k _ _ t662 _ _ t665 true _ ?side1 ?side2 ?side3 ?side4 A7.out).mono ?_
       (case side1 => repeat (first | exact (Kd.R_reads' HO664.out).2.2 | (with_reducible refine Kd.C_alloc ?_ _) | (with_reducible refine Kd.C_drewN ?_ _) | (with_reducible refine Kd.C_drew ?_)))
       (case side2 => exact (Kd.R_reads' HO664.out).2.1)
       (case side3 => repeat (first | exact (Kd.R_reads' HO667.out).2.2 | (with_reducible refine Kd.C_alloc ?_ _) | (with_reducible refine Kd.C_drewN ?_ _) | (with_reducible refine Kd.C_drew ?_)))
       (case side4 => exact (Kd.R_reads' HO667.out).2.1)
       rintro e w' ⟨rfl, ⟨nd, rfl⟩⟩
       refine ⟨_, rfl, ?_⟩
       refine hK.out _ _ trivial (fun hHeld => ?_)
       clear hK K
       refine zn 13 ?_; refine zp 5 14 HT_ ?_; refine zp 6 15 HT_ ?_; refine zp 8 17 HT_ ?_; refine zo 7 16 HT_ (fun K hK => ?_)
       refine zg Try.func40 #[.slice A0 l0.length c0] ?_
       with_reducible refine (addrset_Valid.calls k _ _ l0 t669 _ ?side1 ?side2 A9.out).mono ?_
       (case side1 => repeat (first | exact (Kd.C_below HR0.out (zB HB)) | (with_reducible refine Kd.C_alloc ?_ _) | (with_reducible refine Kd.C_drewN ?_ _) | (with_reducible refine Kd.C_drew ?_)))
       (case side2 => exact HC0.out)
       rintro e w65 ⟨rfl, hb⟩
       refine ⟨_, rfl, ?_⟩
       replace HO664 := Aside0.mk (Kd.R_below (zR HO664) hb)
       replace HO667 := Aside0.mk (Kd.R_below (zR HO667) hb)
       replace BK659 := Aside0.mk (blk_below (g := gb659) (o := .cells #[.bool a1_0, .int .u64 a1_1, .int .u64 a1_2] 36 (0, 0)) (zK BK659) hb)
       replace HB := Aside0.mk (below_step (zB HB) hb)
       (try clear hb)
       refine hK.out _ _ trivial (fun hHeld => ?_)
       clear hK K
       refine zn 16 ?_; refine zo 9 18 HT_ (fun K hK => ?_)
       refine zg Try.func41 #[.slice A0 l0.length c0] ?_
       with_reducible refine (intrusionref07_Valid.calls k _ _ l0 t670 _ ?side1 ?side2 A10.out).mono ?_
       (case side1 => repeat (first | exact (Kd.C_below HR0.out HB.out) | (with_reducible refine Kd.C_alloc ?_ _) | (with_reducible refine Kd.C_drewN ?_ _) | (with_reducible refine Kd.C_drew ?_)))
       (case side2 => exact HC0.out)
       rintro e w66 ⟨rfl, hb⟩
       refine ⟨_, rfl, ?_⟩
       replace HO664 := Aside0.mk (Kd.R_below (zR HO664) hb)
       replace HO667 := Aside0.mk (Kd.R_below (zR HO667) hb)
       replace BK659 := Aside0.mk (blk_below (g := gb659) (o := .cells #[.bool a1_0, .int .u64 a1_1, .int .u64 a1_2] 36 (0, 0)) (zK BK659) hb)
       replace HB := Aside0.mk (below_step (zB HB) hb)
       (try clear hb)
       refine hK.out _ _ trivial (fun hHeld => ?_)
       clear hK K
       refine zn 18 ?_; refine zp 10 19 HT_ ?_; refine zp 11 20 HT_ ?_; refine zp 12 21 HT_ ?_; refine zu 13 22 HT_ ?_; refine zu 14 23 HT_ ?_; refine zu 15 24 HT_ ?_; refine zu 16 25 HT_ ?_; refine zu 17 26 HT_ ?_; refine zu 18 27 HT_ ?_; refine zu 19 28 HT_ ?_; refine zp 20 29 HT_ ?_; refine zp 21 30 HT_ ?_; refine zu 22 31 HT_ ?_; refine zu 23 32 HT_ ?_; refine zu 24 33 HT_ ?_; refine zp 25 34 HT_ ?_; refine zp 26 35 HT_ ?_; refine zu 27 36 HT_ ?_; refine zp 28 37 HT_ ?_; refine zp 29 4 HT_ ?_; refine zd HT_ ?_
       try go_wp2
       go_ret
       exact ⟨by first | rfl | (simp [errW_none, errW_some] <;> rfl) | (simp [*, errW_none, errW_some] <;> rfl), by repeat (first | (with_reducible first | exact HB.out | apply below_alloc | apply pw_below_drewN | apply below_drew1 | refine below_set ?_ GE659.out) | exact HB.out)⟩
   · replace c8 := Bool.eq_false_iff.mpr c8
     subst c8
     rw [if_neg zF] at H
     obtain rfl := Option.some.inj H
     go_enter Try.func9, Try.ntmps9
     try go_wp2_with (first | ((with_reducible refine gate_dst (N := 3) rfl ?_); refine zx 3 #[.bool a1_0, .int .u64 a1_1, .int .u64 a1_2] 36 ?_; intro gb659 hg w67 hbox hb; have BK659 := Aside0.mk (hbox); have GW659 := Aside0.mk ((by rw [hg]; exact (below_size (zB HB)) : w.heap.size ≤ gb659)); have GE659 := Aside0.mk ((by rw [hg]; exact (below_size (zB HB)) : w.heap.size ≤ gb659)); replace HB := Aside0.mk (below_step (zB HB) hb); clear hb hbox hg) | ((with_reducible refine gate_callee (f := 35) rfl ?_); refine goesL_ (some 6) rfl rfl Try.func35 (by kernel_rfl) rfl #[.slice A0 l0.length c0, .slice none 0 0] rfl (by (try simp only [List.map_toArray, List.map_cons, List.map_nil]); first | done | rfl | (simp only [List.length_drop, List.length_take]; rfl)) ?_; (refine (intrusionlaw07_few.calls _ _ l0 _ _ ([] : List (S66)) true _ ?side1 ?side2 ?side3 ?side4 A3.out).mono ?_); (case side1 => repeat (first | exact (Kd.C_below HR0.out HB.out) | (with_reducible refine Kd.C_alloc ?_ _) | (with_reducible refine Kd.C_drewN ?_ _) | (with_reducible refine Kd.C_drew ?_))); (case side2 => exact HC0.out); (case side3 => exact Kd.C_nil _ _); (case side4 => exact Nat.le_refl _); rintro e w' ⟨rfl, ⟨nd, rfl⟩⟩; refine ⟨_, rfl, ?_⟩))
     (try (rw [drewN_self w67]; generalize hq_ : World.drewN w67 _ = w67; have n0_ : Aside0 (w67.heap[gb659]? = some (.cells #[.bool a1_0, .int .u64 a1_1, .int .u64 a1_2] 36 (0, 0))) := ⟨by rw [← hq_]; exact (zK BK659)⟩; have n1_ : Aside0 (Below w.heap.size w w67) := ⟨by rw [← hq_]; exact (zB HB)⟩; clear BK659 HB hq_; have BK659 := n0_; have HB := n1_; clear n0_ n1_))
     replace BK659 := Aside0.mk (blk_drew BK659.out)
     replace HB := Aside0.mk (below_drew1 HB.out)
     refine start_ (n := 30) (S := fun w' => True) (ds := []) #[false, false, false, false, false, false, false, false, false, false, false, false, false, false, false, false, false, false, false, false, false, false, false, false, false, false, false, false, false, false] (by kernel_rfl) rfl rfl trivial (fun hHeld => ?_); refine with_tabW intrusionlaw07_AddrsetNormal.tab3 intrusionlaw07_AddrsetNormal.bits3 (fun HT_ HW_ => ?_)
     generalize w67.drew = w68 at BK659 HB hHeld ⊢
     refine zp 0 9 HT_ ?_; refine zp 2 11 HT_ ?_; refine zo 1 10 HT_ (fun K hK => ?_)
     refine zg Try.func38 #[.slice A0 l0.length c0] ?_
     with_reducible refine (addrset_Normal.calls k _ _ l0 t662 _ ?side1 ?side2 A5.out).mono ?_
     (case side1 => repeat (first | exact (Kd.C_below HR0.out HB.out) | (with_reducible refine Kd.C_alloc ?_ _) | (with_reducible refine Kd.C_drewN ?_ _) | (with_reducible refine Kd.C_drew ?_)))
     (case side2 => exact HC0.out)
     rintro e w69 ⟨v663, rfl, ho0, hb⟩
     refine ⟨_, rfl, ?_⟩
     have HO664 := Aside0.mk (Kd.R_lower ho0 (below_size (zB HB)))
     replace BK659 := Aside0.mk (blk_below (g := gb659) (o := .cells #[.bool a1_0, .int .u64 a1_1, .int .u64 a1_2] 36 (0, 0)) (zK BK659) hb)
     replace HB := Aside0.mk (below_step (zB HB) hb)
     (try clear hb)
     (try clear ho0)
     refine hK.out _ _ trivial (fun hHeld => ?_)
     clear hK K
     refine zn 10 ?_; refine zo 3 12 HT_ (fun K hK => ?_)
     refine zg Try.func39 #[.slice A0 l0.length c0] ?_
     with_reducible refine (intrusionref07_Normal.calls k _ _ l0 t665 _ ?side1 ?side2 A6.out).mono ?_
     (case side1 => repeat (first | exact (Kd.C_below HR0.out HB.out) | (with_reducible refine Kd.C_alloc ?_ _) | (with_reducible refine Kd.C_drewN ?_ _) | (with_reducible refine Kd.C_drew ?_)))
     (case side2 => exact HC0.out)
     rintro e w70 ⟨v666, rfl, ho0, hb⟩
     refine ⟨_, rfl, ?_⟩
     have HO667 := Aside0.mk (Kd.R_lower (Kd.R_new' ho0 (Kd.R_lt (zR HO664))) (below_size (zB HB)))
     replace HO664 := Aside0.mk (Kd.R_elder' (zR HO664) (Kd.R_base ho0) hb)
     replace BK659 := Aside0.mk (blk_below (g := gb659) (o := .cells #[.bool a1_0, .int .u64 a1_1, .int .u64 a1_2] 36 (0, 0)) (zK BK659) hb)
     replace HB := Aside0.mk (below_step (zB HB) hb)
     (try clear hb)
     (try clear ho0)
     obtain ⟨Ao71, co71, eo71⟩ := Kd.R_slice HO664.out
     (first | subst eo71 | (injection eo71 with f1_ f2_ f3_; have f4_ := f1_.symm; have f5_ := f3_.symm; clear f1_ f2_ f3_; subst f4_; subst f5_))
     obtain ⟨Ao72, co72, eo72⟩ := Kd.R_slice HO667.out
     (first | subst eo72 | (injection eo72 with f1_ f2_ f3_; have f4_ := f1_.symm; have f5_ := f3_.symm; clear f1_ f2_ f3_; subst f4_; subst f5_))
     refine hK.out _ _ trivial (fun hHeld => ?_)
     clear hK K
     refine zn 12 ?_; refine zo 4 13 HT_ (fun K hK => ?_)
     refine zg Try.func37 #[.slice Ao71 t662.length co71, .slice Ao72 t665.length co72] ?_
     with_reducible refine (intrusionref07_Same.calls k _ _ t662 _ _ t665 false _ ?side1 ?side2 ?side3 ?side4 A7.out).mono ?_
     (case side1 => repeat (first | exact (Kd.R_reads' HO664.out).2.2 | (with_reducible refine Kd.C_alloc ?_ _) | (with_reducible refine Kd.C_drewN ?_ _) | (with_reducible refine Kd.C_drew ?_)))
     (case side2 => exact (Kd.R_reads' HO664.out).2.1)
     (case side3 => repeat (first | exact (Kd.R_reads' HO667.out).2.2 | (with_reducible refine Kd.C_alloc ?_ _) | (with_reducible refine Kd.C_drewN ?_ _) | (with_reducible refine Kd.C_drew ?_)))
     (case side4 => exact (Kd.R_reads' HO667.out).2.1)
     rintro e w' ⟨rfl, ⟨nd, rfl⟩⟩
     refine ⟨_, rfl, ?_⟩
     refine hK.out _ _ trivial (fun hHeld => ?_)
     clear hK K
     refine zn 13 ?_; refine zp 5 14 HT_ ?_; refine zu 6 15 HT_ ?_; refine zu 7 16 HT_ ?_; refine zu 8 17 HT_ ?_; refine zu 9 18 HT_ ?_; refine zu 10 19 HT_ ?_; refine zp 11 20 HT_ ?_; refine zp 12 21 HT_ ?_; refine zu 13 22 HT_ ?_; refine zu 14 23 HT_ ?_; refine zu 15 24 HT_ ?_; refine zu 16 25 HT_ ?_; refine zu 17 26 HT_ ?_; refine zu 18 27 HT_ ?_; refine zu 19 28 HT_ ?_; refine zp 20 29 HT_ ?_; refine zp 21 30 HT_ ?_; refine zu 22 31 HT_ ?_; refine zu 23 32 HT_ ?_; refine zu 24 33 HT_ ?_; refine zp 25 34 HT_ ?_; refine zp 26 35 HT_ ?_; refine zu 27 36 HT_ ?_; refine zp 28 37 HT_ ?_; refine zp 29 4 HT_ ?_; refine zd HT_ ?_
     try go_wp2
     go_ret
     exact ⟨by first | rfl | (simp [errW_none, errW_some] <;> rfl) | (simp [*, errW_none, errW_some] <;> rfl), by repeat (first | (with_reducible first | exact HB.out | apply below_alloc | apply pw_below_drewN | apply below_drew1 | refine below_set ?_ GE659.out) | exact HB.out)⟩
 · replace c4 := Bool.eq_false_iff.mpr c4
   subst c4
   rw [if_neg zF] at H
   replace H := Option.bind_eq_some_iff.mp H
   obtain ⟨t661, A730, H⟩ := H
   try dsimp only at H
   have A73 := Aside0.mk A730
   clear A730
   obtain rfl := Option.some.inj H
   go_enter Try.func9, Try.ntmps9
   go_wp2_with (first | ((with_reducible refine gate_dst (N := 3) rfl ?_); refine zx 3 #[.bool a1_0, .int .u64 a1_1, .int .u64 a1_2] 36 ?_; intro gb659 hg w74 hbox hb; have BK659 := Aside0.mk (hbox); have GW659 := Aside0.mk ((by rw [hg]; exact (below_size (zB HB)) : w.heap.size ≤ gb659)); have GE659 := Aside0.mk ((by rw [hg]; exact (below_size (zB HB)) : w.heap.size ≤ gb659)); replace HB := Aside0.mk (below_step (zB HB) hb); clear hb hbox hg) | ((with_reducible refine gate_callee (f := 35) rfl ?_); refine goesL_ (some 6) rfl rfl Try.func35 (by kernel_rfl) rfl #[.slice A0 l0.length c0, .slice none 0 0] rfl (by (try simp only [List.map_toArray, List.map_cons, List.map_nil]); first | done | rfl | (simp only [List.length_drop, List.length_take]; rfl)) ?_; (refine (intrusionlaw07_few.calls _ _ l0 _ _ ([] : List (S66)) false _ ?side1 ?side2 ?side3 ?side4 A3.out).mono ?_); (case side1 => repeat (first | exact (Kd.C_below HR0.out HB.out) | (with_reducible refine Kd.C_alloc ?_ _) | (with_reducible refine Kd.C_drewN ?_ _) | (with_reducible refine Kd.C_drew ?_))); (case side2 => exact HC0.out); (case side3 => exact Kd.C_nil _ _); (case side4 => exact Nat.le_refl _); rintro e w' ⟨rfl, ⟨nd, rfl⟩⟩; refine ⟨_, rfl, ?_⟩) | ((with_reducible refine gate_callee (f := 36) rfl ?_); refine goesL_ (some 8) rfl rfl Try.func36 (by kernel_rfl) rfl #[] rfl (by (try simp only [List.map_toArray, List.map_cons, List.map_nil]); first | done | rfl | (simp only [List.length_drop, List.length_take]; rfl)) ?_; (with_reducible refine (intrusionlaw07_awake.calls k  t661 _ A73.out).mono ?_); rintro e w75 ⟨rfl, hb⟩; refine ⟨_, rfl, ?_⟩; replace BK659 := Aside0.mk (blk_below (g := gb659) (o := .cells #[.bool a1_0, .int .u64 a1_1, .int .u64 a1_2] 36 (0, 0)) (zK BK659) hb); replace HB := Aside0.mk (below_step (zB HB) hb); (try clear hb)))
   go_ret
   exact ⟨by first | rfl | (simp [errW_none, errW_some] <;> rfl) | (simp [*, errW_none, errW_some] <;> rfl), by repeat (first | (with_reducible first | exact HB.out | apply below_alloc | apply pw_below_drewN | apply below_drew1 | refine below_set ?_ GE659.out) | exact HB.out)⟩
end Go.Proofs.Ytcgfpffgiimgmaa.Q
end

section
set_option linter.unusedVariables false
namespace Go.Proofs.Ytcgfpffgiimgmaa.Read
open Go.RowKit Go.Deep Go.WideShapes Go.Proofs.YtcgfpffgiimgmaaW.PrintWords
def Reads {α : Type} (P : Program) (W : World) (d : Kd α) (Q : α → Prop) (t : TypeId) : Prop :=
  ∀ (H : Type) (enc : TypeId × Value → H) (fuel : Nat) (cs : List Value) (x : DataW H × List MemPlace), DataW.trod enc P W 0 (fun _ => true) true fuel t cs = some x → ∃ y, d.K W y cs ∧ Q y
section
variable {P : Program} {W : World}
theorem reads_int {k : IntKind} {t : TypeId} (ht : P.underlying t = some (.int k)) : Reads P W (Kd.int k) (fun n => (Lit.int k n).wf = true) t := by
  intro H enc fuel cs x h
  obtain ⟨n, rfl, _, hw⟩ := DataW.trod_int ht h
  exact ⟨n, rfl, hw⟩
theorem reads_bool {t : TypeId} (ht : P.underlying t = some .bool) : Reads P W Kd.bool (fun _ => True) t := by
  intro H enc fuel cs x h
  obtain ⟨n, rfl, _⟩ := DataW.trod_bool ht h
  exact ⟨n, rfl, trivial⟩
theorem cells_at {a : Addr} {n : Nat} {cs : List Value} (h : W.cells? 0 a n = some cs) : ∀ i u, cs[i]? = some u → W.cell? (a.add i) = some u := by
  obtain ⟨_, hl, hc⟩ := World.cells?_some h
  intro i u hi
  have hlt : i < cs.length := (List.getElem?_eq_some_iff.1 hi).1
  rw [hc i (by omega), hi]
theorem reads_slice {α : Type} {d : Kd α} {Q : α → Prop} {t e : TypeId} (ht : P.underlying t = some (.slice e)) (hc : P.cellsOf e = d.sz) (he : Reads P W d Q e) :
    Reads P W (Kd.slice e d) (fun xs => xs.length ≤ maxLen ∧ ∀ x ∈ xs, Q x) t := by
  intro H enc fuel cs x h
  rcases open_slice ht h with ⟨rfl, _⟩ | ⟨a, len, cap, m, n, D, Pl, rfl, _, hl, hm, hmm, _, hx⟩
  · exact ⟨[], ⟨none, 0, rfl, Nat.le_refl _, ⟨rfl, by simp, fun h => absurd h (by simp)⟩⟩, by simp⟩
  · have hml : m = cap := by simpa using hmm
    have hy : ∀ i : Fin len, ∃ y, (∃ cs', cs'.length = d.sz ∧ d.K W y cs' ∧ ∀ j u, cs'[j]? = some u → W.cell? (a.add (i.1 * d.sz + j)) = some u) ∧ Q y := by
      intro i
      obtain ⟨cs', h1, h2⟩ := hx i.1 (by omega)
      obtain ⟨y, hk, hq⟩ := he H enc n cs' _ h2
      refine ⟨y, ⟨cs', d.K_len hk, hk, fun j u hj => ?_⟩, hq⟩
      have := cells_at h1 j u hj
      rwa [hc, Addr.add_add] at this
    have hf : ∃ f : Fin len → α, ∀ i, (∃ cs', cs'.length = d.sz ∧ d.K W (f i) cs' ∧ ∀ j u, cs'[j]? = some u → W.cell? (a.add (i.1 * d.sz + j)) = some u) ∧ Q (f i) := ⟨fun i => Classical.choose (hy i), fun i => Classical.choose_spec (hy i)⟩
    obtain ⟨f, hf⟩ := hf
    refine ⟨List.ofFn f, ⟨some a, cap, by simp, by simpa using hl, ⟨rfl, by simp [maxLen] at hm ⊢; omega, fun _ => ⟨a, rfl, fun j p hj => ?_⟩⟩⟩, by simpa using Nat.le_trans hl hm, fun y hy => ?_⟩
    · obtain ⟨hlt, rfl⟩ := List.getElem?_eq_some_iff.1 hj
      have hjl : j < len := by simpa using hlt
      rw [List.getElem_ofFn]
      exact (hf ⟨j, hjl⟩).1
    · obtain ⟨j, hj, rfl⟩ := List.getElem_of_mem hy
      rw [List.getElem_ofFn]
      exact (hf _).2
theorem pair_mk {α β : Type} {a : Kd α} {b : Kd β} {x : α} {y : β} {cs : List Value} (s : Nat) (h0 : a.K W x (cs.take s)) (h1 : b.K W y (cs.drop s)) : (Kd.pair a b).K W (x, y) cs :=
  ⟨cs.take s, cs.drop s, (List.take_append_drop s cs).symm, h0, h1⟩
theorem field_at {α : Type} {d : Kd α} {Q : α → Prop} {fs : Array Field} {H : Type} {enc : TypeId × Value → H} {n : Nat} {cs : List Value} {xs : List (DataW H × List MemPlace)} (hl : xs.length = fs.size)
    (hf : ∀ (i : Nat) (f : Field), fs[i]? = some f → DataW.trod enc P W 0 (fun _ => true) true n f.type ((cs.drop f.offset).take (P.cellsOf f.type)) = xs[i]?)
    (i : Nat) {f : Field} (hi : fs[i]? = some f) {t off sz : Nat} (ht : f.type = t) (ho : f.offset = off) (hc : P.cellsOf t = sz) (hr : Reads P W d Q t) : ∃ y, d.K W y ((cs.drop off).take sz) ∧ Q y := by
  subst ht ho hc
  have h := hf i f hi
  have hlt : i < xs.length := by rw [hl]; exact (Array.getElem?_eq_some_iff.1 hi).1
  rw [List.getElem?_eq_getElem hlt] at h
  exact hr H enc n _ _ h
end
end Go.Proofs.Ytcgfpffgiimgmaa.Read
end

section
set_option linter.unusedVariables false
namespace Go.Proofs.Ytcgfpffgiimgmaa.Q
open Go.RowKit Go.Proofs.YtcgfpffgiimgmaaW.PrintWords Go.Proofs.Ytcgfpffgiimgmaa.Read
def q36 (x : S36) : Prop := True ∧ (Lit.int .u64 x.f1).wf = true ∧ (Lit.int .u64 x.f2).wf = true
theorem reads_k36 (W : World) : Reads Try.prog W k36 q36 36 := by
  intro H enc fuel cs x h
  obtain ⟨xs, n, rfl, _, hcl, hxl, hf⟩ := DataW.trod_struct Try.underlying36 h
  have hc : cs.length = 3 := hcl.trans (by kernel_rfl)
  obtain ⟨y0, h0, g0⟩ := field_at hxl hf 0 rfl (t := 4) (off := 0) (sz := 1) rfl rfl (by kernel_rfl) (reads_bool Try.underlying4)
  obtain ⟨y1, h1, g1⟩ := field_at hxl hf 1 rfl (t := 34) (off := 1) (sz := 1) rfl rfl (by kernel_rfl) (reads_int Try.underlying34)
  obtain ⟨y2, h2, g2⟩ := field_at hxl hf 2 rfl (t := 34) (off := 2) (sz := 1) rfl rfl (by kernel_rfl) (reads_int Try.underlying34)
  refine ⟨⟨y0, y1, y2⟩, ?_, ⟨g0, g1, g2⟩⟩
  rw [show (cs.drop 0).take 1 = (cs.drop 0).take 1 from rfl] at h0
  rw [show (cs.drop 1).take 1 = (cs.drop 1).take 1 from rfl] at h1
  rw [show (cs.drop 2).take 1 = (cs.drop 2) from List.take_of_length_le (by rw [List.length_drop, hc]; decide)] at h2
  skip
  simp only [show 2 = 1 + 1 from rfl, ← List.drop_drop] at h2
  have e0 : cs.drop 0 = cs := rfl
  rw [e0] at h0
  exact pair_mk (a := Kd.bool) 1 h0 (pair_mk (a := (Kd.int .u64)) 1 h1 (h2))
def q66 (x : S66) : Prop := q36 x.f0 ∧ q36 x.f1
theorem reads_k66 (W : World) : Reads Try.prog W k66 q66 66 := by
  intro H enc fuel cs x h
  obtain ⟨xs, n, rfl, _, hcl, hxl, hf⟩ := DataW.trod_struct Try.underlying66 h
  have hc : cs.length = 6 := hcl.trans (by kernel_rfl)
  obtain ⟨y0, h0, g0⟩ := field_at hxl hf 0 rfl (t := 36) (off := 0) (sz := 3) rfl rfl (by kernel_rfl) (reads_k36 W)
  obtain ⟨y1, h1, g1⟩ := field_at hxl hf 1 rfl (t := 36) (off := 3) (sz := 3) rfl rfl (by kernel_rfl) (reads_k36 W)
  refine ⟨⟨y0, y1⟩, ?_, ⟨g0, g1⟩⟩
  rw [show (cs.drop 0).take 3 = (cs.drop 0).take 3 from rfl] at h0
  rw [show (cs.drop 3).take 3 = (cs.drop 3) from List.take_of_length_le (by rw [List.length_drop, hc]; decide)] at h1
  skip
  have e0 : cs.drop 0 = cs := rfl
  rw [e0] at h0
  exact pair_mk (a := k36) 3 h0 (h1)
end Go.Proofs.Ytcgfpffgiimgmaa.Q
end

section
namespace Go.Proofs.Ytcgfpffgiimgmaa.Canon
abbrev Sp := Int × Int
def Mem (l : List Sp) (n : Int) : Prop := ∃ x, x ∈ l ∧ x.1 ≤ n ∧ n ≤ x.2
def CanFrom : Int → List Sp → Prop
  | _, [] => True
  | lo, x :: t => lo ≤ x.1 ∧ x.1 ≤ x.2 ∧ CanFrom (x.2 + 2) t
theorem mem_nil (n : Int) : Mem [] n ↔ False := by simp [Mem]
theorem mem_cons (x : Sp) (t : List Sp) (n : Int) : Mem (x :: t) n ↔ (x.1 ≤ n ∧ n ≤ x.2) ∨ Mem t n := by
  simp only [Mem, List.mem_cons]
  constructor
  · rintro ⟨y, rfl | hy, h⟩
    · exact .inl h
    · exact .inr ⟨y, hy, h⟩
  · rintro (h | ⟨y, hy, h⟩)
    · exact ⟨x, .inl rfl, h⟩
    · exact ⟨y, .inr hy, h⟩
theorem mem_append (a b : List Sp) (n : Int) : Mem (a ++ b) n ↔ Mem a n ∨ Mem b n := by
  induction a with
  | nil => simp [mem_nil]
  | cons x t ih => simp only [List.cons_append, mem_cons, ih]; exact or_assoc.symm
theorem CanFrom.mono {lo lo' : Int} {l : List Sp} (h : lo' ≤ lo) (c : CanFrom lo l) : CanFrom lo' l := by
  cases l with
  | nil => trivial
  | cons x t => exact ⟨Int.le_trans h c.1, c.2⟩
theorem CanFrom.ge : ∀ {l : List Sp} {lo n : Int}, CanFrom lo l → Mem l n → lo ≤ n
  | [], _, _, _, h => ((mem_nil _).1 h).elim
  | x :: t, lo, n, c, h => by
    rcases (mem_cons x t n).1 h with h | h
    · have := c.1; omega
    · have := CanFrom.ge c.2.2 h; have := c.1; have := c.2.1; omega
theorem uniq : ∀ (a b : List Sp) (lo : Int), CanFrom lo a → CanFrom lo b → (∀ n, Mem a n ↔ Mem b n) → a = b
  | [], [], _, _, _, _ => rfl
  | [], y :: t, _, _, cb, h => by
    have := (h y.1).2 ((mem_cons y t _).2 (.inl ⟨Int.le_refl _, cb.2.1⟩))
    exact ((mem_nil _).1 this).elim
  | x :: s, [], _, ca, _, h => by
    have := (h x.1).1 ((mem_cons x s _).2 (.inl ⟨Int.le_refl _, ca.2.1⟩))
    exact ((mem_nil _).1 this).elim
  | x :: s, y :: t, lo, ca, cb, h => by
    have hx : ∀ n, Mem (x :: s) n → x.1 ≤ n := fun n hn => CanFrom.ge (lo := x.1) (l := x :: s) ⟨Int.le_refl _, ca.2⟩ hn
    have hy : ∀ n, Mem (y :: t) n → y.1 ≤ n := fun n hn => CanFrom.ge (lo := y.1) (l := y :: t) ⟨Int.le_refl _, cb.2⟩ hn
    have e1 : x.1 = y.1 := by
      have a1 := hy _ ((h x.1).1 ((mem_cons x s _).2 (.inl ⟨Int.le_refl _, ca.2.1⟩)))
      have a2 := hx _ ((h y.1).2 ((mem_cons y t _).2 (.inl ⟨Int.le_refl _, cb.2.1⟩)))
      omega
    have e2 : x.2 = y.2 := by
      have k1 : ¬ x.2 < y.2 := fun hlt => by
        have := (h (x.2 + 1)).2 ((mem_cons y t _).2 (.inl ⟨by have := ca.2.1; omega, by omega⟩))
        rcases (mem_cons x s _).1 this with m | m
        · omega
        · have := ca.2.2.ge m; omega
      have k2 : ¬ y.2 < x.2 := fun hlt => by
        have := (h (y.2 + 1)).1 ((mem_cons x s _).2 (.inl ⟨by have := cb.2.1; omega, by omega⟩))
        rcases (mem_cons y t _).1 this with m | m
        · omega
        · have := cb.2.2.ge m; omega
      omega
    have e : x = y := Prod.ext e1 e2
    subst e
    rw [uniq s t (x.2 + 2) ca.2.2 cb.2.2 (fun n => by
      constructor
      · intro hn
        have g := ca.2.2.ge hn
        rcases (mem_cons x t _).1 ((h n).1 ((mem_cons x s _).2 (.inr hn))) with m | m
        · omega
        · exact m
      · intro hn
        have g := cb.2.2.ge hn
        rcases (mem_cons x s _).1 ((h n).2 ((mem_cons x t _).2 (.inr hn))) with m | m
        · omega
        · exact m)]
def ins (x : Sp) : List Sp → List Sp
  | [] => [x]
  | y :: t => if x.2 + 1 < y.1 then x :: y :: t else if y.2 + 1 < x.1 then y :: ins x t else ins (min x.1 y.1, max x.2 y.2) t
theorem ins_can : ∀ (l : List Sp) (x : Sp) (lo : Int), CanFrom lo l → lo ≤ x.1 → x.1 ≤ x.2 → CanFrom lo (ins x l)
  | [], x, lo, _, h1, h2 => ⟨h1, h2, trivial⟩
  | y :: t, x, lo, c, h1, h2 => by
    obtain ⟨c1, c2, c3⟩ := c
    unfold ins
    split
    · exact ⟨h1, h2, by omega, c2, c3⟩
    · split
      · exact ⟨c1, c2, ins_can t x _ c3 (by omega) h2⟩
      · refine ins_can t _ lo (c3.mono (by omega)) ?_ ?_
        · show lo ≤ min x.1 y.1; omega
        · show min x.1 y.1 ≤ max x.2 y.2; omega
theorem ins_mem : ∀ (l : List Sp) (x : Sp) (lo n : Int), CanFrom lo l → x.1 ≤ x.2 → (Mem (ins x l) n ↔ (x.1 ≤ n ∧ n ≤ x.2) ∨ Mem l n)
  | [], x, lo, n, _, _ => by simp [ins, mem_cons]
  | y :: t, x, lo, n, c, h2 => by
    obtain ⟨c1, c2, c3⟩ := c
    unfold ins
    split
    · rw [mem_cons]
    · split
      · rw [mem_cons, ins_mem t x _ n c3 h2, mem_cons]
        constructor
        · rintro (h | h | h)
          · exact .inr (.inl h)
          · exact .inl h
          · exact .inr (.inr h)
        · rintro (h | h | h)
          · exact .inr (.inl h)
          · exact .inl h
          · exact .inr (.inr h)
      · rw [ins_mem t _ _ n c3 (by show min x.1 y.1 ≤ max x.2 y.2; omega), mem_cons, ← or_assoc]
        refine or_congr_left ?_
        show (min x.1 y.1 ≤ n ∧ n ≤ max x.2 y.2) ↔ _
        omega
theorem can_append : ∀ (a b : List Sp) (lo : Int), CanFrom lo (a ++ b) ↔ CanFrom lo a ∧ (∀ x ∈ a, ∀ y ∈ b, x.2 + 1 < y.1) ∧ (∃ lo', CanFrom lo' b) ∧ (∀ y ∈ b, lo ≤ y.1)
  | [], b, lo => by
    constructor
    · intro c
      refine ⟨trivial, by simp, ⟨lo, c⟩, fun y hy => ?_⟩
      have hm : Mem b y.1 → lo ≤ y.1 := c.ge
      refine hm ⟨y, hy, Int.le_refl _, ?_⟩
      have : ∀ (b : List Sp) (lo : Int), CanFrom lo b → ∀ y ∈ b, y.1 ≤ y.2 := by
        intro b
        induction b with
        | nil => simp
        | cons z t ih =>
          intro lo c y hy
          rcases List.mem_cons.1 hy with rfl | hy
          · exact c.2.1
          · exact ih _ c.2.2 y hy
      exact this b lo c y hy
    · rintro ⟨_, _, ⟨lo', c⟩, h⟩
      cases b with
      | nil => trivial
      | cons z t => exact ⟨h z (List.mem_cons_self ..), c.2⟩
  | x :: a, b, lo => by
    have ih := can_append a b (x.2 + 2)
    constructor
    · rintro ⟨c1, c2, c3⟩
      obtain ⟨i1, i2, i3, i4⟩ := ih.1 c3
      refine ⟨⟨c1, c2, i1⟩, fun z hz y hy => ?_, i3, fun y hy => ?_⟩
      · rcases List.mem_cons.1 hz with rfl | hz
        · have := i4 y hy; omega
        · exact i2 z hz y hy
      · have := i4 y hy; omega
    · rintro ⟨⟨c1, c2, c3⟩, h2, h3, h4⟩
      refine ⟨c1, c2, ih.2 ⟨c3, fun z hz => h2 z (List.mem_cons_of_mem _ hz), h3, fun y hy => ?_⟩⟩
      have := h2 x (List.mem_cons_self ..) y hy
      omega
end Go.Proofs.Ytcgfpffgiimgmaa.Canon
end

section
set_option linter.unusedVariables false
set_option linter.unusedSimpArgs false
namespace Go.Proofs.Ytcgfpffgiimgmaa.Q
open Go.RowKit Go.Proofs.YtcgfpffgiimgmaaW.PrintWords Go.Proofs.YtcgfpffgiimgmaaW.PrintLast Go.Proofs.YtcgfpffgiimgmaaW.PrintMore
def greaterA (a b : S36) : S36 := if 0 ≤ cmpA a b then a else b
def lessA (a b : S36) : S36 := if cmpA a b ≤ 0 then a else b
theorem greater_eq (a b : S36) : addrset_greater.f a.f0 a.f1 a.f2 b.f0 b.f1 b.f2 = some ((greaterA a b).f0, (greaterA a b).f1, (greaterA a b).f2) := by
  unfold addrset_greater.f address_Compare.f greaterA
  simp only [Option.bind_some, ge_iff_le]
  by_cases h : 0 ≤ cmpA a b
  · rw [if_pos h, if_pos h]
  · rw [if_neg h, if_neg h]
def bothR (r s : S66) : S66 := ⟨greaterA r.f0 s.f0, lessA r.f1 s.f1⟩
def interOne (r : S66) (xs : List S66) (s : S66) : List S66 := if r.f0.f0 = s.f0.f0 then addIf xs (bothR r s) else xs
def interRow (y : List S66) (xs : List S66) (r : S66) : List S66 := y.foldl (interOne r) xs
def addrset_Intersect.f (k : Nat) (l0 l1 : List S66) : Option (List S66) := (addrset_Normal.f k l1).bind fun y => (addrset_Normal.f k l0).bind fun x => if x.length * y.length < 2932031007402 then addrset_Normal.f k (x.foldl (interRow y) []) else none
theorem addrset_Intersect.mono : ∀ a0 a1 k, LeO (addrset_Intersect.f k a0 a1) (addrset_Intersect.f (k + 1) a0 a1) := by
  intro a0 a1 k
  unfold addrset_Intersect.f
  exact LeO.bind (addrset_Normal.mono _ _) (fun _ => LeO.bind (addrset_Normal.mono _ _) (fun _ => LeO.ite (addrset_Normal.mono _ _) (LeO.none _)))
structure InterAt (w W1 wr : World) (B : Nat) (v : Value) (xs : List S66) : Prop where
  cell : wr.heap[B]? = some (.cells #[v, .func (.func 71) #[] #[]] 69 (0, 0))
  row : Kd.R k66 66 wr w.heap.size (fun _ => True) v xs
  bel : Below w.heap.size w wr
  size : W1.heap.size ≤ wr.heap.size
  keep : ∀ q, q < W1.heap.size → q ≠ B → wr.heap[q]? = W1.heap[q]?
  own : ∀ q, v.ownBlock = some q → W1.heap.size ≤ q
end Go.Proofs.Ytcgfpffgiimgmaa.Q
end

section
set_option linter.unusedVariables false
set_option linter.unusedSimpArgs false
namespace Go.Proofs.Ytcgfpffgiimgmaa.Q
open Go.RowKit Go.Proofs.YtcgfpffgiimgmaaW.PrintWords Go.Proofs.YtcgfpffgiimgmaaW.PrintLast Go.Proofs.YtcgfpffgiimgmaaW.PrintMore
def address_Previous.f (a0_0 : Bool) (a0_1 : Int) (a0_2 : Int) : Option (Bool × Int × Int × Bool) := if (a0_1 == 0 && (a0_2 == 0)) = true then (some (false, 0, 0, false)) else some (a0_0, (if a0_2 = 0 then IntKind.u64.wrap (a0_1 - 1) else a0_1), IntKind.u64.wrap (a0_2 - 1), true)
end Go.Proofs.Ytcgfpffgiimgmaa.Q
end

section
set_option linter.unusedVariables false
set_option linter.unusedSimpArgs false
namespace Go.Proofs.Ytcgfpffgiimgmaa.Q
open Go.RowKit Go.Proofs.YtcgfpffgiimgmaaW.PrintWords Go.Proofs.YtcgfpffgiimgmaaW.PrintLast Go.Proofs.YtcgfpffgiimgmaaW.PrintMore Go.Proofs.Ytcgfpffgiimgmaa.Canon
abbrev Ad := S36
abbrev Rg := S66
abbrev Px := S45
def AW (a : Ad) : Prop := 0 ≤ a.f1 ∧ a.f1 < 18446744073709551616 ∧ 0 ≤ a.f2 ∧ a.f2 < 18446744073709551616
def av (a : Ad) : Int := (if a.f0 = true then 680564733841876926926749214863536422912 else 0) + a.f1 * 18446744073709551616 + a.f2
def AF (a : Ad) : Prop := AW a ∧ (a.f0 = true ∨ (a.f1 = 0 ∧ a.f2 ≤ 4294967295))
def RW (r : Rg) : Prop := AF r.f0 ∧ AF r.f1 ∧ r.f0.f0 = r.f1.f0 ∧ av r.f0 ≤ av r.f1
def RB (r : Rg) : Prop := AW r.f0 ∧ AW r.f1
theorem RW.b {r : Rg} (h : RW r) : RB r := ⟨h.1.1, h.2.1.1⟩
theorem wf_u64 {n : Int} (h : (Lit.int .u64 n).wf = true) : 0 ≤ n ∧ n < 18446744073709551616 := by
  simp only [Lit.wf, Bool.and_eq_true, decide_eq_true_eq] at h
  have e1 : IntKind.u64.min = 0 := by decide
  have e2 : IntKind.u64.max = 18446744073709551615 := by decide
  rw [e1, e2] at h
  omega
theorem aw_of {a : Ad} (h : q36 a) : AW a := by
  obtain ⟨_, h1, h2⟩ := h
  have := wf_u64 h1
  have := wf_u64 h2
  exact ⟨by omega, by omega, by omega, by omega⟩
theorem rb_of {r : Rg} (h : q66 r) : RB r := ⟨aw_of h.1, aw_of h.2⟩
theorem av_inj {a b : Ad} (ha : AW a) (hb : AW b) (h : av a = av b) : a = b := by
  obtain ⟨a0, a1, a2⟩ := a
  obtain ⟨b0, b1, b2⟩ := b
  unfold AW at ha hb
  unfold av at h
  cases a0 <;> cases b0 <;> simp at h ha hb ⊢ <;> omega
theorem av_eq {a b : Ad} (ha : AW a) (hb : AW b) : a = b ↔ av a = av b := ⟨fun h => by rw [h], av_inj ha hb⟩
theorem ltA_iff {a b : Ad} (ha : AW a) (hb : AW b) : ltA a b ↔ av a < av b := by
  obtain ⟨a0, a1, a2⟩ := a
  obtain ⟨b0, b1, b2⟩ := b
  unfold AW at ha hb
  unfold ltA av
  cases a0 <;> cases b0 <;> simp at ha hb ⊢ <;> omega
theorem cmpA_tri (a b : Ad) : cmpA a b = 0 ∨ cmpA a b = -1 ∨ cmpA a b = 1 := by
  unfold cmpA
  repeat' split
  all_goals simp
theorem cmpA_zero {a b : Ad} : cmpA a b = 0 ↔ a = b := by
  obtain ⟨a0, a1, a2⟩ := a
  obtain ⟨b0, b1, b2⟩ := b
  unfold cmpA
  simp only [Ad, S36.mk.injEq]
  by_cases h0 : a0 = b0
  · by_cases h1 : a1 = b1
    · by_cases h2 : a2 = b2
      · simp [h0, h1, h2]
      · simp only [h0, h1, h2, if_true, if_false]
        split <;> simp
    · simp only [h0, h1, if_true, if_false]
      split <;> simp
  · simp only [h0, if_false]
    split <;> simp
theorem cmp_lt' {a b : Ad} (ha : AW a) (hb : AW b) : cmpA a b < 0 ↔ av a < av b := (cmp_lt a b).trans (ltA_iff ha hb)
theorem cmp_le' {a b : Ad} (ha : AW a) (hb : AW b) : cmpA a b ≤ 0 ↔ av a ≤ av b := by
  have h1 := cmp_lt' ha hb
  have h2 := @cmpA_zero a b
  rw [av_eq ha hb] at h2
  rcases cmpA_tri a b with h | h | h <;> omega
theorem cmp_ge' {a b : Ad} (ha : AW a) (hb : AW b) : 0 ≤ cmpA a b ↔ av b ≤ av a := by
  have h1 := cmp_lt' ha hb
  omega
theorem fine_iff {a : Ad} (ha : AW a) : fineB a = true ↔ AF a := by
  unfold fineB AF
  simp only [Bool.or_eq_true, Bool.and_eq_true, decide_eq_true_eq]
  exact ⟨fun h => ⟨ha, h⟩, fun h => h.2⟩
theorem some_iff {r : Rg} (h : RB r) : someB r = true ↔ RW r := by
  unfold someB RW
  simp only [Bool.and_eq_true, fine_iff h.1, fine_iff h.2, beq_iff_eq, decide_eq_true_eq, cmp_le' h.1 h.2]
theorem AF.num {a : Ad} (h : AF a) : (a.f0 = false ∧ 0 ≤ av a ∧ av a ≤ 4294967295) ∨ (a.f0 = true ∧ 680564733841876926926749214863536422912 ≤ av a ∧ av a < 1020847100762815390390123822295304634368) := by
  obtain ⟨⟨h1, h2, h3, h4⟩, h5⟩ := h
  obtain ⟨a0, a1, a2⟩ := a
  unfold av
  cases a0 <;> simp at h1 h2 h3 h4 h5 ⊢ <;> omega
theorem RW.num {r : Rg} (h : RW r) : 0 ≤ av r.f0 ∧ av r.f0 ≤ av r.f1 ∧ ((r.f0.f0 = false ∧ r.f1.f0 = false ∧ av r.f1 ≤ 4294967295) ∨ (r.f0.f0 = true ∧ r.f1.f0 = true ∧ 680564733841876926926749214863536422912 ≤ av r.f0 ∧ av r.f1 < 1020847100762815390390123822295304634368)) := by
  obtain ⟨h1, h2, h3, h4⟩ := h
  rcases h1.num with n1 | n1 <;> rcases h2.num with n2 | n2
  · exact ⟨n1.2.1, h4, .inl ⟨n1.1, n2.1, n2.2.2⟩⟩
  · rw [n1.1, n2.1] at h3; cases h3
  · rw [n1.1, n2.1] at h3; cases h3
  · exact ⟨by omega, h4, .inr ⟨n1.1, n2.1, n1.2.1, n2.2.2⟩⟩
theorem before_eq (a b : Ad) (ha : AW a) (hb : AW b) : intrusionref07_Before.f a.f0 a.f1 a.f2 b.f0 b.f1 b.f2 = some (decide (av a < av b)) := by
  obtain ⟨a0, a1, a2⟩ := a
  obtain ⟨b0, b1, b2⟩ := b
  unfold AW at ha hb
  unfold intrusionref07_Before.f av
  cases a0 <;> cases b0 <;> simp at ha hb ⊢
  · by_cases h : a1 = b1
    · simp [h]
    · simp only [h, if_false, Option.some.injEq, decide_eq_decide]; omega
  · omega
  · omega
  · by_cases h : a1 = b1
    · simp [h]
    · simp only [h, if_false, Option.some.injEq, decide_eq_decide]; omega
theorem rfine_eq (a : Ad) (ha : AW a) : intrusionref07_Fine.f a.f0 a.f1 a.f2 = some (fineB a) := by
  unfold intrusionref07_Fine.f fineB
  cases a.f0
  · by_cases h : a.f1 = 0
    · simp [h]; omega
    · simp [h]
  · simp
theorem rsome_eq (r : Rg) (h : RB r) : intrusionref07_Some.f r.f0.f0 r.f0.f1 r.f0.f2 r.f1.f0 r.f1.f1 r.f1.f2 = some (someB r) := by
  unfold intrusionref07_Some.f someB
  rw [rfine_eq r.f0 h.1, rfine_eq r.f1 h.2]
  simp only [Option.bind_some]
  rw [before_eq r.f1 r.f0 h.2 h.1]
  have e : decide (cmpA r.f0 r.f1 ≤ 0) = !decide (av r.f1 < av r.f0) := by
    rw [Bool.eq_iff_iff, decide_eq_true_eq, cmp_le' h.1 h.2]
    simp
  rw [e]
  cases fineB r.f0 <;> cases fineB r.f1 <;> cases (r.f0.f0 == r.f1.f0) <;> simp
theorem cmp_f (a b : Ad) : address_Compare.f a.f0 a.f1 a.f2 b.f0 b.f1 b.f2 = some (cmpA a b) := rfl
theorem u64_id {n : Int} (h0 : 0 ≤ n) (h1 : n < 18446744073709551616) : IntKind.u64.wrap n = n := IntWalk.u64_in n ⟨h0, by omega⟩
instance decAd : DecidableEq Ad := fun a b => decidable_of_iff (a.f0 = b.f0 ∧ a.f1 = b.f1 ∧ a.f2 = b.f2) ⟨fun h => by cases a; cases b; simp at h; simp [h], fun h => by rw [h]; exact ⟨rfl, rfl, rfl⟩⟩
theorem u64_top : IntKind.u64.wrap 18446744073709551616 = 0 := by decide
def nextA (a : Ad) : Ad := ⟨a.f0, if IntKind.u64.wrap (a.f2 + 1) = 0 then IntKind.u64.wrap (a.f1 + 1) else a.f1, IntKind.u64.wrap (a.f2 + 1)⟩
def topA (f : Bool) : Ad := if f then ⟨true, 18446744073709551615, 18446744073709551615⟩ else ⟨false, 0, 4294967295⟩
theorem topA_AF (f : Bool) : AF (topA f) := by
  cases f
  · refine ⟨⟨?_, ?_, ?_, ?_⟩, .inr ⟨?_, ?_⟩⟩ <;> simp [topA]
  · refine ⟨⟨?_, ?_, ?_, ?_⟩, .inl ?_⟩ <;> simp [topA]
theorem topA_max {a : Ad} (h : AF a) : av a ≤ av (topA a.f0) := by
  rcases h.num with ⟨e, _, h2⟩ | ⟨e, _, h2⟩
  · rw [e]; exact h2
  · rw [e]; show av a ≤ _; unfold topA av at *; simp at *; omega
theorem nextA_spec {a : Ad} (h : AF a) (hn : a ≠ topA a.f0) : AF (nextA a) ∧ (nextA a).f0 = a.f0 ∧ av (nextA a) = av a + 1 := by
  have hlt : av a < av (topA a.f0) := by
    have h1 := topA_max h
    have h2 : av a ≠ av (topA a.f0) := fun e => hn (av_inj h.1 (topA_AF _).1 e)
    omega
  obtain ⟨⟨h1, h2, h3, h4⟩, h5⟩ := h
  obtain ⟨a0, a1, a2⟩ := a
  simp only at h1 h2 h3 h4 h5
  by_cases c : a2 + 1 = 18446744073709551616
  · have e1 : IntKind.u64.wrap (a2 + 1) = 0 := by rw [c]; exact u64_top
    cases a0
    · simp at h5; omega
    · have h6 : a1 + 1 < 18446744073709551616 := by unfold topA av at hlt; simp at hlt; omega
      have e2 := u64_id (n := a1 + 1) (by omega) h6
      unfold nextA
      simp only [e1, e2, if_true]
      refine ⟨⟨⟨by simp; omega, by simp; omega, by simp, by simp⟩, .inl rfl⟩, by simp, ?_⟩
      unfold av; simp; omega
  · have e1 := u64_id (n := a2 + 1) (by omega) (by omega)
    unfold nextA
    have e3 : ¬ (a2 + 1 = 0) := by omega
    simp only [e1, e3, if_false]
    refine ⟨⟨⟨h1, h2, by simp; omega, by simp; omega⟩, ?_⟩, by simp, by unfold av; simp; omega⟩
    cases a0
    · simp at h5
      refine .inr ⟨h5.1, ?_⟩
      unfold topA av at hlt; simp at hlt ⊢; omega
    · exact .inl rfl
theorem after_eq (a : Ad) : intrusionref07_After.f a.f0 a.f1 a.f2 = some ((nextA a).f0, (nextA a).f1, (nextA a).f2) := rfl
theorem last_eq (a : Ad) (h : AF a) : intrusionref07_Last.f a.f0 a.f1 a.f2 = some (decide (a = topA a.f0)) := by
  obtain ⟨⟨h1, h2, h3, h4⟩, h5⟩ := h
  obtain ⟨a0, a1, a2⟩ := a
  simp only at h1 h2 h3 h4 h5
  unfold intrusionref07_Last.f topA
  cases a0
  · simp at h5 ⊢
    rw [Bool.eq_iff_iff]
    simp [h5.1]
  · have w : ∀ n : Int, 0 ≤ n → n < 18446744073709551616 → (IntKind.u64.wrap (n + 1) = 0 ↔ n = 18446744073709551615) := by
      intro n g0 g1
      constructor
      · intro e
        by_cases c : n + 1 = 18446744073709551616
        · omega
        · rw [u64_id (by omega) (by omega)] at e; omega
      · intro e; subst e; exact u64_top
    simp only [if_true, w a1 h1 h2]
    by_cases c : a1 = 18446744073709551615
    · simp only [c, if_true, Option.some.injEq]
      rw [Bool.eq_iff_iff, beq_iff_eq, w a2 h3 h4]
      simp
    · simp [c]
theorem next_eq (a : Ad) (h : AF a) : address_Next.f a.f0 a.f1 a.f2 = some (if a = topA a.f0 then (false, 0, 0, false) else ((nextA a).f0, (nextA a).f1, (nextA a).f2, true)) := by
  obtain ⟨a0, a1, a2⟩ := a
  have e : address_last.f a0 = some ((topA a0).f0, (topA a0).f1, (topA a0).f2) := by cases a0 <;> rfl
  unfold address_Next.f
  rw [e]
  simp only [Option.bind_some]
  have e2 : (a0 == (topA a0).f0 && (a1 == (topA a0).f1 && (a2 == (topA a0).f2))) = decide ((⟨a0, a1, a2⟩ : Ad) = topA a0) := by
    rw [Bool.eq_iff_iff]
    simp only [Bool.and_eq_true, beq_iff_eq, decide_eq_true_eq]
    constructor
    · rintro ⟨h1, h2, h3⟩
      cases a0 <;> simp [topA] at * <;> simp [h2, h3]
    · intro h
      rw [← h]
      exact ⟨rfl, rfl, rfl⟩
  rw [e2]
  by_cases c : (⟨a0, a1, a2⟩ : Ad) = topA a0
  · rw [if_pos (decide_eq_true c), if_pos c]
  · rw [if_neg (by simpa using c), if_neg c]
    unfold nextA
    by_cases d : IntKind.u64.wrap (a2 + 1) = 0
    · simp [d]
    · simp [d]
def nearP (a b : Rg) : Prop := a.f0.f0 = b.f0.f0 ∧ av b.f0 ≤ av a.f1 + 1
instance (a b : Rg) : Decidable (nearP a b) := by unfold nearP; infer_instance
theorem nearP_iff {a b : Rg} (ha : RW a) (hb : RW b) (h : av a.f0 ≤ av b.f0) : nearP a b ↔ av b.f0 ≤ av a.f1 + 1 := by
  unfold nearP
  refine ⟨fun h => h.2, fun h2 => ⟨?_, h2⟩⟩
  rcases ha.num with ⟨_, _, n1 | n1⟩ <;> rcases hb.num with ⟨_, _, n2 | n2⟩
  · rw [n1.1, n2.1]
  · omega
  · omega
  · rw [n1.1, n2.1]
theorem near_eq (a b : Rg) (ha : RW a) (hb : RW b) : addrset_near.f a.f0.f0 a.f0.f1 a.f0.f2 a.f1.f0 a.f1.f1 a.f1.f2 b.f0.f0 b.f0.f1 b.f0.f2 b.f1.f0 b.f1.f1 b.f1.f2 = some (decide (nearP a b)) := by
  unfold addrset_near.f nearP
  rw [next_eq a.f1 ha.2.1]
  by_cases c : a.f1.f0 = b.f0.f0
  · have c2 : a.f0.f0 = b.f0.f0 := ha.2.2.1.trans c
    simp only [c, bne_self_eq_false, Bool.false_eq_true, if_false, Option.bind_some, c2, true_and]
    by_cases d : a.f1 = topA a.f1.f0
    · have h1 := topA_max hb.1
      rw [← c, ← d] at h1
      have h3 : av b.f0 ≤ av a.f1 + 1 := by omega
      rw [← c, if_pos d]
      simp [h3]
    · obtain ⟨n1, n2, n3⟩ := nextA_spec ha.2.1 d
      rw [← c, if_neg d]
      simp only [if_true]
      rw [n2]
      simp only [bne_self_eq_false, Bool.false_eq_true, if_false]
      have e : address_Compare.f a.f1.f0 b.f0.f1 b.f0.f2 a.f1.f0 (nextA a.f1).f1 (nextA a.f1).f2 = some (cmpA b.f0 (nextA a.f1)) := by
        have := cmp_f b.f0 (nextA a.f1)
        rw [n2, ← c] at this
        exact this
      rw [e]
      simp only [Option.bind_some, Option.some.injEq, decide_eq_decide]
      rw [cmp_le' hb.1.1 n1.1, n3]
  · have c2 : ¬ a.f0.f0 = b.f0.f0 := fun e => c (ha.2.2.1.symm.trans e)
    simp [c, c2]
theorem joined_eq (a b : Rg) (ha : RW a) (hb : RW b) : intrusionref07_joined.f a.f0.f0 a.f0.f1 a.f0.f2 a.f1.f0 a.f1.f1 a.f1.f2 b.f0.f0 b.f0.f1 b.f0.f2 b.f1.f0 b.f1.f1 b.f1.f2 = some (decide (nearP a b)) := by
  unfold intrusionref07_joined.f nearP
  rw [before_eq a.f1 b.f0 ha.2.1.1 hb.1.1, last_eq a.f1 ha.2.1, after_eq a.f1]
  by_cases c : a.f0.f0 = b.f0.f0
  · have c2 : a.f1.f0 = b.f0.f0 := ha.2.2.1.symm.trans c
    simp only [c, bne_self_eq_false, Bool.false_eq_true, if_false, Option.bind_some, true_and]
    by_cases e : av a.f1 < av b.f0
    · simp only [e, decide_true, if_true]
      by_cases d : a.f1 = topA a.f1.f0
      · exfalso
        have h1 := topA_max hb.1
        rw [← c2, ← d] at h1
        omega
      · obtain ⟨n1, n2, n3⟩ := nextA_spec ha.2.1 d
        simp only [d, decide_false, Bool.false_eq_true, if_false, Option.some.injEq]
        rw [Bool.eq_iff_iff]
        simp only [Bool.and_eq_true, beq_iff_eq, decide_eq_true_eq]
        have h2 := av_eq n1.1 hb.1.1
        constructor
        · rintro ⟨g1, g2, g3⟩
          have : nextA a.f1 = b.f0 := by
            cases h : nextA a.f1
            cases h' : b.f0
            rw [h, h'] at g1 g2 g3
            simp only at g1 g2 g3
            rw [g1, g2, g3]
          have := h2.1 this
          omega
        · intro g
          have := h2.2 (by omega)
          rw [this]
          exact ⟨rfl, rfl, rfl⟩
    · simp only [e, decide_false, Bool.false_eq_true, if_false, Option.some.injEq]
      rw [eq_comm, decide_eq_true_eq]
      omega
  · simp [c]
end Go.Proofs.Ytcgfpffgiimgmaa.Q
end

section
set_option linter.unusedVariables false
set_option linter.unusedSimpArgs false
namespace Go.Proofs.Ytcgfpffgiimgmaa.Q
open Go.RowKit Go.Proofs.YtcgfpffgiimgmaaW.PrintWords Go.Proofs.YtcgfpffgiimgmaaW.PrintLast Go.Proofs.YtcgfpffgiimgmaaW.PrintMore Go.Proofs.Ytcgfpffgiimgmaa.Canon
theorem wid {x : Int} (h0 : -9223372036854775808 ≤ x) (h1 : x ≤ 9223372036854775807) : wrap64 x = x := by unfold wrap64; omega
theorem wsucc (i : Nat) (h : i < 9223372036854775807) : wrap64 ((i : Int) + 1) = ((i + 1 : Nat) : Int) := by rw [wid (by omega) (by omega)]; simp
theorem wpred (i : Nat) (h0 : 0 < i) (h : i < 9223372036854775807) : wrap64 ((i : Int) - 1) = ((i - 1 : Nat) : Int) := by rw [wid (by omega) (by omega)]; omega
theorem dropc {α : Type} (l : List α) (i : Nat) (h : i < l.length) : l.drop i = l[i] :: l.drop (i + 1) := List.drop_eq_getElem_cons h
def rsp (r : Rg) : Sp := (av r.f0, av r.f1)
def ASM (l : List Rg) (n : Int) : Prop := ∃ x ∈ l, RW x ∧ av x.f0 ≤ n ∧ n ≤ av x.f1
theorem asm_nil (n : Int) : ASM [] n ↔ False := by simp [ASM]
theorem asm_cons (x : Rg) (t : List Rg) (n : Int) : ASM (x :: t) n ↔ (RW x ∧ av x.f0 ≤ n ∧ n ≤ av x.f1) ∨ ASM t n := by
  unfold ASM
  simp only [List.mem_cons]
  constructor
  · rintro ⟨y, rfl | hy, h⟩
    · exact .inl h
    · exact .inr ⟨y, hy, h⟩
  · rintro (h | ⟨y, hy, h⟩)
    · exact ⟨x, .inl rfl, h⟩
    · exact ⟨y, .inr hy, h⟩
theorem asm_append (a b : List Rg) (n : Int) : ASM (a ++ b) n ↔ ASM a n ∨ ASM b n := by
  unfold ASM
  simp only [List.mem_append]
  constructor
  · rintro ⟨y, hy | hy, h⟩
    · exact .inl ⟨y, hy, h⟩
    · exact .inr ⟨y, hy, h⟩
  · rintro (⟨y, hy, h⟩ | ⟨y, hy, h⟩)
    · exact ⟨y, .inl hy, h⟩
    · exact ⟨y, .inr hy, h⟩
theorem asm_perm {a b : List Rg} (h : a.Perm b) (n : Int) : ASM a n ↔ ASM b n := by
  unfold ASM
  constructor
  · rintro ⟨x, hx, g⟩; exact ⟨x, h.mem_iff.1 hx, g⟩
  · rintro ⟨x, hx, g⟩; exact ⟨x, h.mem_iff.2 hx, g⟩
theorem asm_filter (l : List Rg) (hl : ∀ x ∈ l, RB x) (n : Int) : ASM (l.filter someB) n ↔ ASM l n := by
  unfold ASM
  constructor
  · rintro ⟨x, hx, g⟩; exact ⟨x, (List.mem_filter.1 hx).1, g⟩
  · rintro ⟨x, hx, g⟩; exact ⟨x, List.mem_filter.2 ⟨hx, (some_iff (hl x hx)).2 g.1⟩, g⟩
theorem asm_mem {l : List Rg} (hl : ∀ x ∈ l, RW x) (n : Int) : ASM l n ↔ Mem (l.map rsp) n := by
  unfold ASM Mem
  constructor
  · rintro ⟨x, hx, _, h⟩; exact ⟨rsp x, List.mem_map.2 ⟨x, hx, rfl⟩, h⟩
  · rintro ⟨y, hy, h⟩
    obtain ⟨x, hx, rfl⟩ := List.mem_map.1 hy
    exact ⟨x, hx, hl x hx, h⟩
def ACan (P : Int → Prop) (r : List Rg) : Prop := CanFrom 0 (r.map rsp) ∧ (∀ x ∈ r, RW x) ∧ ∀ n, ASM r n ↔ P n
theorem rsp_inj {x y : Rg} (hx : RW x) (hy : RW y) (h : rsp x = rsp y) : x = y := by
  unfold rsp at h
  injection h with h1 h2
  have e1 := av_inj hx.1.1 hy.1.1 h1
  have e2 := av_inj hx.2.1.1 hy.2.1.1 h2
  cases x; cases y
  simp only at e1 e2
  rw [e1, e2]
theorem map_rsp_inj : ∀ {a b : List Rg}, (∀ x ∈ a, RW x) → (∀ x ∈ b, RW x) → a.map rsp = b.map rsp → a = b
  | [], [], _, _, _ => rfl
  | [], y :: t, _, _, h => by simp at h
  | x :: s, [], _, _, h => by simp at h
  | x :: s, y :: t, ha, hb, h => by
    simp only [List.map_cons, List.cons.injEq] at h
    rw [rsp_inj (ha x (List.mem_cons_self ..)) (hb y (List.mem_cons_self ..)) h.1, map_rsp_inj (fun z hz => ha z (List.mem_cons_of_mem _ hz)) (fun z hz => hb z (List.mem_cons_of_mem _ hz)) h.2]
theorem ACan.uniq {P : Int → Prop} {a b : List Rg} (ha : ACan P a) (hb : ACan P b) : a = b :=
  map_rsp_inj ha.2.1 hb.2.1 (Canon.uniq _ _ 0 ha.1 hb.1 (fun n => by rw [← asm_mem ha.2.1, ← asm_mem hb.2.1, ha.2.2, hb.2.2]))
theorem ACan.congr {P Q : Int → Prop} {r : List Rg} (h : ACan P r) (e : ∀ n, P n ↔ Q n) : ACan Q r := ⟨h.1, h.2.1, fun n => (h.2.2 n).trans (e n)⟩
theorem ACan.self {r : List Rg} (h1 : CanFrom 0 (r.map rsp)) (h2 : ∀ x ∈ r, RW x) : ACan (ASM r) r := ⟨h1, h2, fun _ => Iff.rfl⟩
theorem ACan.nil {P : Int → Prop} (h : ∀ n, ¬ P n) : ACan P [] := ⟨trivial, by simp, fun n => by rw [asm_nil]; exact ⟨False.elim, h n⟩⟩
theorem greaterA_spec {a b : Ad} (ha : AW a) (hb : AW b) : (greaterA a b = a ∨ greaterA a b = b) ∧ av a ≤ av (greaterA a b) ∧ av b ≤ av (greaterA a b) := by
  unfold greaterA
  have := cmp_ge' ha hb
  split
  · rename_i h
    exact ⟨.inl rfl, by omega, by omega⟩
  · rename_i h
    exact ⟨.inr rfl, by omega, by omega⟩
def mrgR (out : List Rg) (x : Rg) : List Rg :=
  if h : 0 < out.length then (if nearP (out[out.length - 1]'(by omega)) x then out.set (out.length - 1) ⟨(out[out.length - 1]'(by omega)).f0, greaterA (out[out.length - 1]'(by omega)).f1 x.f1⟩ else out ++ [x]) else out ++ [x]
theorem mrgR_nil (x : Rg) : mrgR [] x = [x] := by simp [mrgR]
theorem mrgR_snoc (i : List Rg) (y x : Rg) : mrgR (i ++ [y]) x = if nearP y x then i ++ [(⟨y.f0, greaterA y.f1 x.f1⟩ : Rg)] else i ++ [y] ++ [x] := by
  have hl : (i ++ [y]).length - 1 = i.length := by simp
  have hg : (i ++ [y])[(i ++ [y]).length - 1]'(by simp) = y := by simp
  unfold mrgR
  rw [dif_pos (by simp)]
  rw [hg, hl]
  split
  · simp
  · rfl
theorem mrgR_len (out : List Rg) (x : Rg) : out.length ≤ (mrgR out x).length ∧ (mrgR out x).length ≤ out.length + 1 := by
  unfold mrgR
  split
  · split <;> simp
  · simp
theorem foldR_len : ∀ (L out : List Rg), (L.foldl mrgR out).length ≤ out.length + L.length
  | [], out => by simp
  | x :: t, out => by
    have h1 := foldR_len t (mrgR out x)
    have h2 := (mrgR_len out x).2
    simp only [List.foldl_cons, List.length_cons]
    omega
theorem joinRW {y x : Rg} (hy : RW y) (hx : RW x) (hn : nearP y x) : RW ⟨y.f0, greaterA y.f1 x.f1⟩ := by
  obtain ⟨g1, g2, g3⟩ := greaterA_spec hy.2.1.1 hx.2.1.1
  refine ⟨hy.1, ?_, ?_, Int.le_trans hy.2.2.2 g2⟩
  · rcases g1 with e | e
    · show AF (greaterA y.f1 x.f1); rw [e]; exact hy.2.1
    · show AF (greaterA y.f1 x.f1); rw [e]; exact hx.2.1
  · show y.f0.f0 = (greaterA y.f1 x.f1).f0
    rcases g1 with e | e
    · rw [e]; exact hy.2.2.1
    · rw [e]; exact hn.1.trans hx.2.2.1
theorem mrgR_RW {out : List Rg} {x : Rg} (ho : ∀ z ∈ out, RW z) (hx : RW x) : ∀ z ∈ mrgR out x, RW z := by
  rcases List.eq_nil_or_concat out with rfl | ⟨j, y, rfl⟩
  · rw [mrgR_nil]; intro z h; rw [List.mem_singleton.1 h]; exact hx
  · have hy := ho y (by simp)
    rw [List.concat_eq_append, mrgR_snoc]
    split
    · rename_i hn
      intro z h
      rcases List.mem_append.1 h with h | h
      · exact ho z (by simp [h])
      · rw [List.mem_singleton.1 h]; exact joinRW hy hx hn
    · intro z h
      rcases List.mem_append.1 h with h | h
      · exact ho z (by rw [List.concat_eq_append]; exact h)
      · rw [List.mem_singleton.1 h]; exact hx
theorem ev_aNormal0 (L : List Rg) (hl : L.length < 2932031007402) (hL : ∀ x ∈ L, RW x) : ∀ (d i : Nat) (out : List Rg), L.length - i = d → i ≤ L.length → out.length ≤ i → (∀ x ∈ out, RW x) → Ev (fun k => addrset_Normal.l0 k out L (L.length : Int) (i : Int)) ((L.drop i).foldl mrgR out) := by
  intro d
  induction d with
  | zero =>
    intro i out hd hi ho _
    have : i = L.length := by omega
    subst this
    refine Ev.step (f := fun _ => some out) (fun k => ?_) ?_
    · simp only [addrset_Normal.l0]; rw [if_neg (by omega)]
    · simpa using Ev.now out
  | succ d ih =>
    intro i out hd hi ho hw
    have hlt : i < L.length := by omega
    have hx := hL L[i] (List.getElem_mem hlt)
    rw [dropc L i hlt, List.foldl_cons]
    have h2 := ih (i + 1) (mrgR out L[i]) (by omega) (by omega) (by have := (mrgR_len out L[i]).2; omega) (mrgR_RW hw hx)
    refine Ev.step (fun k => ?_) h2
    simp only [addrset_Normal.l0]
    rw [if_pos (by omega), if_pos (by omega), if_pos (by omega), rd_getR L i hlt]
    by_cases h0 : 0 < out.length
    · have hy := hw (out[out.length - 1]'(by omega)) (List.getElem_mem _)
      rw [show wrap64 ((out.length : Int) - 1) = ((out.length - 1 : Nat) : Int) from wpred _ h0 (by omega), if_pos (by omega), if_pos (by omega), if_pos (by omega), rd_getR out (out.length - 1) (by omega), near_eq _ _ hy hx]
      simp only [Option.bind_some]
      unfold mrgR
      rw [dif_pos h0]
      by_cases hn : nearP (out[out.length - 1]'(by omega)) L[i]
      · rw [if_pos (decide_eq_true hn), if_pos hn, greater_eq, wsucc i (by omega)]
        rfl
      · rw [if_neg (by simpa using hn), if_neg hn, if_pos (by omega), wsucc i (by omega)]
    · have e : out = [] := List.eq_nil_of_length_eq_zero (by omega)
      subst e
      rw [if_neg (by simp [wrap64]), if_pos (by simp), wsucc i (by omega), mrgR_nil]
      rfl
theorem mrgR_spec : ∀ (L i : List Rg) (y : Rg), (∀ x ∈ L, RW x) → L.Pairwise (fun a b => av a.f0 ≤ av b.f0) → (∀ x ∈ L, av y.f0 ≤ av x.f0) → CanFrom 0 ((i ++ [y]).map rsp) → (∀ x ∈ i ++ [y], RW x) → ACan (fun n => ASM (i ++ [y]) n ∨ ASM L n) (L.foldl mrgR (i ++ [y]))
  | [], i, y, _, _, _, hc, hm => by
    refine ⟨hc, hm, fun n => ?_⟩
    simp [asm_nil]
  | x :: t, i, y, hL, hp, hy, hc, hm => by
    have hx := hL x (List.mem_cons_self ..)
    have hwy := hm y (by simp)
    have ht : ∀ z ∈ t, RW z := fun z hz => hL z (List.mem_cons_of_mem _ hz)
    obtain ⟨p1, p2⟩ := List.pairwise_cons.1 hp
    rw [List.foldl_cons, mrgR_snoc]
    have hxy := hy x (List.mem_cons_self ..)
    have hni := nearP_iff hwy hx hxy
    have hc0 := hc
    rw [List.map_append, can_append] at hc
    obtain ⟨c1, c2, _, c4⟩ := hc
    simp only [List.map_cons, List.map_nil, List.mem_singleton, forall_eq] at c2 c4
    have w1 : av y.f0 ≤ av y.f1 := hwy.2.2.2
    have x2 : av x.f0 ≤ av x.f1 := hx.2.2.2
    by_cases hj : nearP y x
    · rw [if_pos hj]
      have hj2 := hni.1 hj
      obtain ⟨g1, g2, g3⟩ := greaterA_spec hwy.2.1.1 hx.2.1.1
      have hjw := joinRW hwy hx hj
      have g4 : av (greaterA y.f1 x.f1) = av y.f1 ∨ av (greaterA y.f1 x.f1) = av x.f1 := by
        rcases g1 with e | e
        · exact .inl (by rw [e])
        · exact .inr (by rw [e])
      generalize greaterA y.f1 x.f1 = m at g2 g3 g4 hjw
      have h := mrgR_spec t i ⟨y.f0, m⟩ ht p2 (fun z hz => Int.le_trans hxy (p1 z hz)) (by
        rw [List.map_append, can_append]
        refine ⟨c1, ?_, ⟨av y.f0, by simp [rsp, CanFrom]; omega⟩, ?_⟩
        · intro z hz u hu
          simp only [List.map_cons, List.map_nil, List.mem_singleton] at hu
          subst hu
          exact c2 z hz
        · intro u hu
          simp only [List.map_cons, List.map_nil, List.mem_singleton] at hu
          subst hu
          exact c4) (by
        intro z hz
        rcases List.mem_append.1 hz with hz | hz
        · exact hm z (by simp [hz])
        · rw [List.mem_singleton.1 hz]; exact hjw)
      refine h.congr (fun n => ?_)
      rw [asm_append, asm_append, asm_cons, asm_cons, asm_cons, asm_nil]
      simp only [or_false]
      constructor
      · rintro ((h | ⟨_, h, h3⟩) | h)
        · exact .inl (.inl h)
        · by_cases hn : n ≤ av y.f1
          · exact .inl (.inr ⟨hwy, h, hn⟩)
          · have h3 : n ≤ av m := h3
            exact .inr (.inl ⟨hx, by omega, by omega⟩)
        · exact .inr (.inr h)
      · rintro ((h | ⟨_, h, h3⟩) | ⟨_, h, h3⟩ | h)
        · exact .inl (.inl h)
        · exact .inl (.inr ⟨hjw, h, show n ≤ av m from by omega⟩)
        · exact .inl (.inr ⟨hjw, show av y.f0 ≤ n from by omega, show n ≤ av m from by omega⟩)
        · exact .inr h
    · rw [if_neg hj]
      have hj2 : ¬ av x.f0 ≤ av y.f1 + 1 := fun e => hj (hni.2 e)
      have h := mrgR_spec t (i ++ [y]) x ht p2 p1 (by
        rw [List.map_append, can_append]
        refine ⟨hc0, ?_, ⟨av x.f0, by simp [rsp, CanFrom]; omega⟩, ?_⟩
        · intro z hz u hu
          simp only [List.map_cons, List.map_nil, List.mem_singleton] at hu
          subst hu
          rw [List.map_append] at hz
          rcases List.mem_append.1 hz with hz | hz
          · have := c2 z hz
            simp only [rsp] at this ⊢
            omega
          · simp only [List.map_cons, List.map_nil, List.mem_singleton] at hz
            subst hz
            simp only [rsp]
            omega
        · intro u hu
          simp only [List.map_cons, List.map_nil, List.mem_singleton] at hu
          subst hu
          have := hx.num.1
          simpa [rsp] using this) (by
        intro z hz
        rcases List.mem_append.1 hz with hz | hz
        · exact hm z hz
        · rw [List.mem_singleton.1 hz]; exact hx)
      refine h.congr (fun n => ?_)
      rw [asm_append (i ++ [y]) [x], asm_cons x t, asm_cons x [], asm_nil]
      simp only [or_false, or_assoc]
theorem mergeR_spec (L : List Rg) (hL : ∀ x ∈ L, RW x) (hp : L.Pairwise (fun a b => av a.f0 ≤ av b.f0)) : ACan (ASM L) (L.foldl mrgR []) := by
  cases L with
  | nil => exact ⟨trivial, by simp, fun n => Iff.rfl⟩
  | cons x t =>
    obtain ⟨p1, p2⟩ := List.pairwise_cons.1 hp
    have hx := hL x (List.mem_cons_self ..)
    have h := mrgR_spec t [] x (fun z hz => hL z (List.mem_cons_of_mem _ hz)) p2 p1 ⟨hx.num.1, hx.2.2.2, trivial⟩ (by simp; exact hx)
    rw [List.foldl_cons, mrgR_nil]
    refine h.congr (fun n => ?_)
    rw [List.nil_append, asm_cons, asm_cons, asm_nil, or_false]
theorem aNormal_spec (l : List Rg) (hl : l.length < 2932031007402) (hb : ∀ x ∈ l, RB x) : ∃ r, Ev (fun k => addrset_Normal.f k l) r ∧ ACan (ASM l) r ∧ r.length ≤ l.length := by
  obtain ⟨s1, s2, s3⟩ := sortRanges_spec (l.filter someB)
  have hw : ∀ x ∈ sortRanges (l.filter someB), RW x := fun x hx => by
    have h1 := List.mem_filter.1 (s2.mem_iff.1 hx)
    exact (some_iff (hb x h1.1)).1 h1.2
  have hlen := List.length_filter_le someB l
  refine ⟨(sortRanges (l.filter someB)).foldl mrgR [], ?_, ?_, ?_⟩
  · unfold addrset_Normal.f addrset_kept.f
    rw [if_pos hl]
    have h := ev_aNormal0 (sortRanges (l.filter someB)) (by omega) hw _ 0 [] rfl (Nat.zero_le _) (Nat.le_refl _) (by simp)
    simpa using h
  · refine (mergeR_spec _ hw ?_).congr (fun n => ?_)
    · rw [List.pairwise_iff_getElem] at s3 ⊢
      intro i j hi hj hij
      have := s3 i j hi hj hij
      rw [ltA_iff (hw _ (List.getElem_mem hj)).1.1 (hw _ (List.getElem_mem hi)).1.1] at this
      omega
    · rw [asm_perm s2, asm_filter l hb]
  · have := foldR_len (sortRanges (l.filter someB)) []
    simp at this
    omega
def mergeA (x r : Rg) : Rg := ⟨if av x.f0 < av r.f0 then x.f0 else r.f0, if av r.f1 < av x.f1 then x.f1 else r.f1⟩
def insR (r : Rg) : List Rg → List Rg
  | [] => [r]
  | x :: t => if av x.f1 + 1 < av r.f0 then x :: insR r t else if av r.f1 + 1 < av x.f0 then r :: x :: t else insR (mergeA x r) t
theorem mergeA_RW {x r : Rg} (hx : RW x) (hr : RW r) (h1 : ¬ av x.f1 + 1 < av r.f0) (h2 : ¬ av r.f1 + 1 < av x.f0) : RW (mergeA x r) := by
  have hf : x.f0.f0 = r.f0.f0 := by
    rcases hx.num with ⟨_, _, n1 | n1⟩ <;> rcases hr.num with ⟨_, _, n2 | n2⟩
    · rw [n1.1, n2.1]
    · omega
    · omega
    · rw [n1.1, n2.1]
  have e1 := hx.2.2.1
  have e2 := hr.2.2.1
  unfold mergeA
  refine ⟨?_, ?_, ?_, ?_⟩
  · show AF (if _ then _ else _)
    split
    · exact hx.1
    · exact hr.1
  · show AF (if _ then _ else _)
    split
    · exact hx.2.1
    · exact hr.2.1
  · show (if _ then _ else _ : Ad).f0 = (if _ then _ else _ : Ad).f0
    split <;> split
    · exact e1
    · rw [hf]; exact e2
    · rw [← hf]; exact e1
    · exact e2
  · have := hx.2.2.2
    have := hr.2.2.2
    show av (if _ then _ else _) ≤ av (if _ then _ else _)
    split <;> split <;> omega
theorem insR_ins : ∀ (l : List Rg) (r : Rg), RW r → (∀ x ∈ l, RW x) → (insR r l).map rsp = ins (rsp r) (l.map rsp) ∧ ∀ z ∈ insR r l, RW z
  | [], r, hr, _ => ⟨rfl, fun z hz => by rw [List.mem_singleton.1 hz]; exact hr⟩
  | x :: t, r, hr, hl => by
    have hx := hl x (List.mem_cons_self ..)
    have ht : ∀ z ∈ t, RW z := fun z hz => hl z (List.mem_cons_of_mem _ hz)
    have x2 := hx.2.2.2
    have r2 := hr.2.2.2
    simp only [insR, List.map_cons, ins]
    show _ = (if av r.f1 + 1 < av x.f0 then _ else if av x.f1 + 1 < av r.f0 then _ else _) ∧ _
    by_cases h1 : av x.f1 + 1 < av r.f0
    · rw [if_pos h1, if_neg (by omega), if_pos h1]
      obtain ⟨e1, e2⟩ := insR_ins t r hr ht
      refine ⟨by rw [List.map_cons, e1], fun z hz => ?_⟩
      rcases List.mem_cons.1 hz with rfl | hz
      · exact hx
      · exact e2 z hz
    · rw [if_neg h1]
      by_cases h2 : av r.f1 + 1 < av x.f0
      · rw [if_pos h2, if_pos h2]
        refine ⟨rfl, fun z hz => ?_⟩
        rcases List.mem_cons.1 hz with rfl | hz
        · exact hr
        · exact hl z hz
      · rw [if_neg h2, if_neg h2, if_neg h1]
        have hm := mergeA_RW hx hr h1 h2
        obtain ⟨e1, e2⟩ := insR_ins t (mergeA x r) hm ht
        refine ⟨?_, e2⟩
        rw [e1]
        congr 1
        show (av (if _ then _ else _), av (if _ then _ else _)) = (min (av r.f0) (av x.f0), max (av r.f1) (av x.f1))
        refine Prod.ext ?_ ?_
        · show av (if _ then _ else _) = min (av r.f0) (av x.f0)
          split <;> omega
        · show av (if _ then _ else _) = max (av r.f1) (av x.f1)
          split <;> omega
theorem insR_spec {l : List Rg} {r : Rg} (hc : CanFrom 0 (l.map rsp)) (hl : ∀ x ∈ l, RW x) (hr : RW r) : ACan (fun n => (av r.f0 ≤ n ∧ n ≤ av r.f1) ∨ ASM l n) (insR r l) := by
  obtain ⟨e1, e2⟩ := insR_ins l r hr hl
  refine ⟨?_, e2, fun n => ?_⟩
  · rw [e1]; exact ins_can _ _ _ hc hr.num.1 hr.2.2.2
  · rw [asm_mem e2, e1, ins_mem _ _ 0 n hc hr.2.2.2]
    show (_ ∧ _) ∨ _ ↔ (_ ∧ _) ∨ ASM l n
    rw [asm_mem hl]
    rfl
theorem insR_len : ∀ (l : List Rg) (r : Rg), (insR r l).length ≤ l.length + 1
  | [], r => by simp [insR]
  | x :: t, r => by
    unfold insR
    split
    · have := insR_len t r; simp; omega
    · split
      · simp
      · have := insR_len t (mergeA x r); simp; omega
theorem ev_radd_done (l : List Rg) (r : Rg) (hl : l.length < 2932031007000) : ∀ (d i : Nat) (out : List Rg), l.length - i = d → i ≤ l.length → out.length ≤ i + 1 → Ev (fun k => intrusionref07_add.l0 k l out true (i : Int) r.f0.f0 r.f0.f1 r.f0.f2 r.f1.f0 r.f1.f1 r.f1.f2) (out ++ l.drop i) := by
  intro d
  induction d with
  | zero =>
    intro i out hd hi ho
    have : i = l.length := by omega
    subst this
    refine Ev.step (f := fun _ => some out) (fun k => ?_) (by simpa using Ev.now out)
    simp only [intrusionref07_add.l0]; rw [if_neg (by omega), if_pos (by trivial)]
  | succ d ih =>
    intro i out hd hi ho
    have hlt : i < l.length := by omega
    have h2 := ih (i + 1) (out ++ [l[i]]) (by omega) (by omega) (by simp; omega)
    rw [dropc l i hlt, show out ++ l[i] :: l.drop (i + 1) = out ++ [l[i]] ++ l.drop (i + 1) from by simp]
    refine Ev.step (f := fun k => intrusionref07_add.j1 k l out true (i : Int) true r.f0.f0 r.f0.f1 r.f0.f2 r.f1.f0 r.f1.f1 r.f1.f2 l[i].f0.f0 l[i].f0.f1 l[i].f0.f2 l[i].f1.f0 l[i].f1.f1 l[i].f1.f2) (fun k => ?_) (Ev.step (fun k => ?_) h2)
    · simp only [intrusionref07_add.l0]
      rw [if_pos (by omega), if_pos (by omega), if_pos (by trivial), rd_getR l i hlt]
    · simp only [intrusionref07_add.j1]
      rw [if_pos (by trivial), if_pos (by omega), wsucc i (by omega)]
theorem apart_iff {x r : Rg} (hx : RW x) (hr : RW r) : (av x.f1 < av r.f0 ∧ ¬ nearP x r) ↔ av x.f1 + 1 < av r.f0 := by
  have x2 := hx.2.2.2
  constructor
  · rintro ⟨h1, h2⟩
    have h3 := nearP_iff hx hr (by omega)
    apply Classical.byContradiction
    intro hc
    exact h2 (h3.2 (by omega))
  · intro h
    have := nearP_iff hx hr (by omega)
    exact ⟨by omega, fun e => by have := this.1 e; omega⟩
theorem ev_radd0 (l : List Rg) (hl : l.length < 2932031007000) (hL : ∀ x ∈ l, RW x) : ∀ (d i : Nat) (out : List Rg) (r : Rg), RW r → l.length - i = d → i ≤ l.length → out.length ≤ i → Ev (fun k => intrusionref07_add.l0 k l out false (i : Int) r.f0.f0 r.f0.f1 r.f0.f2 r.f1.f0 r.f1.f1 r.f1.f2) (out ++ insR r (l.drop i)) := by
  intro d
  induction d with
  | zero =>
    intro i out r hr hd hi ho
    have : i = l.length := by omega
    subst this
    refine Ev.step (f := fun _ => some (out ++ [r])) (fun k => ?_) (by simpa [insR] using Ev.now (out ++ [r]))
    simp only [intrusionref07_add.l0]; rw [if_neg (by omega), if_neg (by decide), if_pos (by omega)]
  | succ d ih =>
    intro i out r hr hd hi ho
    have hlt : i < l.length := by omega
    have hx := hL l[i] (List.getElem_mem hlt)
    rw [dropc l i hlt]
    unfold insR
    have hj2m : ¬ av l[i].f1 + 1 < av r.f0 → ¬ av r.f1 + 1 < av l[i].f0 → Ev (fun k => intrusionref07_add.j2 k l out false (i : Int) false r.f0.f0 r.f0.f1 r.f0.f2 r.f1.f0 r.f1.f1 r.f1.f2 l[i].f0.f0 l[i].f0.f1 l[i].f0.f2 l[i].f1.f0 l[i].f1.f1 l[i].f1.f2) (out ++ insR (mergeA l[i] r) (l.drop (i + 1))) := fun g1 g2 => by
      refine Ev.step (fun k => ?_) (ih (i + 1) out (mergeA l[i] r) (mergeA_RW hx hr g1 g2) (by omega) (by omega) (by omega))
      simp only [intrusionref07_add.j2]
      rw [if_neg (by decide), before_eq l[i].f0 r.f0 hx.1.1 hr.1.1, before_eq r.f1 l[i].f1 hr.2.1.1 hx.2.1.1, wsucc i (by omega)]
      simp only [Option.bind_some, decide_eq_true_eq]
      unfold mergeA
      by_cases e1 : av l[i].f0 < av r.f0
      · rw [if_pos e1]
        by_cases e2 : av r.f1 < av l[i].f1
        · rw [if_pos e2]; simp only [if_pos e1, if_pos e2]
        · rw [if_neg e2]; simp only [if_pos e1, if_neg e2]
      · rw [if_neg e1]
        by_cases e2 : av r.f1 < av l[i].f1
        · rw [if_pos e2]; simp only [if_neg e1, if_pos e2]
        · rw [if_neg e2]; simp only [if_neg e1, if_neg e2]
    have hj2 : ¬ av l[i].f1 + 1 < av r.f0 → Ev (fun k => intrusionref07_add.j2 k l out false (i : Int) (decide (av r.f1 + 1 < av l[i].f0)) r.f0.f0 r.f0.f1 r.f0.f2 r.f1.f0 r.f1.f1 r.f1.f2 l[i].f0.f0 l[i].f0.f1 l[i].f0.f2 l[i].f1.f0 l[i].f1.f1 l[i].f1.f2) (out ++ (if av r.f1 + 1 < av l[i].f0 then r :: l[i] :: l.drop (i + 1) else insR (mergeA l[i] r) (l.drop (i + 1)))) := fun g1 => by
      by_cases g2 : av r.f1 + 1 < av l[i].f0
      · rw [if_pos g2, decide_eq_true g2]
        have h3 := ev_radd_done l r hl (l.length - (i + 1)) (i + 1) (out ++ [r, l[i]]) rfl (by omega) (by simp; omega)
        rw [show out ++ r :: l[i] :: l.drop (i + 1) = out ++ [r, l[i]] ++ l.drop (i + 1) from by simp]
        refine Ev.step (fun k => ?_) h3
        simp only [intrusionref07_add.j2]
        rw [if_pos (by trivial)]
        simp only [Option.bind_some]
        rw [if_pos (by simp; omega), wsucc i (by omega)]
      · rw [if_neg g2, decide_eq_false g2]
        exact hj2m g1 g2
    have hj1 : Ev (fun k => intrusionref07_add.j1 k l out false (i : Int) (decide (av l[i].f1 + 1 < av r.f0)) r.f0.f0 r.f0.f1 r.f0.f2 r.f1.f0 r.f1.f1 r.f1.f2 l[i].f0.f0 l[i].f0.f1 l[i].f0.f2 l[i].f1.f0 l[i].f1.f1 l[i].f1.f2) (out ++ (if av l[i].f1 + 1 < av r.f0 then l[i] :: insR r (l.drop (i + 1)) else if av r.f1 + 1 < av l[i].f0 then r :: l[i] :: l.drop (i + 1) else insR (mergeA l[i] r) (l.drop (i + 1)))) := by
      by_cases g1 : av l[i].f1 + 1 < av r.f0
      · rw [if_pos g1, decide_eq_true g1]
        have h3 := ih (i + 1) (out ++ [l[i]]) r hr (by omega) (by omega) (by simp; omega)
        rw [show out ++ l[i] :: insR r (l.drop (i + 1)) = out ++ [l[i]] ++ insR r (l.drop (i + 1)) from by simp]
        refine Ev.step (fun k => ?_) h3
        simp only [intrusionref07_add.j1]
        rw [if_pos (by trivial), if_pos (by omega), wsucc i (by omega)]
      · rw [if_neg g1, decide_eq_false g1]
        refine Ev.step (fun k => ?_) (hj2 g1)
        simp only [intrusionref07_add.j1]
        rw [if_neg (by decide), before_eq r.f1 l[i].f0 hr.2.1.1 hx.1.1]
        simp only [Option.bind_some, decide_eq_true_eq]
        have ha := apart_iff hr hx
        by_cases e : av r.f1 < av l[i].f0
        · rw [if_pos e, joined_eq r l[i] hr hx]
          simp only [Option.bind_some]
          congr 1
          rw [Bool.eq_iff_iff]
          simp only [Bool.not_eq_true', decide_eq_false_iff_not, decide_eq_true_eq]
          rw [← ha]
          exact ⟨fun h => ⟨e, h⟩, fun h => h.2⟩
        · rw [if_neg e, decide_eq_false (by omega)]
    refine Ev.step (fun k => ?_) hj1
    simp only [intrusionref07_add.l0]
    rw [if_pos (by omega), if_pos (by omega), if_neg (by decide), rd_getR l i hlt, before_eq l[i].f1 r.f0 hx.2.1.1 hr.1.1]
    simp only [Option.bind_some, decide_eq_true_eq]
    have ha := apart_iff hx hr
    by_cases e : av l[i].f1 < av r.f0
    · rw [if_pos e, joined_eq l[i] r hx hr]
      simp only [Option.bind_some]
      congr 1
      rw [Bool.eq_iff_iff]
      simp only [Bool.not_eq_true', decide_eq_false_iff_not, decide_eq_true_eq]
      rw [← ha]
      exact ⟨fun h => ⟨e, h⟩, fun h => h.2⟩
    · rw [if_neg e, decide_eq_false (by omega)]
theorem radd_spec {P : Int → Prop} {l : List Rg} (h : ACan P l) (r : Rg) (hr : RW r) (hl : l.length < 2932031007000) : ∃ s, Ev (fun k => intrusionref07_add.f k l r.f0.f0 r.f0.f1 r.f0.f2 r.f1.f0 r.f1.f1 r.f1.f2) s ∧ ACan (fun n => P n ∨ (av r.f0 ≤ n ∧ n ≤ av r.f1)) s ∧ s.length ≤ l.length + 1 := by
  refine ⟨insR r l, ?_, ?_, insR_len l r⟩
  · have := ev_radd0 l hl h.2.1 l.length 0 [] r hr rfl (Nat.zero_le _) (Nat.le_refl _)
    simpa [intrusionref07_add.f] using this
  · refine (insR_spec h.1 h.2.1 hr).congr (fun n => ?_)
    rw [h.2.2 n]
    exact or_comm
theorem ev_rNormal0 (L : List Rg) (hl : L.length < 2932031007000) (hL : ∀ x ∈ L, RB x) : ∀ (d i : Nat) (out : List Rg) (P : Int → Prop), L.length - i = d → i ≤ L.length → out.length ≤ i → ACan P out → ∃ r, Ev (fun k => intrusionref07_Normal.l0 k L out (i : Int)) r ∧ ACan (fun n => P n ∨ ASM (L.drop i) n) r ∧ r.length ≤ L.length := by
  intro d
  induction d with
  | zero =>
    intro i out P hd hi ho hc
    have : i = L.length := by omega
    subst this
    refine ⟨out, Ev.step (f := fun _ => some out) (fun k => ?_) (Ev.now out), hc.congr (fun n => ?_), ho⟩
    · simp only [intrusionref07_Normal.l0]; rw [if_neg (by omega)]
    · rw [List.drop_length, asm_nil, or_false]
  | succ d ih =>
    intro i out P hd hi ho hc
    have hlt : i < L.length := by omega
    have hb := hL L[i] (List.getElem_mem hlt)
    by_cases hs : RW L[i]
    · obtain ⟨s, s1, s2, s3⟩ := radd_spec hc L[i] hs (by omega)
      obtain ⟨r, r1, r2, r3⟩ := ih (i + 1) s _ (by omega) (by omega) (by omega) s2
      refine ⟨r, ?_, r2.congr (fun n => ?_), r3⟩
      · refine Ev.step (f := fun k => (intrusionref07_add.f k out L[i].f0.f0 L[i].f0.f1 L[i].f0.f2 L[i].f1.f0 L[i].f1.f1 L[i].f1.f2).bind fun t => intrusionref07_Normal.l0 k L t ((i + 1 : Nat) : Int)) (fun k => ?_) (Ev.bind s1 r1)
        simp only [intrusionref07_Normal.l0]
        rw [if_pos (by omega), if_pos (by omega), rd_getR L i hlt, rsome_eq _ hb, (some_iff hb).2 hs, wsucc i (by omega)]
        rfl
      · rw [dropc L i hlt, asm_cons, or_assoc]
        exact or_congr_right (or_congr_left ⟨fun h => ⟨hs, h⟩, fun h => h.2⟩)
    · obtain ⟨r, r1, r2, r3⟩ := ih (i + 1) out P (by omega) (by omega) (by omega) hc
      refine ⟨r, ?_, r2.congr (fun n => ?_), r3⟩
      · refine Ev.step (fun k => ?_) r1
        simp only [intrusionref07_Normal.l0]
        rw [if_pos (by omega), if_pos (by omega), rd_getR L i hlt, rsome_eq _ hb, Bool.eq_false_iff.2 (fun h => hs ((some_iff hb).1 h)), wsucc i (by omega)]
        rfl
      · rw [dropc L i hlt, asm_cons]
        exact or_congr_right ⟨.inr, fun h => h.elim (fun h => (hs h.1).elim) id⟩
theorem ACan.none : ACan (fun _ => False) [] := ACan.nil (fun _ h => h)
theorem arNormal_spec (l : List Rg) (hl : l.length < 2932031007000) (hb : ∀ x ∈ l, RB x) : ∃ r, Ev (fun k => intrusionref07_Normal.f k l) r ∧ ACan (ASM l) r ∧ r.length ≤ l.length := by
  obtain ⟨r, r1, r2, r3⟩ := ev_rNormal0 l hl hb l.length 0 [] _ rfl (Nat.zero_le _) (Nat.le_refl _) ACan.none
  exact ⟨r, r1, r2.congr (fun n => by simp), r3⟩
theorem ev_aSame (L : List Rg) (hl : L.length < 2932031007402) : ∀ (d i : Nat), L.length - i = d → i ≤ L.length → Ev (fun k => intrusionref07_Same.l0 k L L (i : Int)) true := by
  intro d
  induction d with
  | zero =>
    intro i hd hi
    have : i = L.length := by omega
    subst this
    refine Ev.step (f := fun _ => some true) (fun k => ?_) (Ev.now true)
    simp only [intrusionref07_Same.l0]; rw [if_neg (by omega)]
  | succ d ih =>
    intro i hd hi
    have hlt : i < L.length := by omega
    refine Ev.step (fun k => ?_) (ih (i + 1) (by omega) (by omega))
    simp only [intrusionref07_Same.l0]
    rw [if_pos (by omega), if_pos (by omega), if_pos (by omega), rd_getR L i hlt, wsucc i (by omega)]
    simp
theorem aSame_ev (L : List Rg) (hl : L.length < 2932031007402) : Ev (fun k => intrusionref07_Same.f k L L) true := by
  have h := ev_aSame L hl L.length 0 rfl (Nat.zero_le _)
  refine Ev.congr (fun k => ?_) h
  unfold intrusionref07_Same.f
  rw [if_pos (by trivial)]
  rfl
end Go.Proofs.Ytcgfpffgiimgmaa.Q
end

section
set_option linter.unusedVariables false
set_option linter.unusedSimpArgs false
namespace Go.Proofs.Ytcgfpffgiimgmaa.Q
open Go.RowKit Go.Proofs.YtcgfpffgiimgmaaW.PrintWords Go.Proofs.YtcgfpffgiimgmaaW.PrintLast Go.Proofs.YtcgfpffgiimgmaaW.PrintMore Go.Proofs.Ytcgfpffgiimgmaa.Canon
def okAtR (L : List Rg) (i : Nat) : Bool := if h : i < L.length then someB L[i] && (if h0 : 0 < i then decide (av (L[i - 1]'(by omega)).f1 + 1 < av L[i].f0) else true) else true
def okAllR (L : List Rg) : Bool := (List.range' 0 L.length).all (okAtR L)
theorem okR_from (L : List Rg) (i : Nat) : (List.range' i (L.length - i)).all (okAtR L) = if i < L.length then okAtR L i && (List.range' (i + 1) (L.length - (i + 1))).all (okAtR L) else true := by
  by_cases h : i < L.length
  · rw [if_pos h, show L.length - i = (L.length - (i + 1)) + 1 from by omega, List.range'_succ, List.all_cons]
  · rw [if_neg h, show L.length - i = 0 from by omega]
    rfl
theorem ev_aValid (L : List Rg) (hl : L.length < 2932031007402) (hq : ∀ x ∈ L, RB x) : ∀ (d i : Nat), L.length - i = d → i ≤ L.length → (∀ j, j < i → okAtR L j = true) →
    Ev (fun k => addrset_Valid.l0 k L L (L.length : Int) (i : Int)) ((List.range' i (L.length - i)).all (okAtR L)) ∧ Ev (fun k => intrusionref07_Valid.l0 k L (i : Int)) ((List.range' i (L.length - i)).all (okAtR L)) := by
  intro d
  induction d with
  | zero =>
    intro i hd hi _
    have : i = L.length := by omega
    subst this
    rw [okR_from, if_neg (by omega)]
    constructor
    · refine Ev.step (f := fun _ => some true) (fun k => ?_) (Ev.now true)
      simp only [addrset_Valid.l0]; rw [if_neg (by omega)]
    · refine Ev.step (f := fun _ => some true) (fun k => ?_) (Ev.now true)
      simp only [intrusionref07_Valid.l0]; rw [if_neg (by omega)]
  | succ d ih =>
    intro i hd hi hprev
    have hlt : i < L.length := by omega
    have hx := hq L[i] (List.getElem_mem hlt)
    rw [okR_from, if_pos hlt]
    have key : okAtR L i = true → Ev (fun k => addrset_Valid.l0 k L L (L.length : Int) ((i + 1 : Nat) : Int)) ((List.range' (i + 1) (L.length - (i + 1))).all (okAtR L)) ∧ Ev (fun k => intrusionref07_Valid.l0 k L ((i + 1 : Nat) : Int)) ((List.range' (i + 1) (L.length - (i + 1))).all (okAtR L)) := fun hb => ih (i + 1) (by omega) (by omega) (fun j hj => by
      by_cases e : j = i
      · subst e; exact hb
      · exact hprev j (by omega))
    have hdef : okAtR L i = (someB L[i] && (if h0 : 0 < i then decide (av (L[i - 1]'(by omega)).f1 + 1 < av L[i].f0) else true)) := by unfold okAtR; rw [dif_pos hlt]
    by_cases c1 : someB L[i] = true
    · have hw := (some_iff hx).1 c1
      by_cases c4 : 0 < i
      · have hp := hprev (i - 1) (by omega)
        have hpb := hq (L[i - 1]'(by omega)) (List.getElem_mem _)
        have hpw : RW (L[i - 1]'(by omega)) := by
          unfold okAtR at hp
          rw [dif_pos (by omega), Bool.and_eq_true] at hp
          exact (some_iff hpb).1 hp.1
        have hi1 := wpred i c4 (by omega)
        have p2 := hpw.2.2.2
        by_cases c5 : av (L[i - 1]'(by omega)).f1 + 1 < av L[i].f0
        · have hb : okAtR L i = true := by rw [hdef, c1, dif_pos c4, decide_eq_true c5]; rfl
          obtain ⟨e1, e2⟩ := key hb
          rw [hb, Bool.true_and]
          obtain ⟨n1, n2⟩ := (apart_iff hpw hw).2 c5
          constructor
          · refine Ev.step (fun k => ?_) e1
            simp only [addrset_Valid.l0]
            rw [if_pos (by omega), if_pos (by omega), if_pos (by omega), rd_getR L i hlt, some_eq, c1]
            simp only [Option.bind_some, if_true]
            rw [if_pos (by omega), hi1, if_pos (by omega), if_pos (by omega), rd_getR L (i - 1) (by omega), cmp_f]
            simp only [Option.bind_some]
            rw [if_neg (by have := cmp_ge' hpw.2.1.1 hw.1.1; omega), near_eq _ _ hpw hw, decide_eq_false n2]
            simp only [Option.bind_some]
            rw [if_neg (by decide), wsucc i (by omega)]
          · refine Ev.step (fun k => ?_) e2
            simp only [intrusionref07_Valid.l0]
            rw [if_pos (by omega), if_pos (by omega), rd_getR L i hlt, rsome_eq _ hx, c1]
            simp only [Option.bind_some, if_true]
            rw [if_pos (by omega), hi1, if_pos (by omega), if_pos (by omega), rd_getR L (i - 1) (by omega), before_eq _ _ hpw.2.1.1 hw.1.1, decide_eq_true n1]
            simp only [Option.bind_some, if_true]
            rw [joined_eq _ _ hpw hw, decide_eq_false n2]
            simp only [Option.bind_some]
            rw [if_neg (by decide), wsucc i (by omega)]
        · have hb : okAtR L i = false := by rw [hdef, c1, dif_pos c4, decide_eq_false c5]; rfl
          rw [hb, Bool.false_and]
          have ha := apart_iff hpw hw
          constructor
          · refine Ev.step (f := fun _ => some false) (fun k => ?_) (Ev.now false)
            simp only [addrset_Valid.l0]
            rw [if_pos (by omega), if_pos (by omega), if_pos (by omega), rd_getR L i hlt, some_eq, c1]
            simp only [Option.bind_some, if_true]
            rw [if_pos (by omega), hi1, if_pos (by omega), if_pos (by omega), rd_getR L (i - 1) (by omega), cmp_f]
            simp only [Option.bind_some]
            by_cases c6 : av (L[i - 1]'(by omega)).f1 < av L[i].f0
            · have n2 : nearP (L[i - 1]'(by omega)) L[i] := Classical.byContradiction (fun hc => c5 (ha.1 ⟨c6, hc⟩))
              rw [if_neg (by have := cmp_ge' hpw.2.1.1 hw.1.1; omega), near_eq _ _ hpw hw, decide_eq_true n2]
              rfl
            · rw [if_pos (by have := cmp_ge' hpw.2.1.1 hw.1.1; omega)]
          · refine Ev.step (f := fun _ => some false) (fun k => ?_) (Ev.now false)
            simp only [intrusionref07_Valid.l0]
            rw [if_pos (by omega), if_pos (by omega), rd_getR L i hlt, rsome_eq _ hx, c1]
            simp only [Option.bind_some, if_true]
            rw [if_pos (by omega), hi1, if_pos (by omega), if_pos (by omega), rd_getR L (i - 1) (by omega), before_eq _ _ hpw.2.1.1 hw.1.1]
            simp only [Option.bind_some]
            by_cases c6 : av (L[i - 1]'(by omega)).f1 < av L[i].f0
            · have n2 : nearP (L[i - 1]'(by omega)) L[i] := Classical.byContradiction (fun hc => c5 (ha.1 ⟨c6, hc⟩))
              rw [decide_eq_true c6, joined_eq _ _ hpw hw, decide_eq_true n2]
              rfl
            · rw [decide_eq_false c6]
              rfl
      · have hb : okAtR L i = true := by rw [hdef, c1, dif_neg c4]; rfl
        obtain ⟨e1, e2⟩ := key hb
        rw [hb, Bool.true_and]
        constructor
        · refine Ev.step (fun k => ?_) e1
          simp only [addrset_Valid.l0]
          rw [if_pos (by omega), if_pos (by omega), if_pos (by omega), rd_getR L i hlt, some_eq, c1]
          simp only [Option.bind_some, if_true]
          rw [if_neg (by omega), wsucc i (by omega)]
        · refine Ev.step (fun k => ?_) e2
          simp only [intrusionref07_Valid.l0]
          rw [if_pos (by omega), if_pos (by omega), rd_getR L i hlt, rsome_eq _ hx, c1]
          simp only [Option.bind_some, if_true]
          rw [if_neg (by omega), wsucc i (by omega)]
    · have c2 : someB L[i] = false := Bool.eq_false_iff.2 c1
      have hb : okAtR L i = false := by rw [hdef, c2]; rfl
      rw [hb, Bool.false_and]
      constructor
      · refine Ev.step (f := fun _ => some false) (fun k => ?_) (Ev.now false)
        simp only [addrset_Valid.l0]
        rw [if_pos (by omega), if_pos (by omega), if_pos (by omega), rd_getR L i hlt, some_eq, c2]
        rfl
      · refine Ev.step (f := fun _ => some false) (fun k => ?_) (Ev.now false)
        simp only [intrusionref07_Valid.l0]
        rw [if_pos (by omega), if_pos (by omega), rd_getR L i hlt, rsome_eq _ hx, c2]
        rfl
theorem aValid_ev (L : List Rg) (hl : L.length < 2932031007402) (hq : ∀ x ∈ L, RB x) : Ev (fun k => addrset_Valid.f k L) (okAllR L) ∧ Ev (fun k => intrusionref07_Valid.f k L) (okAllR L) := by
  have h := ev_aValid L hl hq L.length 0 rfl (Nat.zero_le _) (fun j hj => by omega)
  exact ⟨Ev.congr (fun k => rfl) h.1, Ev.congr (fun k => rfl) h.2⟩
theorem can_at : ∀ (L : List Rg) (i : Nat) (hi : i + 1 < L.length) (lo : Int), CanFrom lo (L.map rsp) → av (L[i]'(by omega)).f1 + 1 < av L[i + 1].f0
  | x :: y :: t, 0, _, lo, c => by
    have := c.2.2.1
    simp only [rsp] at this
    show av x.f1 + 1 < av y.f0
    omega
  | x :: t, i + 1, hi, lo, c => can_at t i (by simpa using hi) _ c.2.2
  | [], i, hi, lo, c => by simp at hi
theorem ACan.ok {P : Int → Prop} {r : List Rg} (h : ACan P r) : okAllR r = true := by
  unfold okAllR
  rw [List.all_eq_true]
  intro i hi
  have hlt : i < r.length := by
    have := List.mem_range'.1 hi
    obtain ⟨j, hj, e⟩ := this
    omega
  unfold okAtR
  rw [dif_pos hlt, Bool.and_eq_true]
  have hw := h.2.1 r[i] (List.getElem_mem hlt)
  refine ⟨(some_iff hw.b).2 hw, ?_⟩
  by_cases h0 : 0 < i
  · rw [dif_pos h0, decide_eq_true_eq]
    have := can_at r (i - 1) (by omega) 0 h.1
    simpa [show i - 1 + 1 = i from by omega] using this
  · rw [dif_neg h0]
theorem inRange_iff {a : Ad} (ha : AF a) {r : Rg} (hr : RB r) : inRange a r = true ↔ RW r ∧ av r.f0 ≤ av a ∧ av a ≤ av r.f1 := by
  unfold inRange
  simp only [Bool.and_eq_true, some_iff hr, beq_iff_eq, decide_eq_true_eq, cmp_le' hr.1 ha.1, cmp_le' ha.1 hr.2]
  constructor
  · rintro ⟨h1, h2, h3, h4⟩
    exact ⟨h1, h3, h4⟩
  · rintro ⟨h1, h3, h4⟩
    refine ⟨h1, ?_, h3, h4⟩
    rcases h1.num with ⟨_, _, n1 | n1⟩ <;> rcases ha.num with n2 | n2
    · rw [n1.1, n2.1]
    · omega
    · omega
    · rw [n1.1, n2.1]
def inA (l : List Rg) (a : Ad) : Bool := fineB a && l.any (inRange a)
theorem acontains_eq (l : List Rg) (a : Ad) : addrset_Contains.f l a.f0 a.f1 a.f2 = some (inA l a) := rfl
theorem ev_rContains (l : List Rg) (hl : l.length < 2932031007402) (hq : ∀ x ∈ l, RB x) (a : Ad) (ha : AW a) : ∀ (d i : Nat), l.length - i = d → i ≤ l.length → Ev (fun k => intrusionref07_Contains.l0 k l (i : Int) a.f0 a.f1 a.f2) (inA (l.drop i) a) := by
  intro d
  induction d with
  | zero =>
    intro i hd hi
    have : i = l.length := by omega
    subst this
    refine Ev.step (f := fun _ => some false) (fun k => ?_) (by simpa [inA] using Ev.now false)
    simp only [intrusionref07_Contains.l0]; rw [if_neg (by omega)]
  | succ d ih =>
    intro i hd hi
    have hlt : i < l.length := by omega
    have hx := hq l[i] (List.getElem_mem hlt)
    have h2 := ih (i + 1) (by omega) (by omega)
    rw [dropc l i hlt]
    by_cases hf : AF a
    · have f1 := (fine_iff ha).2 hf
      have e : inA (l[i] :: l.drop (i + 1)) a = (inRange a l[i] || inA (l.drop (i + 1)) a) := by unfold inA; rw [f1, List.any_cons, Bool.true_and, Bool.true_and]
      rw [e]
      by_cases hr : inRange a l[i] = true
      · rw [hr, Bool.true_or]
        have hr2 := (inRange_iff hf hx).1 hr
        have s1 := (some_iff hx).2 hr2.1
        have hfam : l[i].f0.f0 = a.f0 := by
          unfold inRange at hr
          simp only [Bool.and_eq_true, beq_iff_eq] at hr
          exact hr.2.1
        refine Ev.step (f := fun _ => some true) (fun k => ?_) (Ev.now true)
        simp only [intrusionref07_Contains.l0]
        rw [if_pos (by omega), rfine_eq _ ha, f1]
        simp only [Option.bind_some, if_true]
        rw [if_pos (by omega), rd_getR l i hlt, rsome_eq _ hx, s1]
        simp only [Option.bind_some, if_true]
        rw [if_pos (by simpa using hfam), before_eq a l[i].f0 ha hx.1, decide_eq_false (by omega)]
        simp only [Option.bind_some]
        rw [if_neg (by decide), before_eq l[i].f1 a hx.2 ha, decide_eq_false (by omega)]
        rfl
      · rw [Bool.eq_false_iff.2 hr, Bool.false_or]
        refine Ev.step (fun k => ?_) h2
        simp only [intrusionref07_Contains.l0]
        rw [if_pos (by omega), rfine_eq _ ha, f1]
        simp only [Option.bind_some, if_true]
        rw [if_pos (by omega), rd_getR l i hlt, rsome_eq _ hx, wsucc i (by omega)]
        simp only [Option.bind_some]
        by_cases s1 : someB l[i] = true
        · rw [if_pos s1]
          by_cases hfam : l[i].f0.f0 = a.f0
          · rw [if_pos (by simpa using hfam), before_eq a l[i].f0 ha hx.1, before_eq l[i].f1 a hx.2 ha]
            simp only [Option.bind_some, decide_eq_true_eq]
            by_cases b1 : av a < av l[i].f0
            · rw [if_pos b1]
            · rw [if_neg b1]
              by_cases b2 : av l[i].f1 < av a
              · rw [if_pos b2]
              · exact absurd ((inRange_iff hf hx).2 ⟨(some_iff hx).1 s1, by omega, by omega⟩) hr
          · rw [if_neg (by simpa using hfam)]
        · rw [if_neg s1]
    · have f1 : fineB a = false := Bool.eq_false_iff.2 (fun h => hf ((fine_iff ha).1 h))
      have e : ∀ l', inA l' a = false := fun l' => by unfold inA; rw [f1]; rfl
      rw [e] at h2 ⊢
      refine Ev.step (fun k => ?_) h2
      simp only [intrusionref07_Contains.l0]
      rw [if_pos (by omega), rfine_eq _ ha, f1, wsucc i (by omega)]
      rfl
theorem rcontains_ev (l : List Rg) (hl : l.length < 2932031007402) (hq : ∀ x ∈ l, RB x) (a : Ad) (ha : AW a) : Ev (fun k => intrusionref07_Contains.f k l a.f0 a.f1 a.f2) (inA l a) := by
  have h := ev_rContains l hl hq a ha l.length 0 rfl (Nat.zero_le _)
  rw [List.drop_zero] at h
  exact Ev.congr (fun k => rfl) h
end Go.Proofs.Ytcgfpffgiimgmaa.Q
end

section
set_option linter.unusedVariables false
set_option linter.unusedSimpArgs false
namespace Go.Proofs.Ytcgfpffgiimgmaa.Q
open Go.RowKit Go.Proofs.YtcgfpffgiimgmaaW.PrintWords Go.Proofs.YtcgfpffgiimgmaaW.PrintLast Go.Proofs.YtcgfpffgiimgmaaW.PrintMore Go.Proofs.Ytcgfpffgiimgmaa.Canon
def ipA (n : Int) : Ad := ⟨false, 0, 167772160 + n⟩
theorem ip_eq (n : Int) (h0 : 0 ≤ n) (h1 : n ≤ 1000) : intrusionlaw07_ip.f n = some (false, 0, 167772160 + n) := by
  unfold intrusionlaw07_ip.f
  rw [u64_id (by omega) (by omega)]
theorem ipA_AF (n : Int) (h0 : 0 ≤ n) (h1 : n ≤ 1000) : AF (ipA n) := by
  refine ⟨⟨?_, ?_, ?_, ?_⟩, .inr ⟨?_, ?_⟩⟩ <;> simp [ipA] <;> omega
theorem ipR_RW (a b : Int) (h0 : 0 ≤ a) (h1 : b ≤ 1000) (h : a ≤ b) : RW ⟨ipA a, ipA b⟩ := ⟨ipA_AF a h0 (by omega), ipA_AF b (by omega) h1, rfl, by show av (ipA a) ≤ av (ipA b); unfold av ipA; simp; omega⟩
theorem one_can {r : Rg} (h : RW r) : ACan (ASM [r]) [r] := ACan.self ⟨h.num.1, h.2.2.2, trivial⟩ (fun x hx => by rw [List.mem_singleton.1 hx]; exact h)
theorem aw_normal1 : Ev (fun k => addrset_Normal.f k [⟨ipA 1, ipA 4⟩]) [⟨ipA 1, ipA 4⟩] := by
  have hw := ipR_RW 1 4 (by omega) (by omega) (by omega)
  obtain ⟨r, r1, r2, _⟩ := aNormal_spec [⟨ipA 1, ipA 4⟩] (by simp) (fun x hx => by rw [List.mem_singleton.1 hx]; exact hw.b)
  rw [r2.uniq (one_can hw)] at r1
  exact r1
theorem aw_normal2 : Ev (fun k => addrset_Normal.f k [⟨ipA 2, ipA 3⟩, ⟨ipA 1, ipA 1⟩]) [⟨ipA 1, ipA 3⟩] := by
  have h1 := ipR_RW 2 3 (by omega) (by omega) (by omega)
  have h2 := ipR_RW 1 1 (by omega) (by omega) (by omega)
  have h3 := ipR_RW 1 3 (by omega) (by omega) (by omega)
  obtain ⟨r, r1, r2, _⟩ := aNormal_spec [⟨ipA 2, ipA 3⟩, ⟨ipA 1, ipA 1⟩] (by simp) (fun x hx => by
    rcases List.mem_cons.1 hx with rfl | hx
    · exact h1.b
    · rw [List.mem_singleton.1 hx]; exact h2.b)
  have e : ACan (ASM [⟨ipA 2, ipA 3⟩, ⟨ipA 1, ipA 1⟩]) [⟨ipA 1, ipA 3⟩] := (one_can h3).congr (fun n => by
    rw [asm_cons, asm_cons, asm_cons, asm_nil]
    have v : ∀ m : Int, av (ipA m) = 167772160 + m := fun m => by unfold av ipA; simp
    simp only [h1, h2, h3, true_and, or_false, v]
    omega)
  rw [r2.uniq e] at r1
  exact r1
def awP : List Px := [⟨ipA 1, 32⟩, ⟨ipA 2, 31⟩, ⟨ipA 4, 32⟩]
theorem aw_all : pAll 60 [⟨ipA 1, ipA 4⟩] [] = some (some awP) := by kernel_rfl
theorem aw_pref : Ev (fun k => addrset_Prefixes.f k [⟨ipA 1, ipA 4⟩]) awP := by
  unfold addrset_Prefixes.f
  refine Ev.bind (f := fun k x => (pAll k x []).bind fun o => some (o.getD [])) aw_normal1 ?_
  refine Ev.bind (f := fun _ o => some (o.getD [])) (Ev.of (fun k => pAll_mono k _ _) aw_all) (Ev.now _)
theorem aw_notvalid : okAllR [⟨ipA 2, ipA 3⟩, ⟨ipA 1, ipA 1⟩] = false := by decide +kernel
theorem aawake_ev : Ev (fun k => intrusionlaw07_awake.f k) true := by
  unfold intrusionlaw07_awake.f
  rw [ip_eq 1 (by omega) (by omega), ip_eq 2 (by omega) (by omega), ip_eq 3 (by omega) (by omega), ip_eq 4 (by omega) (by omega)]
  simp only [Option.bind_some]
  refine Ev.bind aw_pref (Ev.bind aw_normal2 ?_)
  refine Ev.bind (f := fun k t => _) (aSame_ev [⟨ipA 1, ipA 3⟩] (by simp)) ?_
  simp only [if_true]
  refine Ev.bind (aValid_ev [⟨ipA 2, ipA 3⟩, ⟨ipA 1, ipA 1⟩] (by simp) (fun x hx => by
    rcases List.mem_cons.1 hx with rfl | hx
    · exact (ipR_RW 2 3 (by omega) (by omega) (by omega)).b
    · rw [List.mem_singleton.1 hx]; exact (ipR_RW 1 1 (by omega) (by omega) (by omega)).b)).1 ?_
  rw [aw_notvalid]
  exact Ev.now true
end Go.Proofs.Ytcgfpffgiimgmaa.Q
end

section
set_option linter.unusedVariables false
set_option linter.unusedSimpArgs false
namespace Go.Proofs.Ytcgfpffgiimgmaa.Pure
open Go.RowKit Go.Proofs.Ytcgfpffgiimgmaa.Q Go.Proofs.YtcgfpffgiimgmaaW.PrintWords Go.Proofs.YtcgfpffgiimgmaaW.PrintLast Go.Proofs.YtcgfpffgiimgmaaW.PrintMore
theorem AddrsetNormal : ∀ (l0 : List (Rg)) (x1 : Ad), l0.length ≤ maxLen → (∀ x ∈ l0, q66 x) → q36 x1 → ∃ k, intrusionlaw07_AddrsetNormal.f k l0 x1.f0 x1.f1 x1.f2 = some true := by
  intro l0 x1 hm hq h1
  have hb : ∀ x ∈ l0, RB x := fun x hx => rb_of (hq x hx)
  have ha := aw_of h1
  refine Ev.rounds (g := fun k => intrusionlaw07_AddrsetNormal.f k l0 x1.f0 x1.f1 x1.f2) ?_
  unfold intrusionlaw07_AddrsetNormal.f intrusionlaw07_few.f
  by_cases h0 : (l0.length : Int) ≤ 16
  · have hl : l0.length < 2932031007000 := by omega
    obtain ⟨r, r1, r2, r3⟩ := aNormal_spec l0 (by omega) hb
    obtain ⟨s, s1, s2, s3⟩ := arNormal_spec l0 hl hb
    have e := s2.uniq r2
    subst e
    obtain ⟨v1, v2⟩ := aValid_ev l0 (by omega) hb
    rw [if_pos h0]
    have e0 : decide (((([] : List Rg).length : Nat) : Int) ≤ 16) = true := rfl
    rw [e0]
    simp only [Option.bind_some, if_true]
    refine Ev.bind r1 (Ev.bind s1 (Ev.bind (aSame_ev _ (by omega)) ?_))
    simp only [if_true]
    refine Ev.bind v1 (Ev.bind v2 ?_)
    simp only [beq_self_eq_true, if_true]
    rw [acontains_eq]
    simp only [Option.bind_some]
    refine Ev.bind (rcontains_ev l0 (by omega) hb x1 ha) ?_
    simp only [beq_self_eq_true, if_true]
    unfold addrset_All.f intrusionref07_All.f
    simp only [Option.bind_some]
    refine Ev.bind (aSame_ev _ (by simp)) ?_
    simp only [if_true]
    exact Ev.bind aawake_ev (Ev.now _)
  · rw [if_neg h0]
    simp only [Option.bind_some, Bool.false_eq_true, if_false]
    exact Ev.bind aawake_ev (Ev.now _)
end Go.Proofs.Ytcgfpffgiimgmaa.Pure
end

section
namespace Go.Proofs.Ytcgfpffgiimgmaa.addrsetNormal
open Go.ChangeShapes Go.WideShapes Go.ChangeAt Go.RowKit Go.Proofs.YtcgfpffgiimgmaaW.PrintWords Go.Proofs.Ytcgfpffgiimgmaa.Read Go.Proofs.Ytcgfpffgiimgmaa.Q
open Go.ChangeMaps (open_string shut_string)
set_option linter.unusedVariables false
theorem own : ownKnob Try.prog.godebug = none := by kernel_rfl
theorem laidOut : laidOutB Try.prog = true := by kernel_rfl
set_option maxRecDepth 100000 in
theorem lifted (os : Os) (started : os.Started) (H : Type) (enc : TypeId × Value → H) :
    ReturnsInHanded {} Try.checked os 9 .any (Rows.addrsetNormalSpec.pre6 enc Try.prog Try.f9 Rows.addrsetNormalRow.domain false) (Rows.addrsetNormalSpec.post enc Try.prog Try.f9 false true false false) := by
  refine returnsInHanded_of_change_sized (C := Try.checked) own started (by kernel_rfl) Try.func9
    (ChangeSpec.witness6 (enc := enc) (C := Try.checked) false ⟨#[], #[.slice none 0 0, .agg #[.bool false, .int .u64 0, .int .u64 0]], []⟩ 8 (by kernel_rfl) (by kernel_rfl) (by kernel_rfl) (by kernel_rfl)) ?_
  intro W base args ds gs before hval0 hW hcnd hsz0 _
  have hsz : (DataW.weightsEach Try.prog (Try.f9.params.toList ++ Rows.addrsetNormalSpec.plain.varTypes Try.prog) (ds ++ gs)).all (· ≤ reachBytes) = true := hsz0
  have hval : ∀ (j : Nat) t v, Try.f9.params[j]? = some t → args[j]? = some v → Value.okWide Try.prog W .any base t v := hval0
  have hW' := hW
  obtain ⟨p, q, hA0, hV, rfl, hfz, hnd⟩ := hW
  have hA : DataW.TrodAll enc Try.prog W 0 (fun _ => true) true Try.f9.params.toList args.toList ds p := hA0
  rw [Try.params9] at hA hval hsz
  obtain ⟨v0, vs0, d0, ds0, p0, q0, hargs, rfl, rfl, h0, r0⟩ := trodAll_cons hA
  obtain ⟨v1, vs1, d1, ds1, p1, q1, rfl, rfl, rfl, h1, r1⟩ := trodAll_cons r0
  obtain ⟨rfl, rfl, rfl⟩ := trodAll_nil r1
  obtain rfl : args = #[v0, v1] := by cases args; simp_all
  obtain ⟨rfl, rfl⟩ := trodVars_none hV
  obtain ⟨a0, len0, cap0, rfl⟩ := okWide_slice Try.underlying33 (hval 0 33 v0 rfl rfl)
  have k0_ := h0
  have lt0 : ∀ x ∈ p0, x.block < W.heap.size := by obtain ⟨m, hm⟩ := k0_; exact DataW.trod_lt m _ _ _ hm
  obtain ⟨fuel0, hf0⟩ := h0
  obtain ⟨l0, ⟨A0, c0, hcs0, hle0, hC0⟩, hm0, hq0⟩ := (reads_slice Try.underlying33 (by kernel_rfl) (reads_k66 W) : Reads Try.prog W (Kd.slice 66 k66) _ 33) H enc fuel0 _ _ hf0
  simp [Value.cells] at hcs0
  obtain ⟨rfl, rfl, rfl⟩ := hcs0
  obtain ⟨cs1, rfl, hz1⟩ := okWide_struct Try.underlying36 (hval 1 36 v1 rfl rfl)
  have k1_ := h1
  have lt1 : ∀ x ∈ p1, x.block < W.heap.size := by obtain ⟨m, hm⟩ := k1_; exact DataW.trod_lt m _ _ _ hm
  obtain ⟨fuel1, hf1⟩ := h1
  obtain ⟨x1, hK1, hq1⟩ := reads_k36 W H enc fuel1 _ _ hf1
  have hcs1 := k36_open hK1
  simp only [Value.cells] at hcs1
  obtain rfl : cs1 = #[.bool x1.f0, .int .u64 x1.f1, .int .u64 x1.f2] := by rw [← Array.toList_inj]; exact hcs1
  clear hA0 hval0 hsz0 hsz
  obtain ⟨k, hk⟩ := Pure.AddrsetNormal l0 x1 hm0 hq0 hq1
  refine (intrusionlaw07_AddrsetNormal.calls k _ _ l0 x1.f0 x1.f1 x1.f2 true W hC0 hle0 hk).mono fun e W' he => ?_
  obtain ⟨rfl, bel⟩ := he
  exact ⟨_, rfl, _, _, _, [], _, [], hW', trodAll_mk1 (shut_bool Try.underlying4 _), (trodAll_cons_mk (Below.trod laidOut (by kernel_rfl) (of_decide_eq_true (by kernel_rfl)) k0_ bel lt0) (trodAll_cons_mk (Below.trod laidOut (by kernel_rfl) (of_decide_eq_true (by kernel_rfl)) k1_ bel lt1) trodAll_mk0)), rfl, bel.frame _, fun h => by cases h⟩
theorem over : Rows.addrsetNormalRow.holds Try.pinned (OpenSpec.ofChange Rows.addrsetNormalSpec) :=
  OpenClaim.holds_of_wide 9 Try.f9 rfl rfl rfl rfl rfl rfl rfl ⟨rfl, rfl, rfl, rfl, rfl⟩ rfl rfl rfl rfl rfl (by kernel_rfl) Try.func9 (by kernel_rfl)
    (of_decide_eq_true (by kernel_rfl)) (by unfold Func.isWrapper; first | (rw [if_pos (by decide +kernel)]; kernel_rfl) | (rw [if_neg (by decide +kernel)]; exact ⟨rfl, rfl⟩))
    (fun os started H enc _ => lifted os started H enc)
theorem proved : Rows.AddrsetNormalSaid := over
#print axioms proved
end Go.Proofs.Ytcgfpffgiimgmaa.addrsetNormal
namespace Go.Proofs.Ytcgfpffgiimgmaa
theorem addrsetNormal_holds : Rows.AddrsetNormalSaid := addrsetNormal.proved
end Go.Proofs.Ytcgfpffgiimgmaa
end
