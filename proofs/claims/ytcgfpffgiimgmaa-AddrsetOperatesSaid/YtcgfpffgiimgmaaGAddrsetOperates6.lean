/- The law AddrsetOperates answers true for every input and leaves its arguments as they were. No condition. (Part 6 of 6: the kit's printed words and walks, hand-made contracts and plain laws, joined in build order, without what the theorem does not reach.) -/
import Derived.Deep.Slices
import Derived.ChangeArms
import Derived.WideShapes
import Derived.DataElems
import Derived.IntWalk
import Derived.Shelf.Abstract
import Derived.Test.YtcgfpffgiimgmaaRows
import Derived.WalkKit
import Derived.ProofKit
import Derived.OpenShut
import Derived.ShutString
import Derived.ChangeOld
import Derived.Below
import Derived.SizedLaws
import Derived.Carry
import Derived.Test.YtcgfpffgiimgmaaGAddrsetOperates5
section
namespace Go.Proofs.Ytcgfpffgiimgmaa.Q
open Go.RowKit Go.Proofs.YtcgfpffgiimgmaaW.PrintWords Go.Proofs.YtcgfpffgiimgmaaW.PrintLast Go.Proofs.YtcgfpffgiimgmaaW.PrintMore
attribute [local go_sem] max2_int min2_int max_two min_two max_three min_three max_four min_four
set_option linter.unusedVariables false
set_option linter.unusedSimpArgs false
def intrusionlaw07_AddrsetOperates.f (k : Nat) (l0 : List (S66)) (l1 : List (S66)) : Option (Bool) := (intrusionlaw07_few.f l0 l1).bind fun t953 => (if t953 = true then ((addrset_Union.f k l0 l1).bind fun t955 => ((intrusionref07_Union.f k l0 l1).bind fun t958 => ((intrusionref07_Same.f k t955 t958).bind fun t961 => (if t961 = true then ((addrset_Intersect.f k l0 l1).bind fun t962 => ((intrusionref07_Intersect.f k l0 l1).bind fun t965 => ((intrusionref07_Same.f k t962 t965).bind fun t968 => (if t968 = true then ((addrset_Minus.f k l0 l1).bind fun t969 => ((intrusionref07_Minus.f k l0 l1).bind fun t972 => ((intrusionref07_Same.f k t969 t972).bind fun t975 => (if t975 = true then ((addrset_Subset.f k l0 l1).bind fun t976 => ((intrusionref07_Subset.f k l0 l1).bind fun t977 => (if (t976 == t977) = true then ((intrusionlaw07_awake.f k).bind fun t978 => (some t978)) else (some false)))) else (some false))))) else (some false))))) else (some false))))) else ((intrusionlaw07_awake.f k).bind fun t954 => (some t954)))
theorem intrusionlaw07_AddrsetOperates.mono : ∀ a0 a1 k, LeO (intrusionlaw07_AddrsetOperates.f k a0 a1) (intrusionlaw07_AddrsetOperates.f (k + 1) a0 a1) := by
  intro a0 a1 k
  unfold intrusionlaw07_AddrsetOperates.f
  repeat' first
      | (with_reducible exact addrset_Intersect.mono _ _ _)
      | (with_reducible exact addrset_Minus.mono _ _ _)
      | (with_reducible exact addrset_Subset.mono _ _ _)
      | (with_reducible exact addrset_Union.mono _ _ _)
      | (with_reducible exact intrusionlaw07_awake.mono _)
      | (with_reducible exact intrusionref07_Intersect.mono _ _ _)
      | (with_reducible exact intrusionref07_Minus.mono _ _ _)
      | (with_reducible exact intrusionref07_Same.mono _ _ _)
      | (with_reducible exact intrusionref07_Subset.mono _ _ _)
      | (with_reducible exact intrusionref07_Union.mono _ _ _)
      | (with_reducible exact LeO.refl _)
      | (with_reducible exact LeO.none _)
      | (with_reducible refine LeO.ite ?_ ?_)
      | (with_reducible refine LeO.bind ?_ (fun _ => ?_))
      | exact addrset_Intersect.mono _ _ _
      | exact addrset_Minus.mono _ _ _
      | exact addrset_Subset.mono _ _ _
      | exact addrset_Union.mono _ _ _
      | exact intrusionlaw07_awake.mono _
      | exact intrusionref07_Intersect.mono _ _ _
      | exact intrusionref07_Minus.mono _ _ _
      | exact intrusionref07_Same.mono _ _ _
      | exact intrusionref07_Subset.mono _ _ _
      | exact intrusionref07_Union.mono _ _ _
      | exact LeO.none _
      | refine LeO.ite ?_ ?_
      | refine LeO.bind ?_ (fun _ => ?_)
set_option maxHeartbeats 8000000 in
set_option maxRecDepth 100000 in
theorem intrusionlaw07_AddrsetOperates.calls (k : Nat) (A0 : Option Addr) (c0 : Nat) (l0 : List (S66)) (A1 : Option Addr) (c1 : Nat) (l1 : List (S66)) (r : Bool) (w : World) (hr0 : Kd.C k66 w A0 l0.length l0) (hc0 : l0.length ≤ c0) (hr1 : Kd.C k66 w A1 l1.length l1) (hc1 : l1.length ≤ c1) (h : intrusionlaw07_AddrsetOperates.f k l0 l1 = some r) :
 Calls Try.prog 12 #[.slice A0 l0.length c0, .slice A1 l1.length c1] w fun e w' => e = .returned (.bool r) ∧ Below w.heap.size w w' := by
 have HR0 := Aside0.mk hr0
 have HC0 := Aside0.mk hc0
 clear hr0 hc0
 have HR1 := Aside0.mk hr1
 have HC1 := Aside0.mk hc1
 clear hr1 hc1
 have HB := Aside0.mk (Below.refl w.heap.size w)
 unfold intrusionlaw07_AddrsetOperates.f at h; have H := h
 clear h
 replace H := Option.bind_eq_some_iff.mp H
 obtain ⟨t953, A30, H⟩ := H
 try dsimp only at H
 have A3 := Aside0.mk A30
 clear A30
 by_cases c4 : t953 = true
 · subst c4
   rw [if_pos rfl] at H
   replace H := Option.bind_eq_some_iff.mp H
   obtain ⟨t955, A50, H⟩ := H
   try dsimp only at H
   have A5 := Aside0.mk A50
   clear A50
   replace H := Option.bind_eq_some_iff.mp H
   obtain ⟨t958, A60, H⟩ := H
   try dsimp only at H
   have A6 := Aside0.mk A60
   clear A60
   replace H := Option.bind_eq_some_iff.mp H
   obtain ⟨t961, A70, H⟩ := H
   try dsimp only at H
   have A7 := Aside0.mk A70
   clear A70
   by_cases c8 : t961 = true
   · subst c8
     rw [if_pos rfl] at H
     replace H := Option.bind_eq_some_iff.mp H
     obtain ⟨t962, A90, H⟩ := H
     try dsimp only at H
     have A9 := Aside0.mk A90
     clear A90
     replace H := Option.bind_eq_some_iff.mp H
     obtain ⟨t965, A100, H⟩ := H
     try dsimp only at H
     have A10 := Aside0.mk A100
     clear A100
     replace H := Option.bind_eq_some_iff.mp H
     obtain ⟨t968, A110, H⟩ := H
     try dsimp only at H
     have A11 := Aside0.mk A110
     clear A110
     by_cases c12 : t968 = true
     · subst c12
       rw [if_pos rfl] at H
       replace H := Option.bind_eq_some_iff.mp H
       obtain ⟨t969, A130, H⟩ := H
       try dsimp only at H
       have A13 := Aside0.mk A130
       clear A130
       replace H := Option.bind_eq_some_iff.mp H
       obtain ⟨t972, A140, H⟩ := H
       try dsimp only at H
       have A14 := Aside0.mk A140
       clear A140
       replace H := Option.bind_eq_some_iff.mp H
       obtain ⟨t975, A150, H⟩ := H
       try dsimp only at H
       have A15 := Aside0.mk A150
       clear A150
       by_cases c16 : t975 = true
       · subst c16
         rw [if_pos rfl] at H
         replace H := Option.bind_eq_some_iff.mp H
         obtain ⟨t976, A170, H⟩ := H
         try dsimp only at H
         have A17 := Aside0.mk A170
         clear A170
         replace H := Option.bind_eq_some_iff.mp H
         obtain ⟨t977, A180, H⟩ := H
         try dsimp only at H
         have A18 := Aside0.mk A180
         clear A180
         by_cases c19 : (t976 == t977) = true
         · rw [if_pos c19] at H
           have c19b0 : (t976 == t977) = true := c19
           (try (have c19b1 : decide (t976 = t977) = true := by first | (simpa using c19) | exact decide_eq_true (Decidable.not_not.1 (fun hn => c19 (bne_iff_ne.2 hn))) | exact beq_iff_eq.2 (Decidable.not_not.1 (fun hn => c19 (bne_iff_ne.2 hn))) | exact decide_eq_false (bne_iff_ne.1 c19) | exact beq_eq_false_iff_ne.2 (bne_iff_ne.1 c19) | exact bne_iff_ne.1 c19))
           (try (have c19b2 : (t976 == t977) = true := by first | (simpa using c19) | exact decide_eq_true (Decidable.not_not.1 (fun hn => c19 (bne_iff_ne.2 hn))) | exact beq_iff_eq.2 (Decidable.not_not.1 (fun hn => c19 (bne_iff_ne.2 hn))) | exact decide_eq_false (bne_iff_ne.1 c19) | exact beq_eq_false_iff_ne.2 (bne_iff_ne.1 c19) | exact bne_iff_ne.1 c19))
           clear c19
           replace H := Option.bind_eq_some_iff.mp H
           obtain ⟨t978, A200, H⟩ := H
           try dsimp only at H
           have A20 := Aside0.mk A200
           clear A200
           obtain rfl := Option.some.inj H
           go_enter Try.func12, Try.ntmps12
           go_wp2_with (first | ((with_reducible refine gate_callee (f := 35) rfl ?_); refine goesL_ (some 7) rfl rfl Try.func35 (by kernel_rfl) rfl #[.slice A0 l0.length c0, .slice A1 l1.length c1] rfl (by (try simp only [List.map_toArray, List.map_cons, List.map_nil]); first | done | rfl | (simp only [List.length_drop, List.length_take]; rfl)) ?_; (with_reducible refine (intrusionlaw07_few.calls _ _ l0 _ _ l1 true _ ?side1 ?side2 ?side3 ?side4 A3.out).mono ?_); (case side1 => repeat (first | exact HR0.out | (with_reducible refine Kd.C_alloc ?_ _) | (with_reducible refine Kd.C_drewN ?_ _) | (with_reducible refine Kd.C_drew ?_))); (case side2 => exact HC0.out); (case side3 => repeat (first | exact HR1.out | (with_reducible refine Kd.C_alloc ?_ _) | (with_reducible refine Kd.C_drewN ?_ _) | (with_reducible refine Kd.C_drew ?_))); (case side4 => exact HC1.out); rintro e w' ⟨rfl, ⟨nd, rfl⟩⟩; refine ⟨_, rfl, ?_⟩) | ((with_reducible refine gate_callee (f := 52) rfl ?_); refine goesL_ (some 12) rfl rfl Try.func52 (by kernel_rfl) rfl #[.slice A0 l0.length c0, .slice A1 l1.length c1] rfl (by (try simp only [List.map_toArray, List.map_cons, List.map_nil]); first | done | rfl | (simp only [List.length_drop, List.length_take]; rfl)) ?_; (with_reducible refine (addrset_Union.calls k (fun k_ => k_ < w.heap.size) _ _ l0 (fun k_ => k_ < w.heap.size) _ _ l1 t955 _ ?side1 ?side2 A5.out).mono ?_); (case side1 => exact Kd.V_mk HC0.out (Kd.F_below (Kd.C_F k66_heap HR0.out) (zB HB))); (case side2 => exact Kd.V_mk HC1.out (Kd.F_below (Kd.C_F k66_heap HR1.out) (zB HB))); rintro e w21 ⟨v956, rfl, ho0, hb⟩; refine ⟨_, rfl, ?_⟩; have HO957 := Aside0.mk (Kd.R_lower (Kd.R_mono (ok' := fun k_ => True) ho0 (fun _ hk_ => trivial)) (below_size (zB HB))); replace HB := Aside0.mk (below_step (zB HB) hb); (try clear hb); (try clear ho0)) | ((with_reducible refine gate_callee (f := 53) rfl ?_); refine goesL_ (some 15) rfl rfl Try.func53 (by kernel_rfl) rfl #[.slice A0 l0.length c0, .slice A1 l1.length c1] rfl (by (try simp only [List.map_toArray, List.map_cons, List.map_nil]); first | done | rfl | (simp only [List.length_drop, List.length_take]; rfl)) ?_; (with_reducible refine (intrusionref07_Union.calls k _ _ l0 _ _ l1 t958 _ ?side1 ?side2 ?side3 ?side4 A6.out).mono ?_); (case side1 => repeat (first | exact (Kd.C_below HR0.out HB.out) | (with_reducible refine Kd.C_alloc ?_ _) | (with_reducible refine Kd.C_drewN ?_ _) | (with_reducible refine Kd.C_drew ?_))); (case side2 => exact HC0.out); (case side3 => repeat (first | exact (Kd.C_below HR1.out HB.out) | (with_reducible refine Kd.C_alloc ?_ _) | (with_reducible refine Kd.C_drewN ?_ _) | (with_reducible refine Kd.C_drew ?_))); (case side4 => exact HC1.out); rintro e w22 ⟨v959, rfl, ho0, hb⟩; refine ⟨_, rfl, ?_⟩; have HO960 := Aside0.mk (Kd.R_lower (Kd.R_new' ho0 (Kd.R_lt (zR HO957))) (below_size (zB HB))); replace HO957 := Aside0.mk (Kd.R_elder' (zR HO957) (Kd.R_base ho0) hb); replace HB := Aside0.mk (below_step (zB HB) hb); (try clear hb); (try clear ho0); obtain ⟨Ao23, co23, eo23⟩ := Kd.R_slice HO957.out; subst eo23; obtain ⟨Ao24, co24, eo24⟩ := Kd.R_slice HO960.out; subst eo24) | ((with_reducible refine gate_callee (f := 37) rfl ?_); refine goesL_ (some 16) rfl rfl Try.func37 (by kernel_rfl) rfl #[.slice Ao23 t955.length co23, .slice Ao24 t958.length co24] rfl (by (try simp only [List.map_toArray, List.map_cons, List.map_nil]); first | done | rfl | (simp only [List.length_drop, List.length_take]; rfl)) ?_; (with_reducible refine (intrusionref07_Same.calls k _ _ t955 _ _ t958 true _ ?side1 ?side2 ?side3 ?side4 A7.out).mono ?_); (case side1 => repeat (first | exact (Kd.R_reads' HO957.out).2.2 | (with_reducible refine Kd.C_alloc ?_ _) | (with_reducible refine Kd.C_drewN ?_ _) | (with_reducible refine Kd.C_drew ?_))); (case side2 => exact (Kd.R_reads' HO957.out).2.1); (case side3 => repeat (first | exact (Kd.R_reads' HO960.out).2.2 | (with_reducible refine Kd.C_alloc ?_ _) | (with_reducible refine Kd.C_drewN ?_ _) | (with_reducible refine Kd.C_drew ?_))); (case side4 => exact (Kd.R_reads' HO960.out).2.1); rintro e w' ⟨rfl, ⟨nd, rfl⟩⟩; refine ⟨_, rfl, ?_⟩) | (go_at_call 54; (with_reducible refine (addrset_Intersect.calls k _ _ l0 _ _ l1 t962 _ ?side1 ?side2 ?side3 ?side4 A9.out).mono ?_); (case side1 => repeat (first | exact (Kd.C_below HR0.out (zB HB)) | (with_reducible refine Kd.C_alloc ?_ _) | (with_reducible refine Kd.C_drewN ?_ _) | (with_reducible refine Kd.C_drew ?_))); (case side2 => exact HC0.out); (case side3 => repeat (first | exact (Kd.C_below HR1.out (zB HB)) | (with_reducible refine Kd.C_alloc ?_ _) | (with_reducible refine Kd.C_drewN ?_ _) | (with_reducible refine Kd.C_drew ?_))); (case side4 => exact HC1.out); rintro e w25 ⟨v963, rfl, ho0, hb⟩; have HO964 := Aside0.mk (Kd.R_lower (Kd.R_new' (Kd.R_new' ho0 (Kd.R_lt (zR HO957))) (Kd.R_lt (zR HO960))) (below_size (zB HB))); replace HO957 := Aside0.mk (Kd.R_elder' (zR HO957) (Kd.R_base ho0) hb); replace HO960 := Aside0.mk (Kd.R_elder' (zR HO960) (Kd.R_base ho0) hb); replace HB := Aside0.mk (below_step (zB HB) hb); (try clear hb); (try clear ho0)) | (go_at_call 55; (with_reducible refine (intrusionref07_Intersect.calls k _ _ l0 _ _ l1 t965 _ ?side1 ?side2 ?side3 ?side4 A10.out).mono ?_); (case side1 => repeat (first | exact (Kd.C_below HR0.out HB.out) | (with_reducible refine Kd.C_alloc ?_ _) | (with_reducible refine Kd.C_drewN ?_ _) | (with_reducible refine Kd.C_drew ?_))); (case side2 => exact HC0.out); (case side3 => repeat (first | exact (Kd.C_below HR1.out HB.out) | (with_reducible refine Kd.C_alloc ?_ _) | (with_reducible refine Kd.C_drewN ?_ _) | (with_reducible refine Kd.C_drew ?_))); (case side4 => exact HC1.out); rintro e w26 ⟨v966, rfl, ho0, hb⟩; have HO967 := Aside0.mk (Kd.R_lower (Kd.R_new' (Kd.R_new' (Kd.R_new' ho0 (Kd.R_lt (zR HO957))) (Kd.R_lt (zR HO960))) (Kd.R_lt (zR HO964))) (below_size (zB HB))); replace HO957 := Aside0.mk (Kd.R_elder' (zR HO957) (Kd.R_base ho0) hb); replace HO960 := Aside0.mk (Kd.R_elder' (zR HO960) (Kd.R_base ho0) hb); replace HO964 := Aside0.mk (Kd.R_elder' (zR HO964) (Kd.R_base ho0) hb); replace HB := Aside0.mk (below_step (zB HB) hb); (try clear hb); (try clear ho0); obtain ⟨Ao27, co27, eo27⟩ := Kd.R_slice HO964.out; subst eo27; obtain ⟨Ao28, co28, eo28⟩ := Kd.R_slice HO967.out; subst eo28) | (go_at_call 37; (with_reducible refine (intrusionref07_Same.calls k _ _ t962 _ _ t965 true _ ?side1 ?side2 ?side3 ?side4 A11.out).mono ?_); (case side1 => repeat (first | exact (Kd.R_reads' HO964.out).2.2 | (with_reducible refine Kd.C_alloc ?_ _) | (with_reducible refine Kd.C_drewN ?_ _) | (with_reducible refine Kd.C_drew ?_))); (case side2 => exact (Kd.R_reads' HO964.out).2.1); (case side3 => repeat (first | exact (Kd.R_reads' HO967.out).2.2 | (with_reducible refine Kd.C_alloc ?_ _) | (with_reducible refine Kd.C_drewN ?_ _) | (with_reducible refine Kd.C_drew ?_))); (case side4 => exact (Kd.R_reads' HO967.out).2.1); rintro e w' ⟨rfl, ⟨nd, rfl⟩⟩) | (go_at_call 56; (with_reducible refine (addrset_Minus.calls k _ _ l0 _ _ l1 t969 _ ?side1 ?side2 ?side3 ?side4 A13.out).mono ?_); (case side1 => repeat (first | exact (Kd.C_below HR0.out (zB HB)) | (with_reducible refine Kd.C_alloc ?_ _) | (with_reducible refine Kd.C_drewN ?_ _) | (with_reducible refine Kd.C_drew ?_))); (case side2 => exact HC0.out); (case side3 => repeat (first | exact (Kd.C_below HR1.out (zB HB)) | (with_reducible refine Kd.C_alloc ?_ _) | (with_reducible refine Kd.C_drewN ?_ _) | (with_reducible refine Kd.C_drew ?_))); (case side4 => exact HC1.out); rintro e w29 ⟨v970, rfl, ho0, hb⟩; have HO971 := Aside0.mk (Kd.R_lower (Kd.R_new' (Kd.R_new' (Kd.R_new' (Kd.R_new' ho0 (Kd.R_lt (zR HO957))) (Kd.R_lt (zR HO960))) (Kd.R_lt (zR HO964))) (Kd.R_lt (zR HO967))) (below_size (zB HB))); replace HO957 := Aside0.mk (Kd.R_elder' (zR HO957) (Kd.R_base ho0) hb); replace HO960 := Aside0.mk (Kd.R_elder' (zR HO960) (Kd.R_base ho0) hb); replace HO964 := Aside0.mk (Kd.R_elder' (zR HO964) (Kd.R_base ho0) hb); replace HO967 := Aside0.mk (Kd.R_elder' (zR HO967) (Kd.R_base ho0) hb); replace HB := Aside0.mk (below_step (zB HB) hb); (try clear hb); (try clear ho0)) | (go_at_call 57; (with_reducible refine (intrusionref07_Minus.calls k _ _ l0 _ _ l1 t972 _ ?side1 ?side2 ?side3 ?side4 A14.out).mono ?_); (case side1 => repeat (first | exact (Kd.C_below HR0.out HB.out) | (with_reducible refine Kd.C_alloc ?_ _) | (with_reducible refine Kd.C_drewN ?_ _) | (with_reducible refine Kd.C_drew ?_))); (case side2 => exact HC0.out); (case side3 => repeat (first | exact (Kd.C_below HR1.out HB.out) | (with_reducible refine Kd.C_alloc ?_ _) | (with_reducible refine Kd.C_drewN ?_ _) | (with_reducible refine Kd.C_drew ?_))); (case side4 => exact HC1.out); rintro e w30 ⟨v973, rfl, ho0, hb⟩; have HO974 := Aside0.mk (Kd.R_lower (Kd.R_new' (Kd.R_new' (Kd.R_new' (Kd.R_new' (Kd.R_new' ho0 (Kd.R_lt (zR HO957))) (Kd.R_lt (zR HO960))) (Kd.R_lt (zR HO964))) (Kd.R_lt (zR HO967))) (Kd.R_lt (zR HO971))) (below_size (zB HB))); replace HO957 := Aside0.mk (Kd.R_elder' (zR HO957) (Kd.R_base ho0) hb); replace HO960 := Aside0.mk (Kd.R_elder' (zR HO960) (Kd.R_base ho0) hb); replace HO964 := Aside0.mk (Kd.R_elder' (zR HO964) (Kd.R_base ho0) hb); replace HO967 := Aside0.mk (Kd.R_elder' (zR HO967) (Kd.R_base ho0) hb); replace HO971 := Aside0.mk (Kd.R_elder' (zR HO971) (Kd.R_base ho0) hb); replace HB := Aside0.mk (below_step (zB HB) hb); (try clear hb); (try clear ho0); obtain ⟨Ao31, co31, eo31⟩ := Kd.R_slice HO971.out; subst eo31; obtain ⟨Ao32, co32, eo32⟩ := Kd.R_slice HO974.out; subst eo32) | (go_at_call 37; (with_reducible refine (intrusionref07_Same.calls k _ _ t969 _ _ t972 true _ ?side1 ?side2 ?side3 ?side4 A15.out).mono ?_); (case side1 => repeat (first | exact (Kd.R_reads' HO971.out).2.2 | (with_reducible refine Kd.C_alloc ?_ _) | (with_reducible refine Kd.C_drewN ?_ _) | (with_reducible refine Kd.C_drew ?_))); (case side2 => exact (Kd.R_reads' HO971.out).2.1); (case side3 => repeat (first | exact (Kd.R_reads' HO974.out).2.2 | (with_reducible refine Kd.C_alloc ?_ _) | (with_reducible refine Kd.C_drewN ?_ _) | (with_reducible refine Kd.C_drew ?_))); (case side4 => exact (Kd.R_reads' HO974.out).2.1); rintro e w' ⟨rfl, ⟨nd, rfl⟩⟩) | (go_at_call 58; (with_reducible refine (addrset_Subset.calls k _ _ l0 _ _ l1 t976 _ ?side1 ?side2 ?side3 ?side4 A17.out).mono ?_); (case side1 => repeat (first | exact (Kd.C_below HR0.out (zB HB)) | (with_reducible refine Kd.C_alloc ?_ _) | (with_reducible refine Kd.C_drewN ?_ _) | (with_reducible refine Kd.C_drew ?_))); (case side2 => exact HC0.out); (case side3 => repeat (first | exact (Kd.C_below HR1.out (zB HB)) | (with_reducible refine Kd.C_alloc ?_ _) | (with_reducible refine Kd.C_drewN ?_ _) | (with_reducible refine Kd.C_drew ?_))); (case side4 => exact HC1.out); rintro e w33 ⟨rfl, hb⟩; replace HO957 := Aside0.mk (Kd.R_below (zR HO957) hb); replace HO960 := Aside0.mk (Kd.R_below (zR HO960) hb); replace HO964 := Aside0.mk (Kd.R_below (zR HO964) hb); replace HO967 := Aside0.mk (Kd.R_below (zR HO967) hb); replace HO971 := Aside0.mk (Kd.R_below (zR HO971) hb); replace HO974 := Aside0.mk (Kd.R_below (zR HO974) hb); replace HB := Aside0.mk (below_step (zB HB) hb); (try clear hb)) | (go_at_call 59; (with_reducible refine (intrusionref07_Subset.calls k _ _ l0 _ _ l1 t977 _ ?side1 ?side2 ?side3 ?side4 A18.out).mono ?_); (case side1 => repeat (first | exact (Kd.C_below HR0.out HB.out) | (with_reducible refine Kd.C_alloc ?_ _) | (with_reducible refine Kd.C_drewN ?_ _) | (with_reducible refine Kd.C_drew ?_))); (case side2 => exact HC0.out); (case side3 => repeat (first | exact (Kd.C_below HR1.out HB.out) | (with_reducible refine Kd.C_alloc ?_ _) | (with_reducible refine Kd.C_drewN ?_ _) | (with_reducible refine Kd.C_drew ?_))); (case side4 => exact HC1.out); rintro e w34 ⟨rfl, hb⟩; replace HO957 := Aside0.mk (Kd.R_below (zR HO957) hb); replace HO960 := Aside0.mk (Kd.R_below (zR HO960) hb); replace HO964 := Aside0.mk (Kd.R_below (zR HO964) hb); replace HO967 := Aside0.mk (Kd.R_below (zR HO967) hb); replace HO971 := Aside0.mk (Kd.R_below (zR HO971) hb); replace HO974 := Aside0.mk (Kd.R_below (zR HO974) hb); replace HB := Aside0.mk (below_step (zB HB) hb); (try clear hb)) | (go_at_call 36; (with_reducible refine (intrusionlaw07_awake.calls k  t978 _ A20.out).mono ?_); rintro e w35 ⟨rfl, hb⟩; replace HO957 := Aside0.mk (Kd.R_below (zR HO957) hb); replace HO960 := Aside0.mk (Kd.R_below (zR HO960) hb); replace HO964 := Aside0.mk (Kd.R_below (zR HO964) hb); replace HO967 := Aside0.mk (Kd.R_below (zR HO967) hb); replace HO971 := Aside0.mk (Kd.R_below (zR HO971) hb); replace HO974 := Aside0.mk (Kd.R_below (zR HO974) hb); replace HB := Aside0.mk (below_step (zB HB) hb); (try clear hb)))
           go_ret
           exact ⟨by first | rfl | (simp [errW_none, errW_some] <;> rfl) | (simp [*, errW_none, errW_some] <;> rfl), by repeat (first | (with_reducible first | exact HB.out | apply below_alloc | apply pw_below_drewN | apply below_drew1) | exact HB.out)⟩
         · rw [if_neg c19] at H
           have c19b0 : (t976 == t977) = false := by simpa using c19
           (try (have c19b1 : decide (t976 = t977) = false := by first | (simpa using c19) | exact decide_eq_true (Decidable.not_not.1 (fun hn => c19 (bne_iff_ne.2 hn))) | exact beq_iff_eq.2 (Decidable.not_not.1 (fun hn => c19 (bne_iff_ne.2 hn))) | exact decide_eq_false (bne_iff_ne.1 c19) | exact beq_eq_false_iff_ne.2 (bne_iff_ne.1 c19) | exact bne_iff_ne.1 c19))
           (try (have c19b2 : (t976 == t977) = false := by first | (simpa using c19) | exact decide_eq_true (Decidable.not_not.1 (fun hn => c19 (bne_iff_ne.2 hn))) | exact beq_iff_eq.2 (Decidable.not_not.1 (fun hn => c19 (bne_iff_ne.2 hn))) | exact decide_eq_false (bne_iff_ne.1 c19) | exact beq_eq_false_iff_ne.2 (bne_iff_ne.1 c19) | exact bne_iff_ne.1 c19))
           (try (have c19b3 : ¬ (t976 = t977) := by first | (simpa using c19) | exact decide_eq_true (Decidable.not_not.1 (fun hn => c19 (bne_iff_ne.2 hn))) | exact beq_iff_eq.2 (Decidable.not_not.1 (fun hn => c19 (bne_iff_ne.2 hn))) | exact decide_eq_false (bne_iff_ne.1 c19) | exact beq_eq_false_iff_ne.2 (bne_iff_ne.1 c19) | exact bne_iff_ne.1 c19))
           clear c19
           obtain rfl := Option.some.inj H
           go_enter Try.func12, Try.ntmps12
           go_wp2_with (first | ((with_reducible refine gate_callee (f := 35) rfl ?_); refine goesL_ (some 7) rfl rfl Try.func35 (by kernel_rfl) rfl #[.slice A0 l0.length c0, .slice A1 l1.length c1] rfl (by (try simp only [List.map_toArray, List.map_cons, List.map_nil]); first | done | rfl | (simp only [List.length_drop, List.length_take]; rfl)) ?_; (with_reducible refine (intrusionlaw07_few.calls _ _ l0 _ _ l1 true _ ?side1 ?side2 ?side3 ?side4 A3.out).mono ?_); (case side1 => repeat (first | exact HR0.out | (with_reducible refine Kd.C_alloc ?_ _) | (with_reducible refine Kd.C_drewN ?_ _) | (with_reducible refine Kd.C_drew ?_))); (case side2 => exact HC0.out); (case side3 => repeat (first | exact HR1.out | (with_reducible refine Kd.C_alloc ?_ _) | (with_reducible refine Kd.C_drewN ?_ _) | (with_reducible refine Kd.C_drew ?_))); (case side4 => exact HC1.out); rintro e w' ⟨rfl, ⟨nd, rfl⟩⟩; refine ⟨_, rfl, ?_⟩) | ((with_reducible refine gate_callee (f := 52) rfl ?_); refine goesL_ (some 12) rfl rfl Try.func52 (by kernel_rfl) rfl #[.slice A0 l0.length c0, .slice A1 l1.length c1] rfl (by (try simp only [List.map_toArray, List.map_cons, List.map_nil]); first | done | rfl | (simp only [List.length_drop, List.length_take]; rfl)) ?_; (with_reducible refine (addrset_Union.calls k (fun k_ => k_ < w.heap.size) _ _ l0 (fun k_ => k_ < w.heap.size) _ _ l1 t955 _ ?side1 ?side2 A5.out).mono ?_); (case side1 => exact Kd.V_mk HC0.out (Kd.F_below (Kd.C_F k66_heap HR0.out) (zB HB))); (case side2 => exact Kd.V_mk HC1.out (Kd.F_below (Kd.C_F k66_heap HR1.out) (zB HB))); rintro e w36 ⟨v956, rfl, ho0, hb⟩; refine ⟨_, rfl, ?_⟩; have HO957 := Aside0.mk (Kd.R_lower (Kd.R_mono (ok' := fun k_ => True) ho0 (fun _ hk_ => trivial)) (below_size (zB HB))); replace HB := Aside0.mk (below_step (zB HB) hb); (try clear hb); (try clear ho0)) | ((with_reducible refine gate_callee (f := 53) rfl ?_); refine goesL_ (some 15) rfl rfl Try.func53 (by kernel_rfl) rfl #[.slice A0 l0.length c0, .slice A1 l1.length c1] rfl (by (try simp only [List.map_toArray, List.map_cons, List.map_nil]); first | done | rfl | (simp only [List.length_drop, List.length_take]; rfl)) ?_; (with_reducible refine (intrusionref07_Union.calls k _ _ l0 _ _ l1 t958 _ ?side1 ?side2 ?side3 ?side4 A6.out).mono ?_); (case side1 => repeat (first | exact (Kd.C_below HR0.out HB.out) | (with_reducible refine Kd.C_alloc ?_ _) | (with_reducible refine Kd.C_drewN ?_ _) | (with_reducible refine Kd.C_drew ?_))); (case side2 => exact HC0.out); (case side3 => repeat (first | exact (Kd.C_below HR1.out HB.out) | (with_reducible refine Kd.C_alloc ?_ _) | (with_reducible refine Kd.C_drewN ?_ _) | (with_reducible refine Kd.C_drew ?_))); (case side4 => exact HC1.out); rintro e w37 ⟨v959, rfl, ho0, hb⟩; refine ⟨_, rfl, ?_⟩; have HO960 := Aside0.mk (Kd.R_lower (Kd.R_new' ho0 (Kd.R_lt (zR HO957))) (below_size (zB HB))); replace HO957 := Aside0.mk (Kd.R_elder' (zR HO957) (Kd.R_base ho0) hb); replace HB := Aside0.mk (below_step (zB HB) hb); (try clear hb); (try clear ho0); obtain ⟨Ao38, co38, eo38⟩ := Kd.R_slice HO957.out; subst eo38; obtain ⟨Ao39, co39, eo39⟩ := Kd.R_slice HO960.out; subst eo39) | ((with_reducible refine gate_callee (f := 37) rfl ?_); refine goesL_ (some 16) rfl rfl Try.func37 (by kernel_rfl) rfl #[.slice Ao38 t955.length co38, .slice Ao39 t958.length co39] rfl (by (try simp only [List.map_toArray, List.map_cons, List.map_nil]); first | done | rfl | (simp only [List.length_drop, List.length_take]; rfl)) ?_; (with_reducible refine (intrusionref07_Same.calls k _ _ t955 _ _ t958 true _ ?side1 ?side2 ?side3 ?side4 A7.out).mono ?_); (case side1 => repeat (first | exact (Kd.R_reads' HO957.out).2.2 | (with_reducible refine Kd.C_alloc ?_ _) | (with_reducible refine Kd.C_drewN ?_ _) | (with_reducible refine Kd.C_drew ?_))); (case side2 => exact (Kd.R_reads' HO957.out).2.1); (case side3 => repeat (first | exact (Kd.R_reads' HO960.out).2.2 | (with_reducible refine Kd.C_alloc ?_ _) | (with_reducible refine Kd.C_drewN ?_ _) | (with_reducible refine Kd.C_drew ?_))); (case side4 => exact (Kd.R_reads' HO960.out).2.1); rintro e w' ⟨rfl, ⟨nd, rfl⟩⟩; refine ⟨_, rfl, ?_⟩) | (go_at_call 54; (with_reducible refine (addrset_Intersect.calls k _ _ l0 _ _ l1 t962 _ ?side1 ?side2 ?side3 ?side4 A9.out).mono ?_); (case side1 => repeat (first | exact (Kd.C_below HR0.out (zB HB)) | (with_reducible refine Kd.C_alloc ?_ _) | (with_reducible refine Kd.C_drewN ?_ _) | (with_reducible refine Kd.C_drew ?_))); (case side2 => exact HC0.out); (case side3 => repeat (first | exact (Kd.C_below HR1.out (zB HB)) | (with_reducible refine Kd.C_alloc ?_ _) | (with_reducible refine Kd.C_drewN ?_ _) | (with_reducible refine Kd.C_drew ?_))); (case side4 => exact HC1.out); rintro e w40 ⟨v963, rfl, ho0, hb⟩; have HO964 := Aside0.mk (Kd.R_lower (Kd.R_new' (Kd.R_new' ho0 (Kd.R_lt (zR HO957))) (Kd.R_lt (zR HO960))) (below_size (zB HB))); replace HO957 := Aside0.mk (Kd.R_elder' (zR HO957) (Kd.R_base ho0) hb); replace HO960 := Aside0.mk (Kd.R_elder' (zR HO960) (Kd.R_base ho0) hb); replace HB := Aside0.mk (below_step (zB HB) hb); (try clear hb); (try clear ho0)) | (go_at_call 55; (with_reducible refine (intrusionref07_Intersect.calls k _ _ l0 _ _ l1 t965 _ ?side1 ?side2 ?side3 ?side4 A10.out).mono ?_); (case side1 => repeat (first | exact (Kd.C_below HR0.out HB.out) | (with_reducible refine Kd.C_alloc ?_ _) | (with_reducible refine Kd.C_drewN ?_ _) | (with_reducible refine Kd.C_drew ?_))); (case side2 => exact HC0.out); (case side3 => repeat (first | exact (Kd.C_below HR1.out HB.out) | (with_reducible refine Kd.C_alloc ?_ _) | (with_reducible refine Kd.C_drewN ?_ _) | (with_reducible refine Kd.C_drew ?_))); (case side4 => exact HC1.out); rintro e w41 ⟨v966, rfl, ho0, hb⟩; have HO967 := Aside0.mk (Kd.R_lower (Kd.R_new' (Kd.R_new' (Kd.R_new' ho0 (Kd.R_lt (zR HO957))) (Kd.R_lt (zR HO960))) (Kd.R_lt (zR HO964))) (below_size (zB HB))); replace HO957 := Aside0.mk (Kd.R_elder' (zR HO957) (Kd.R_base ho0) hb); replace HO960 := Aside0.mk (Kd.R_elder' (zR HO960) (Kd.R_base ho0) hb); replace HO964 := Aside0.mk (Kd.R_elder' (zR HO964) (Kd.R_base ho0) hb); replace HB := Aside0.mk (below_step (zB HB) hb); (try clear hb); (try clear ho0); obtain ⟨Ao42, co42, eo42⟩ := Kd.R_slice HO964.out; subst eo42; obtain ⟨Ao43, co43, eo43⟩ := Kd.R_slice HO967.out; subst eo43) | (go_at_call 37; (with_reducible refine (intrusionref07_Same.calls k _ _ t962 _ _ t965 true _ ?side1 ?side2 ?side3 ?side4 A11.out).mono ?_); (case side1 => repeat (first | exact (Kd.R_reads' HO964.out).2.2 | (with_reducible refine Kd.C_alloc ?_ _) | (with_reducible refine Kd.C_drewN ?_ _) | (with_reducible refine Kd.C_drew ?_))); (case side2 => exact (Kd.R_reads' HO964.out).2.1); (case side3 => repeat (first | exact (Kd.R_reads' HO967.out).2.2 | (with_reducible refine Kd.C_alloc ?_ _) | (with_reducible refine Kd.C_drewN ?_ _) | (with_reducible refine Kd.C_drew ?_))); (case side4 => exact (Kd.R_reads' HO967.out).2.1); rintro e w' ⟨rfl, ⟨nd, rfl⟩⟩) | (go_at_call 56; (with_reducible refine (addrset_Minus.calls k _ _ l0 _ _ l1 t969 _ ?side1 ?side2 ?side3 ?side4 A13.out).mono ?_); (case side1 => repeat (first | exact (Kd.C_below HR0.out (zB HB)) | (with_reducible refine Kd.C_alloc ?_ _) | (with_reducible refine Kd.C_drewN ?_ _) | (with_reducible refine Kd.C_drew ?_))); (case side2 => exact HC0.out); (case side3 => repeat (first | exact (Kd.C_below HR1.out (zB HB)) | (with_reducible refine Kd.C_alloc ?_ _) | (with_reducible refine Kd.C_drewN ?_ _) | (with_reducible refine Kd.C_drew ?_))); (case side4 => exact HC1.out); rintro e w44 ⟨v970, rfl, ho0, hb⟩; have HO971 := Aside0.mk (Kd.R_lower (Kd.R_new' (Kd.R_new' (Kd.R_new' (Kd.R_new' ho0 (Kd.R_lt (zR HO957))) (Kd.R_lt (zR HO960))) (Kd.R_lt (zR HO964))) (Kd.R_lt (zR HO967))) (below_size (zB HB))); replace HO957 := Aside0.mk (Kd.R_elder' (zR HO957) (Kd.R_base ho0) hb); replace HO960 := Aside0.mk (Kd.R_elder' (zR HO960) (Kd.R_base ho0) hb); replace HO964 := Aside0.mk (Kd.R_elder' (zR HO964) (Kd.R_base ho0) hb); replace HO967 := Aside0.mk (Kd.R_elder' (zR HO967) (Kd.R_base ho0) hb); replace HB := Aside0.mk (below_step (zB HB) hb); (try clear hb); (try clear ho0)) | (go_at_call 57; (with_reducible refine (intrusionref07_Minus.calls k _ _ l0 _ _ l1 t972 _ ?side1 ?side2 ?side3 ?side4 A14.out).mono ?_); (case side1 => repeat (first | exact (Kd.C_below HR0.out HB.out) | (with_reducible refine Kd.C_alloc ?_ _) | (with_reducible refine Kd.C_drewN ?_ _) | (with_reducible refine Kd.C_drew ?_))); (case side2 => exact HC0.out); (case side3 => repeat (first | exact (Kd.C_below HR1.out HB.out) | (with_reducible refine Kd.C_alloc ?_ _) | (with_reducible refine Kd.C_drewN ?_ _) | (with_reducible refine Kd.C_drew ?_))); (case side4 => exact HC1.out); rintro e w45 ⟨v973, rfl, ho0, hb⟩; have HO974 := Aside0.mk (Kd.R_lower (Kd.R_new' (Kd.R_new' (Kd.R_new' (Kd.R_new' (Kd.R_new' ho0 (Kd.R_lt (zR HO957))) (Kd.R_lt (zR HO960))) (Kd.R_lt (zR HO964))) (Kd.R_lt (zR HO967))) (Kd.R_lt (zR HO971))) (below_size (zB HB))); replace HO957 := Aside0.mk (Kd.R_elder' (zR HO957) (Kd.R_base ho0) hb); replace HO960 := Aside0.mk (Kd.R_elder' (zR HO960) (Kd.R_base ho0) hb); replace HO964 := Aside0.mk (Kd.R_elder' (zR HO964) (Kd.R_base ho0) hb); replace HO967 := Aside0.mk (Kd.R_elder' (zR HO967) (Kd.R_base ho0) hb); replace HO971 := Aside0.mk (Kd.R_elder' (zR HO971) (Kd.R_base ho0) hb); replace HB := Aside0.mk (below_step (zB HB) hb); (try clear hb); (try clear ho0); obtain ⟨Ao46, co46, eo46⟩ := Kd.R_slice HO971.out; subst eo46; obtain ⟨Ao47, co47, eo47⟩ := Kd.R_slice HO974.out; subst eo47) | (go_at_call 37; (with_reducible refine (intrusionref07_Same.calls k _ _ t969 _ _ t972 true _ ?side1 ?side2 ?side3 ?side4 A15.out).mono ?_); (case side1 => repeat (first | exact (Kd.R_reads' HO971.out).2.2 | (with_reducible refine Kd.C_alloc ?_ _) | (with_reducible refine Kd.C_drewN ?_ _) | (with_reducible refine Kd.C_drew ?_))); (case side2 => exact (Kd.R_reads' HO971.out).2.1); (case side3 => repeat (first | exact (Kd.R_reads' HO974.out).2.2 | (with_reducible refine Kd.C_alloc ?_ _) | (with_reducible refine Kd.C_drewN ?_ _) | (with_reducible refine Kd.C_drew ?_))); (case side4 => exact (Kd.R_reads' HO974.out).2.1); rintro e w' ⟨rfl, ⟨nd, rfl⟩⟩) | (go_at_call 58; (with_reducible refine (addrset_Subset.calls k _ _ l0 _ _ l1 t976 _ ?side1 ?side2 ?side3 ?side4 A17.out).mono ?_); (case side1 => repeat (first | exact (Kd.C_below HR0.out (zB HB)) | (with_reducible refine Kd.C_alloc ?_ _) | (with_reducible refine Kd.C_drewN ?_ _) | (with_reducible refine Kd.C_drew ?_))); (case side2 => exact HC0.out); (case side3 => repeat (first | exact (Kd.C_below HR1.out (zB HB)) | (with_reducible refine Kd.C_alloc ?_ _) | (with_reducible refine Kd.C_drewN ?_ _) | (with_reducible refine Kd.C_drew ?_))); (case side4 => exact HC1.out); rintro e w48 ⟨rfl, hb⟩; replace HO957 := Aside0.mk (Kd.R_below (zR HO957) hb); replace HO960 := Aside0.mk (Kd.R_below (zR HO960) hb); replace HO964 := Aside0.mk (Kd.R_below (zR HO964) hb); replace HO967 := Aside0.mk (Kd.R_below (zR HO967) hb); replace HO971 := Aside0.mk (Kd.R_below (zR HO971) hb); replace HO974 := Aside0.mk (Kd.R_below (zR HO974) hb); replace HB := Aside0.mk (below_step (zB HB) hb); (try clear hb)) | (go_at_call 59; (with_reducible refine (intrusionref07_Subset.calls k _ _ l0 _ _ l1 t977 _ ?side1 ?side2 ?side3 ?side4 A18.out).mono ?_); (case side1 => repeat (first | exact (Kd.C_below HR0.out HB.out) | (with_reducible refine Kd.C_alloc ?_ _) | (with_reducible refine Kd.C_drewN ?_ _) | (with_reducible refine Kd.C_drew ?_))); (case side2 => exact HC0.out); (case side3 => repeat (first | exact (Kd.C_below HR1.out HB.out) | (with_reducible refine Kd.C_alloc ?_ _) | (with_reducible refine Kd.C_drewN ?_ _) | (with_reducible refine Kd.C_drew ?_))); (case side4 => exact HC1.out); rintro e w49 ⟨rfl, hb⟩; replace HO957 := Aside0.mk (Kd.R_below (zR HO957) hb); replace HO960 := Aside0.mk (Kd.R_below (zR HO960) hb); replace HO964 := Aside0.mk (Kd.R_below (zR HO964) hb); replace HO967 := Aside0.mk (Kd.R_below (zR HO967) hb); replace HO971 := Aside0.mk (Kd.R_below (zR HO971) hb); replace HO974 := Aside0.mk (Kd.R_below (zR HO974) hb); replace HB := Aside0.mk (below_step (zB HB) hb); (try clear hb)))
           go_ret
           exact ⟨by first | rfl | (simp [errW_none, errW_some] <;> rfl) | (simp [*, errW_none, errW_some] <;> rfl), by repeat (first | (with_reducible first | exact HB.out | apply below_alloc | apply pw_below_drewN | apply below_drew1) | exact HB.out)⟩
       · replace c16 := Bool.eq_false_iff.mpr c16
         subst c16
         rw [if_neg zF] at H
         obtain rfl := Option.some.inj H
         go_enter Try.func12, Try.ntmps12
         go_wp2_with (first | ((with_reducible refine gate_callee (f := 35) rfl ?_); refine goesL_ (some 7) rfl rfl Try.func35 (by kernel_rfl) rfl #[.slice A0 l0.length c0, .slice A1 l1.length c1] rfl (by (try simp only [List.map_toArray, List.map_cons, List.map_nil]); first | done | rfl | (simp only [List.length_drop, List.length_take]; rfl)) ?_; (with_reducible refine (intrusionlaw07_few.calls _ _ l0 _ _ l1 true _ ?side1 ?side2 ?side3 ?side4 A3.out).mono ?_); (case side1 => repeat (first | exact HR0.out | (with_reducible refine Kd.C_alloc ?_ _) | (with_reducible refine Kd.C_drewN ?_ _) | (with_reducible refine Kd.C_drew ?_))); (case side2 => exact HC0.out); (case side3 => repeat (first | exact HR1.out | (with_reducible refine Kd.C_alloc ?_ _) | (with_reducible refine Kd.C_drewN ?_ _) | (with_reducible refine Kd.C_drew ?_))); (case side4 => exact HC1.out); rintro e w' ⟨rfl, ⟨nd, rfl⟩⟩; refine ⟨_, rfl, ?_⟩) | ((with_reducible refine gate_callee (f := 52) rfl ?_); refine goesL_ (some 12) rfl rfl Try.func52 (by kernel_rfl) rfl #[.slice A0 l0.length c0, .slice A1 l1.length c1] rfl (by (try simp only [List.map_toArray, List.map_cons, List.map_nil]); first | done | rfl | (simp only [List.length_drop, List.length_take]; rfl)) ?_; (with_reducible refine (addrset_Union.calls k (fun k_ => k_ < w.heap.size) _ _ l0 (fun k_ => k_ < w.heap.size) _ _ l1 t955 _ ?side1 ?side2 A5.out).mono ?_); (case side1 => exact Kd.V_mk HC0.out (Kd.F_below (Kd.C_F k66_heap HR0.out) (zB HB))); (case side2 => exact Kd.V_mk HC1.out (Kd.F_below (Kd.C_F k66_heap HR1.out) (zB HB))); rintro e w50 ⟨v956, rfl, ho0, hb⟩; refine ⟨_, rfl, ?_⟩; have HO957 := Aside0.mk (Kd.R_lower (Kd.R_mono (ok' := fun k_ => True) ho0 (fun _ hk_ => trivial)) (below_size (zB HB))); replace HB := Aside0.mk (below_step (zB HB) hb); (try clear hb); (try clear ho0)) | ((with_reducible refine gate_callee (f := 53) rfl ?_); refine goesL_ (some 15) rfl rfl Try.func53 (by kernel_rfl) rfl #[.slice A0 l0.length c0, .slice A1 l1.length c1] rfl (by (try simp only [List.map_toArray, List.map_cons, List.map_nil]); first | done | rfl | (simp only [List.length_drop, List.length_take]; rfl)) ?_; (with_reducible refine (intrusionref07_Union.calls k _ _ l0 _ _ l1 t958 _ ?side1 ?side2 ?side3 ?side4 A6.out).mono ?_); (case side1 => repeat (first | exact (Kd.C_below HR0.out HB.out) | (with_reducible refine Kd.C_alloc ?_ _) | (with_reducible refine Kd.C_drewN ?_ _) | (with_reducible refine Kd.C_drew ?_))); (case side2 => exact HC0.out); (case side3 => repeat (first | exact (Kd.C_below HR1.out HB.out) | (with_reducible refine Kd.C_alloc ?_ _) | (with_reducible refine Kd.C_drewN ?_ _) | (with_reducible refine Kd.C_drew ?_))); (case side4 => exact HC1.out); rintro e w51 ⟨v959, rfl, ho0, hb⟩; refine ⟨_, rfl, ?_⟩; have HO960 := Aside0.mk (Kd.R_lower (Kd.R_new' ho0 (Kd.R_lt (zR HO957))) (below_size (zB HB))); replace HO957 := Aside0.mk (Kd.R_elder' (zR HO957) (Kd.R_base ho0) hb); replace HB := Aside0.mk (below_step (zB HB) hb); (try clear hb); (try clear ho0); obtain ⟨Ao52, co52, eo52⟩ := Kd.R_slice HO957.out; subst eo52; obtain ⟨Ao53, co53, eo53⟩ := Kd.R_slice HO960.out; subst eo53) | ((with_reducible refine gate_callee (f := 37) rfl ?_); refine goesL_ (some 16) rfl rfl Try.func37 (by kernel_rfl) rfl #[.slice Ao52 t955.length co52, .slice Ao53 t958.length co53] rfl (by (try simp only [List.map_toArray, List.map_cons, List.map_nil]); first | done | rfl | (simp only [List.length_drop, List.length_take]; rfl)) ?_; (with_reducible refine (intrusionref07_Same.calls k _ _ t955 _ _ t958 true _ ?side1 ?side2 ?side3 ?side4 A7.out).mono ?_); (case side1 => repeat (first | exact (Kd.R_reads' HO957.out).2.2 | (with_reducible refine Kd.C_alloc ?_ _) | (with_reducible refine Kd.C_drewN ?_ _) | (with_reducible refine Kd.C_drew ?_))); (case side2 => exact (Kd.R_reads' HO957.out).2.1); (case side3 => repeat (first | exact (Kd.R_reads' HO960.out).2.2 | (with_reducible refine Kd.C_alloc ?_ _) | (with_reducible refine Kd.C_drewN ?_ _) | (with_reducible refine Kd.C_drew ?_))); (case side4 => exact (Kd.R_reads' HO960.out).2.1); rintro e w' ⟨rfl, ⟨nd, rfl⟩⟩; refine ⟨_, rfl, ?_⟩) | (go_at_call 54; (with_reducible refine (addrset_Intersect.calls k _ _ l0 _ _ l1 t962 _ ?side1 ?side2 ?side3 ?side4 A9.out).mono ?_); (case side1 => repeat (first | exact (Kd.C_below HR0.out (zB HB)) | (with_reducible refine Kd.C_alloc ?_ _) | (with_reducible refine Kd.C_drewN ?_ _) | (with_reducible refine Kd.C_drew ?_))); (case side2 => exact HC0.out); (case side3 => repeat (first | exact (Kd.C_below HR1.out (zB HB)) | (with_reducible refine Kd.C_alloc ?_ _) | (with_reducible refine Kd.C_drewN ?_ _) | (with_reducible refine Kd.C_drew ?_))); (case side4 => exact HC1.out); rintro e w54 ⟨v963, rfl, ho0, hb⟩; have HO964 := Aside0.mk (Kd.R_lower (Kd.R_new' (Kd.R_new' ho0 (Kd.R_lt (zR HO957))) (Kd.R_lt (zR HO960))) (below_size (zB HB))); replace HO957 := Aside0.mk (Kd.R_elder' (zR HO957) (Kd.R_base ho0) hb); replace HO960 := Aside0.mk (Kd.R_elder' (zR HO960) (Kd.R_base ho0) hb); replace HB := Aside0.mk (below_step (zB HB) hb); (try clear hb); (try clear ho0)) | (go_at_call 55; (with_reducible refine (intrusionref07_Intersect.calls k _ _ l0 _ _ l1 t965 _ ?side1 ?side2 ?side3 ?side4 A10.out).mono ?_); (case side1 => repeat (first | exact (Kd.C_below HR0.out HB.out) | (with_reducible refine Kd.C_alloc ?_ _) | (with_reducible refine Kd.C_drewN ?_ _) | (with_reducible refine Kd.C_drew ?_))); (case side2 => exact HC0.out); (case side3 => repeat (first | exact (Kd.C_below HR1.out HB.out) | (with_reducible refine Kd.C_alloc ?_ _) | (with_reducible refine Kd.C_drewN ?_ _) | (with_reducible refine Kd.C_drew ?_))); (case side4 => exact HC1.out); rintro e w55 ⟨v966, rfl, ho0, hb⟩; have HO967 := Aside0.mk (Kd.R_lower (Kd.R_new' (Kd.R_new' (Kd.R_new' ho0 (Kd.R_lt (zR HO957))) (Kd.R_lt (zR HO960))) (Kd.R_lt (zR HO964))) (below_size (zB HB))); replace HO957 := Aside0.mk (Kd.R_elder' (zR HO957) (Kd.R_base ho0) hb); replace HO960 := Aside0.mk (Kd.R_elder' (zR HO960) (Kd.R_base ho0) hb); replace HO964 := Aside0.mk (Kd.R_elder' (zR HO964) (Kd.R_base ho0) hb); replace HB := Aside0.mk (below_step (zB HB) hb); (try clear hb); (try clear ho0); obtain ⟨Ao56, co56, eo56⟩ := Kd.R_slice HO964.out; subst eo56; obtain ⟨Ao57, co57, eo57⟩ := Kd.R_slice HO967.out; subst eo57) | (go_at_call 37; (with_reducible refine (intrusionref07_Same.calls k _ _ t962 _ _ t965 true _ ?side1 ?side2 ?side3 ?side4 A11.out).mono ?_); (case side1 => repeat (first | exact (Kd.R_reads' HO964.out).2.2 | (with_reducible refine Kd.C_alloc ?_ _) | (with_reducible refine Kd.C_drewN ?_ _) | (with_reducible refine Kd.C_drew ?_))); (case side2 => exact (Kd.R_reads' HO964.out).2.1); (case side3 => repeat (first | exact (Kd.R_reads' HO967.out).2.2 | (with_reducible refine Kd.C_alloc ?_ _) | (with_reducible refine Kd.C_drewN ?_ _) | (with_reducible refine Kd.C_drew ?_))); (case side4 => exact (Kd.R_reads' HO967.out).2.1); rintro e w' ⟨rfl, ⟨nd, rfl⟩⟩) | (go_at_call 56; (with_reducible refine (addrset_Minus.calls k _ _ l0 _ _ l1 t969 _ ?side1 ?side2 ?side3 ?side4 A13.out).mono ?_); (case side1 => repeat (first | exact (Kd.C_below HR0.out (zB HB)) | (with_reducible refine Kd.C_alloc ?_ _) | (with_reducible refine Kd.C_drewN ?_ _) | (with_reducible refine Kd.C_drew ?_))); (case side2 => exact HC0.out); (case side3 => repeat (first | exact (Kd.C_below HR1.out (zB HB)) | (with_reducible refine Kd.C_alloc ?_ _) | (with_reducible refine Kd.C_drewN ?_ _) | (with_reducible refine Kd.C_drew ?_))); (case side4 => exact HC1.out); rintro e w58 ⟨v970, rfl, ho0, hb⟩; have HO971 := Aside0.mk (Kd.R_lower (Kd.R_new' (Kd.R_new' (Kd.R_new' (Kd.R_new' ho0 (Kd.R_lt (zR HO957))) (Kd.R_lt (zR HO960))) (Kd.R_lt (zR HO964))) (Kd.R_lt (zR HO967))) (below_size (zB HB))); replace HO957 := Aside0.mk (Kd.R_elder' (zR HO957) (Kd.R_base ho0) hb); replace HO960 := Aside0.mk (Kd.R_elder' (zR HO960) (Kd.R_base ho0) hb); replace HO964 := Aside0.mk (Kd.R_elder' (zR HO964) (Kd.R_base ho0) hb); replace HO967 := Aside0.mk (Kd.R_elder' (zR HO967) (Kd.R_base ho0) hb); replace HB := Aside0.mk (below_step (zB HB) hb); (try clear hb); (try clear ho0)) | (go_at_call 57; (with_reducible refine (intrusionref07_Minus.calls k _ _ l0 _ _ l1 t972 _ ?side1 ?side2 ?side3 ?side4 A14.out).mono ?_); (case side1 => repeat (first | exact (Kd.C_below HR0.out HB.out) | (with_reducible refine Kd.C_alloc ?_ _) | (with_reducible refine Kd.C_drewN ?_ _) | (with_reducible refine Kd.C_drew ?_))); (case side2 => exact HC0.out); (case side3 => repeat (first | exact (Kd.C_below HR1.out HB.out) | (with_reducible refine Kd.C_alloc ?_ _) | (with_reducible refine Kd.C_drewN ?_ _) | (with_reducible refine Kd.C_drew ?_))); (case side4 => exact HC1.out); rintro e w59 ⟨v973, rfl, ho0, hb⟩; have HO974 := Aside0.mk (Kd.R_lower (Kd.R_new' (Kd.R_new' (Kd.R_new' (Kd.R_new' (Kd.R_new' ho0 (Kd.R_lt (zR HO957))) (Kd.R_lt (zR HO960))) (Kd.R_lt (zR HO964))) (Kd.R_lt (zR HO967))) (Kd.R_lt (zR HO971))) (below_size (zB HB))); replace HO957 := Aside0.mk (Kd.R_elder' (zR HO957) (Kd.R_base ho0) hb); replace HO960 := Aside0.mk (Kd.R_elder' (zR HO960) (Kd.R_base ho0) hb); replace HO964 := Aside0.mk (Kd.R_elder' (zR HO964) (Kd.R_base ho0) hb); replace HO967 := Aside0.mk (Kd.R_elder' (zR HO967) (Kd.R_base ho0) hb); replace HO971 := Aside0.mk (Kd.R_elder' (zR HO971) (Kd.R_base ho0) hb); replace HB := Aside0.mk (below_step (zB HB) hb); (try clear hb); (try clear ho0); obtain ⟨Ao60, co60, eo60⟩ := Kd.R_slice HO971.out; subst eo60; obtain ⟨Ao61, co61, eo61⟩ := Kd.R_slice HO974.out; subst eo61) | (go_at_call 37; (with_reducible refine (intrusionref07_Same.calls k _ _ t969 _ _ t972 false _ ?side1 ?side2 ?side3 ?side4 A15.out).mono ?_); (case side1 => repeat (first | exact (Kd.R_reads' HO971.out).2.2 | (with_reducible refine Kd.C_alloc ?_ _) | (with_reducible refine Kd.C_drewN ?_ _) | (with_reducible refine Kd.C_drew ?_))); (case side2 => exact (Kd.R_reads' HO971.out).2.1); (case side3 => repeat (first | exact (Kd.R_reads' HO974.out).2.2 | (with_reducible refine Kd.C_alloc ?_ _) | (with_reducible refine Kd.C_drewN ?_ _) | (with_reducible refine Kd.C_drew ?_))); (case side4 => exact (Kd.R_reads' HO974.out).2.1); rintro e w' ⟨rfl, ⟨nd, rfl⟩⟩))
         go_ret
         exact ⟨by first | rfl | (simp [errW_none, errW_some] <;> rfl) | (simp [*, errW_none, errW_some] <;> rfl), by repeat (first | (with_reducible first | exact HB.out | apply below_alloc | apply pw_below_drewN | apply below_drew1) | exact HB.out)⟩
     · replace c12 := Bool.eq_false_iff.mpr c12
       subst c12
       rw [if_neg zF] at H
       obtain rfl := Option.some.inj H
       go_enter Try.func12, Try.ntmps12
       go_wp2_with (first | ((with_reducible refine gate_callee (f := 35) rfl ?_); refine goesL_ (some 7) rfl rfl Try.func35 (by kernel_rfl) rfl #[.slice A0 l0.length c0, .slice A1 l1.length c1] rfl (by (try simp only [List.map_toArray, List.map_cons, List.map_nil]); first | done | rfl | (simp only [List.length_drop, List.length_take]; rfl)) ?_; (with_reducible refine (intrusionlaw07_few.calls _ _ l0 _ _ l1 true _ ?side1 ?side2 ?side3 ?side4 A3.out).mono ?_); (case side1 => repeat (first | exact HR0.out | (with_reducible refine Kd.C_alloc ?_ _) | (with_reducible refine Kd.C_drewN ?_ _) | (with_reducible refine Kd.C_drew ?_))); (case side2 => exact HC0.out); (case side3 => repeat (first | exact HR1.out | (with_reducible refine Kd.C_alloc ?_ _) | (with_reducible refine Kd.C_drewN ?_ _) | (with_reducible refine Kd.C_drew ?_))); (case side4 => exact HC1.out); rintro e w' ⟨rfl, ⟨nd, rfl⟩⟩; refine ⟨_, rfl, ?_⟩) | ((with_reducible refine gate_callee (f := 52) rfl ?_); refine goesL_ (some 12) rfl rfl Try.func52 (by kernel_rfl) rfl #[.slice A0 l0.length c0, .slice A1 l1.length c1] rfl (by (try simp only [List.map_toArray, List.map_cons, List.map_nil]); first | done | rfl | (simp only [List.length_drop, List.length_take]; rfl)) ?_; (with_reducible refine (addrset_Union.calls k (fun k_ => k_ < w.heap.size) _ _ l0 (fun k_ => k_ < w.heap.size) _ _ l1 t955 _ ?side1 ?side2 A5.out).mono ?_); (case side1 => exact Kd.V_mk HC0.out (Kd.F_below (Kd.C_F k66_heap HR0.out) (zB HB))); (case side2 => exact Kd.V_mk HC1.out (Kd.F_below (Kd.C_F k66_heap HR1.out) (zB HB))); rintro e w62 ⟨v956, rfl, ho0, hb⟩; refine ⟨_, rfl, ?_⟩; have HO957 := Aside0.mk (Kd.R_lower (Kd.R_mono (ok' := fun k_ => True) ho0 (fun _ hk_ => trivial)) (below_size (zB HB))); replace HB := Aside0.mk (below_step (zB HB) hb); (try clear hb); (try clear ho0)) | ((with_reducible refine gate_callee (f := 53) rfl ?_); refine goesL_ (some 15) rfl rfl Try.func53 (by kernel_rfl) rfl #[.slice A0 l0.length c0, .slice A1 l1.length c1] rfl (by (try simp only [List.map_toArray, List.map_cons, List.map_nil]); first | done | rfl | (simp only [List.length_drop, List.length_take]; rfl)) ?_; (with_reducible refine (intrusionref07_Union.calls k _ _ l0 _ _ l1 t958 _ ?side1 ?side2 ?side3 ?side4 A6.out).mono ?_); (case side1 => repeat (first | exact (Kd.C_below HR0.out HB.out) | (with_reducible refine Kd.C_alloc ?_ _) | (with_reducible refine Kd.C_drewN ?_ _) | (with_reducible refine Kd.C_drew ?_))); (case side2 => exact HC0.out); (case side3 => repeat (first | exact (Kd.C_below HR1.out HB.out) | (with_reducible refine Kd.C_alloc ?_ _) | (with_reducible refine Kd.C_drewN ?_ _) | (with_reducible refine Kd.C_drew ?_))); (case side4 => exact HC1.out); rintro e w63 ⟨v959, rfl, ho0, hb⟩; refine ⟨_, rfl, ?_⟩; have HO960 := Aside0.mk (Kd.R_lower (Kd.R_new' ho0 (Kd.R_lt (zR HO957))) (below_size (zB HB))); replace HO957 := Aside0.mk (Kd.R_elder' (zR HO957) (Kd.R_base ho0) hb); replace HB := Aside0.mk (below_step (zB HB) hb); (try clear hb); (try clear ho0); obtain ⟨Ao64, co64, eo64⟩ := Kd.R_slice HO957.out; subst eo64; obtain ⟨Ao65, co65, eo65⟩ := Kd.R_slice HO960.out; subst eo65) | ((with_reducible refine gate_callee (f := 37) rfl ?_); refine goesL_ (some 16) rfl rfl Try.func37 (by kernel_rfl) rfl #[.slice Ao64 t955.length co64, .slice Ao65 t958.length co65] rfl (by (try simp only [List.map_toArray, List.map_cons, List.map_nil]); first | done | rfl | (simp only [List.length_drop, List.length_take]; rfl)) ?_; (with_reducible refine (intrusionref07_Same.calls k _ _ t955 _ _ t958 true _ ?side1 ?side2 ?side3 ?side4 A7.out).mono ?_); (case side1 => repeat (first | exact (Kd.R_reads' HO957.out).2.2 | (with_reducible refine Kd.C_alloc ?_ _) | (with_reducible refine Kd.C_drewN ?_ _) | (with_reducible refine Kd.C_drew ?_))); (case side2 => exact (Kd.R_reads' HO957.out).2.1); (case side3 => repeat (first | exact (Kd.R_reads' HO960.out).2.2 | (with_reducible refine Kd.C_alloc ?_ _) | (with_reducible refine Kd.C_drewN ?_ _) | (with_reducible refine Kd.C_drew ?_))); (case side4 => exact (Kd.R_reads' HO960.out).2.1); rintro e w' ⟨rfl, ⟨nd, rfl⟩⟩; refine ⟨_, rfl, ?_⟩) | (go_at_call 54; (with_reducible refine (addrset_Intersect.calls k _ _ l0 _ _ l1 t962 _ ?side1 ?side2 ?side3 ?side4 A9.out).mono ?_); (case side1 => repeat (first | exact (Kd.C_below HR0.out (zB HB)) | (with_reducible refine Kd.C_alloc ?_ _) | (with_reducible refine Kd.C_drewN ?_ _) | (with_reducible refine Kd.C_drew ?_))); (case side2 => exact HC0.out); (case side3 => repeat (first | exact (Kd.C_below HR1.out (zB HB)) | (with_reducible refine Kd.C_alloc ?_ _) | (with_reducible refine Kd.C_drewN ?_ _) | (with_reducible refine Kd.C_drew ?_))); (case side4 => exact HC1.out); rintro e w66 ⟨v963, rfl, ho0, hb⟩; have HO964 := Aside0.mk (Kd.R_lower (Kd.R_new' (Kd.R_new' ho0 (Kd.R_lt (zR HO957))) (Kd.R_lt (zR HO960))) (below_size (zB HB))); replace HO957 := Aside0.mk (Kd.R_elder' (zR HO957) (Kd.R_base ho0) hb); replace HO960 := Aside0.mk (Kd.R_elder' (zR HO960) (Kd.R_base ho0) hb); replace HB := Aside0.mk (below_step (zB HB) hb); (try clear hb); (try clear ho0)) | (go_at_call 55; (with_reducible refine (intrusionref07_Intersect.calls k _ _ l0 _ _ l1 t965 _ ?side1 ?side2 ?side3 ?side4 A10.out).mono ?_); (case side1 => repeat (first | exact (Kd.C_below HR0.out HB.out) | (with_reducible refine Kd.C_alloc ?_ _) | (with_reducible refine Kd.C_drewN ?_ _) | (with_reducible refine Kd.C_drew ?_))); (case side2 => exact HC0.out); (case side3 => repeat (first | exact (Kd.C_below HR1.out HB.out) | (with_reducible refine Kd.C_alloc ?_ _) | (with_reducible refine Kd.C_drewN ?_ _) | (with_reducible refine Kd.C_drew ?_))); (case side4 => exact HC1.out); rintro e w67 ⟨v966, rfl, ho0, hb⟩; have HO967 := Aside0.mk (Kd.R_lower (Kd.R_new' (Kd.R_new' (Kd.R_new' ho0 (Kd.R_lt (zR HO957))) (Kd.R_lt (zR HO960))) (Kd.R_lt (zR HO964))) (below_size (zB HB))); replace HO957 := Aside0.mk (Kd.R_elder' (zR HO957) (Kd.R_base ho0) hb); replace HO960 := Aside0.mk (Kd.R_elder' (zR HO960) (Kd.R_base ho0) hb); replace HO964 := Aside0.mk (Kd.R_elder' (zR HO964) (Kd.R_base ho0) hb); replace HB := Aside0.mk (below_step (zB HB) hb); (try clear hb); (try clear ho0); obtain ⟨Ao68, co68, eo68⟩ := Kd.R_slice HO964.out; subst eo68; obtain ⟨Ao69, co69, eo69⟩ := Kd.R_slice HO967.out; subst eo69) | (go_at_call 37; (with_reducible refine (intrusionref07_Same.calls k _ _ t962 _ _ t965 false _ ?side1 ?side2 ?side3 ?side4 A11.out).mono ?_); (case side1 => repeat (first | exact (Kd.R_reads' HO964.out).2.2 | (with_reducible refine Kd.C_alloc ?_ _) | (with_reducible refine Kd.C_drewN ?_ _) | (with_reducible refine Kd.C_drew ?_))); (case side2 => exact (Kd.R_reads' HO964.out).2.1); (case side3 => repeat (first | exact (Kd.R_reads' HO967.out).2.2 | (with_reducible refine Kd.C_alloc ?_ _) | (with_reducible refine Kd.C_drewN ?_ _) | (with_reducible refine Kd.C_drew ?_))); (case side4 => exact (Kd.R_reads' HO967.out).2.1); rintro e w' ⟨rfl, ⟨nd, rfl⟩⟩))
       go_ret
       exact ⟨by first | rfl | (simp [errW_none, errW_some] <;> rfl) | (simp [*, errW_none, errW_some] <;> rfl), by repeat (first | (with_reducible first | exact HB.out | apply below_alloc | apply pw_below_drewN | apply below_drew1) | exact HB.out)⟩
   · replace c8 := Bool.eq_false_iff.mpr c8
     subst c8
     rw [if_neg zF] at H
     obtain rfl := Option.some.inj H
     go_enter Try.func12, Try.ntmps12
     go_wp2_with (first | ((with_reducible refine gate_callee (f := 35) rfl ?_); refine goesL_ (some 7) rfl rfl Try.func35 (by kernel_rfl) rfl #[.slice A0 l0.length c0, .slice A1 l1.length c1] rfl (by (try simp only [List.map_toArray, List.map_cons, List.map_nil]); first | done | rfl | (simp only [List.length_drop, List.length_take]; rfl)) ?_; (with_reducible refine (intrusionlaw07_few.calls _ _ l0 _ _ l1 true _ ?side1 ?side2 ?side3 ?side4 A3.out).mono ?_); (case side1 => repeat (first | exact HR0.out | (with_reducible refine Kd.C_alloc ?_ _) | (with_reducible refine Kd.C_drewN ?_ _) | (with_reducible refine Kd.C_drew ?_))); (case side2 => exact HC0.out); (case side3 => repeat (first | exact HR1.out | (with_reducible refine Kd.C_alloc ?_ _) | (with_reducible refine Kd.C_drewN ?_ _) | (with_reducible refine Kd.C_drew ?_))); (case side4 => exact HC1.out); rintro e w' ⟨rfl, ⟨nd, rfl⟩⟩; refine ⟨_, rfl, ?_⟩) | ((with_reducible refine gate_callee (f := 52) rfl ?_); refine goesL_ (some 12) rfl rfl Try.func52 (by kernel_rfl) rfl #[.slice A0 l0.length c0, .slice A1 l1.length c1] rfl (by (try simp only [List.map_toArray, List.map_cons, List.map_nil]); first | done | rfl | (simp only [List.length_drop, List.length_take]; rfl)) ?_; (with_reducible refine (addrset_Union.calls k (fun k_ => k_ < w.heap.size) _ _ l0 (fun k_ => k_ < w.heap.size) _ _ l1 t955 _ ?side1 ?side2 A5.out).mono ?_); (case side1 => exact Kd.V_mk HC0.out (Kd.F_below (Kd.C_F k66_heap HR0.out) (zB HB))); (case side2 => exact Kd.V_mk HC1.out (Kd.F_below (Kd.C_F k66_heap HR1.out) (zB HB))); rintro e w70 ⟨v956, rfl, ho0, hb⟩; refine ⟨_, rfl, ?_⟩; have HO957 := Aside0.mk (Kd.R_lower (Kd.R_mono (ok' := fun k_ => True) ho0 (fun _ hk_ => trivial)) (below_size (zB HB))); replace HB := Aside0.mk (below_step (zB HB) hb); (try clear hb); (try clear ho0)) | ((with_reducible refine gate_callee (f := 53) rfl ?_); refine goesL_ (some 15) rfl rfl Try.func53 (by kernel_rfl) rfl #[.slice A0 l0.length c0, .slice A1 l1.length c1] rfl (by (try simp only [List.map_toArray, List.map_cons, List.map_nil]); first | done | rfl | (simp only [List.length_drop, List.length_take]; rfl)) ?_; (with_reducible refine (intrusionref07_Union.calls k _ _ l0 _ _ l1 t958 _ ?side1 ?side2 ?side3 ?side4 A6.out).mono ?_); (case side1 => repeat (first | exact (Kd.C_below HR0.out HB.out) | (with_reducible refine Kd.C_alloc ?_ _) | (with_reducible refine Kd.C_drewN ?_ _) | (with_reducible refine Kd.C_drew ?_))); (case side2 => exact HC0.out); (case side3 => repeat (first | exact (Kd.C_below HR1.out HB.out) | (with_reducible refine Kd.C_alloc ?_ _) | (with_reducible refine Kd.C_drewN ?_ _) | (with_reducible refine Kd.C_drew ?_))); (case side4 => exact HC1.out); rintro e w71 ⟨v959, rfl, ho0, hb⟩; refine ⟨_, rfl, ?_⟩; have HO960 := Aside0.mk (Kd.R_lower (Kd.R_new' ho0 (Kd.R_lt (zR HO957))) (below_size (zB HB))); replace HO957 := Aside0.mk (Kd.R_elder' (zR HO957) (Kd.R_base ho0) hb); replace HB := Aside0.mk (below_step (zB HB) hb); (try clear hb); (try clear ho0); obtain ⟨Ao72, co72, eo72⟩ := Kd.R_slice HO957.out; subst eo72; obtain ⟨Ao73, co73, eo73⟩ := Kd.R_slice HO960.out; subst eo73) | ((with_reducible refine gate_callee (f := 37) rfl ?_); refine goesL_ (some 16) rfl rfl Try.func37 (by kernel_rfl) rfl #[.slice Ao72 t955.length co72, .slice Ao73 t958.length co73] rfl (by (try simp only [List.map_toArray, List.map_cons, List.map_nil]); first | done | rfl | (simp only [List.length_drop, List.length_take]; rfl)) ?_; (with_reducible refine (intrusionref07_Same.calls k _ _ t955 _ _ t958 false _ ?side1 ?side2 ?side3 ?side4 A7.out).mono ?_); (case side1 => repeat (first | exact (Kd.R_reads' HO957.out).2.2 | (with_reducible refine Kd.C_alloc ?_ _) | (with_reducible refine Kd.C_drewN ?_ _) | (with_reducible refine Kd.C_drew ?_))); (case side2 => exact (Kd.R_reads' HO957.out).2.1); (case side3 => repeat (first | exact (Kd.R_reads' HO960.out).2.2 | (with_reducible refine Kd.C_alloc ?_ _) | (with_reducible refine Kd.C_drewN ?_ _) | (with_reducible refine Kd.C_drew ?_))); (case side4 => exact (Kd.R_reads' HO960.out).2.1); rintro e w' ⟨rfl, ⟨nd, rfl⟩⟩; refine ⟨_, rfl, ?_⟩))
     go_ret
     exact ⟨by first | rfl | (simp [errW_none, errW_some] <;> rfl) | (simp [*, errW_none, errW_some] <;> rfl), by repeat (first | (with_reducible first | exact HB.out | apply below_alloc | apply pw_below_drewN | apply below_drew1) | exact HB.out)⟩
 · replace c4 := Bool.eq_false_iff.mpr c4
   subst c4
   rw [if_neg zF] at H
   replace H := Option.bind_eq_some_iff.mp H
   obtain ⟨t954, A740, H⟩ := H
   try dsimp only at H
   have A74 := Aside0.mk A740
   clear A740
   obtain rfl := Option.some.inj H
   go_enter Try.func12, Try.ntmps12
   go_wp2_with (first | ((with_reducible refine gate_callee (f := 35) rfl ?_); refine goesL_ (some 7) rfl rfl Try.func35 (by kernel_rfl) rfl #[.slice A0 l0.length c0, .slice A1 l1.length c1] rfl (by (try simp only [List.map_toArray, List.map_cons, List.map_nil]); first | done | rfl | (simp only [List.length_drop, List.length_take]; rfl)) ?_; (with_reducible refine (intrusionlaw07_few.calls _ _ l0 _ _ l1 false _ ?side1 ?side2 ?side3 ?side4 A3.out).mono ?_); (case side1 => repeat (first | exact HR0.out | (with_reducible refine Kd.C_alloc ?_ _) | (with_reducible refine Kd.C_drewN ?_ _) | (with_reducible refine Kd.C_drew ?_))); (case side2 => exact HC0.out); (case side3 => repeat (first | exact HR1.out | (with_reducible refine Kd.C_alloc ?_ _) | (with_reducible refine Kd.C_drewN ?_ _) | (with_reducible refine Kd.C_drew ?_))); (case side4 => exact HC1.out); rintro e w' ⟨rfl, ⟨nd, rfl⟩⟩; refine ⟨_, rfl, ?_⟩) | ((with_reducible refine gate_callee (f := 36) rfl ?_); refine goesL_ (some 9) rfl rfl Try.func36 (by kernel_rfl) rfl #[] rfl (by (try simp only [List.map_toArray, List.map_cons, List.map_nil]); first | done | rfl | (simp only [List.length_drop, List.length_take]; rfl)) ?_; (with_reducible refine (intrusionlaw07_awake.calls k  t954 _ A74.out).mono ?_); rintro e w75 ⟨rfl, hb⟩; refine ⟨_, rfl, ?_⟩; replace HB := Aside0.mk (below_step (zB HB) hb); (try clear hb)))
   go_ret
   exact ⟨by first | rfl | (simp [errW_none, errW_some] <;> rfl) | (simp [*, errW_none, errW_some] <;> rfl), by repeat (first | (with_reducible first | exact HB.out | apply below_alloc | apply pw_below_drewN | apply below_drew1) | exact HB.out)⟩
end Go.Proofs.Ytcgfpffgiimgmaa.Q
end

section
set_option linter.unusedVariables false
namespace Go.Proofs.Ytcgfpffgiimgmaa.Read
open Go.RowKit Go.Deep Go.WideShapes Go.Proofs.YtcgfpffgiimgmaaW.PrintWords
def Reads {α : Type} (P : Program) (W : World) (d : Kd α) (Q : α → Prop) (t : TypeId) : Prop :=
  ∀ (H : Type) (enc : TypeId × Value → H) (fuel : Nat) (cs : List Value) (x : DataW H × List MemPlace), DataW.trod enc P W 0 (fun _ => true) true fuel t cs = some x → ∃ y, d.K W y cs ∧ Q y
section
variable {P : Program} {W : World}
theorem reads_int {k : IntKind} {t : TypeId} (ht : P.underlying t = some (.int k)) : Reads P W (Kd.int k) (fun n => (Lit.int k n).wf = true) t := by
  intro H enc fuel cs x h
  obtain ⟨n, rfl, _, hw⟩ := DataW.trod_int ht h
  exact ⟨n, rfl, hw⟩
theorem reads_bool {t : TypeId} (ht : P.underlying t = some .bool) : Reads P W Kd.bool (fun _ => True) t := by
  intro H enc fuel cs x h
  obtain ⟨n, rfl, _⟩ := DataW.trod_bool ht h
  exact ⟨n, rfl, trivial⟩
theorem cells_at {a : Addr} {n : Nat} {cs : List Value} (h : W.cells? 0 a n = some cs) : ∀ i u, cs[i]? = some u → W.cell? (a.add i) = some u := by
  obtain ⟨_, hl, hc⟩ := World.cells?_some h
  intro i u hi
  have hlt : i < cs.length := (List.getElem?_eq_some_iff.1 hi).1
  rw [hc i (by omega), hi]
theorem reads_slice {α : Type} {d : Kd α} {Q : α → Prop} {t e : TypeId} (ht : P.underlying t = some (.slice e)) (hc : P.cellsOf e = d.sz) (he : Reads P W d Q e) :
    Reads P W (Kd.slice e d) (fun xs => xs.length ≤ maxLen ∧ ∀ x ∈ xs, Q x) t := by
  intro H enc fuel cs x h
  rcases open_slice ht h with ⟨rfl, _⟩ | ⟨a, len, cap, m, n, D, Pl, rfl, _, hl, hm, hmm, _, hx⟩
  · exact ⟨[], ⟨none, 0, rfl, Nat.le_refl _, ⟨rfl, by simp, fun h => absurd h (by simp)⟩⟩, by simp⟩
  · have hml : m = cap := by simpa using hmm
    have hy : ∀ i : Fin len, ∃ y, (∃ cs', cs'.length = d.sz ∧ d.K W y cs' ∧ ∀ j u, cs'[j]? = some u → W.cell? (a.add (i.1 * d.sz + j)) = some u) ∧ Q y := by
      intro i
      obtain ⟨cs', h1, h2⟩ := hx i.1 (by omega)
      obtain ⟨y, hk, hq⟩ := he H enc n cs' _ h2
      refine ⟨y, ⟨cs', d.K_len hk, hk, fun j u hj => ?_⟩, hq⟩
      have := cells_at h1 j u hj
      rwa [hc, Addr.add_add] at this
    have hf : ∃ f : Fin len → α, ∀ i, (∃ cs', cs'.length = d.sz ∧ d.K W (f i) cs' ∧ ∀ j u, cs'[j]? = some u → W.cell? (a.add (i.1 * d.sz + j)) = some u) ∧ Q (f i) := ⟨fun i => Classical.choose (hy i), fun i => Classical.choose_spec (hy i)⟩
    obtain ⟨f, hf⟩ := hf
    refine ⟨List.ofFn f, ⟨some a, cap, by simp, by simpa using hl, ⟨rfl, by simp [maxLen] at hm ⊢; omega, fun _ => ⟨a, rfl, fun j p hj => ?_⟩⟩⟩, by simpa using Nat.le_trans hl hm, fun y hy => ?_⟩
    · obtain ⟨hlt, rfl⟩ := List.getElem?_eq_some_iff.1 hj
      have hjl : j < len := by simpa using hlt
      rw [List.getElem_ofFn]
      exact (hf ⟨j, hjl⟩).1
    · obtain ⟨j, hj, rfl⟩ := List.getElem_of_mem hy
      rw [List.getElem_ofFn]
      exact (hf _).2
theorem pair_mk {α β : Type} {a : Kd α} {b : Kd β} {x : α} {y : β} {cs : List Value} (s : Nat) (h0 : a.K W x (cs.take s)) (h1 : b.K W y (cs.drop s)) : (Kd.pair a b).K W (x, y) cs :=
  ⟨cs.take s, cs.drop s, (List.take_append_drop s cs).symm, h0, h1⟩
theorem field_at {α : Type} {d : Kd α} {Q : α → Prop} {fs : Array Field} {H : Type} {enc : TypeId × Value → H} {n : Nat} {cs : List Value} {xs : List (DataW H × List MemPlace)} (hl : xs.length = fs.size)
    (hf : ∀ (i : Nat) (f : Field), fs[i]? = some f → DataW.trod enc P W 0 (fun _ => true) true n f.type ((cs.drop f.offset).take (P.cellsOf f.type)) = xs[i]?)
    (i : Nat) {f : Field} (hi : fs[i]? = some f) {t off sz : Nat} (ht : f.type = t) (ho : f.offset = off) (hc : P.cellsOf t = sz) (hr : Reads P W d Q t) : ∃ y, d.K W y ((cs.drop off).take sz) ∧ Q y := by
  subst ht ho hc
  have h := hf i f hi
  have hlt : i < xs.length := by rw [hl]; exact (Array.getElem?_eq_some_iff.1 hi).1
  rw [List.getElem?_eq_getElem hlt] at h
  exact hr H enc n _ _ h
end
end Go.Proofs.Ytcgfpffgiimgmaa.Read
end

section
set_option linter.unusedVariables false
namespace Go.Proofs.Ytcgfpffgiimgmaa.Q
open Go.RowKit Go.Proofs.YtcgfpffgiimgmaaW.PrintWords Go.Proofs.Ytcgfpffgiimgmaa.Read
def q36 (x : S36) : Prop := True ∧ (Lit.int .u64 x.f1).wf = true ∧ (Lit.int .u64 x.f2).wf = true
theorem reads_k36 (W : World) : Reads Try.prog W k36 q36 36 := by
  intro H enc fuel cs x h
  obtain ⟨xs, n, rfl, _, hcl, hxl, hf⟩ := DataW.trod_struct Try.underlying36 h
  have hc : cs.length = 3 := hcl.trans (by kernel_rfl)
  obtain ⟨y0, h0, g0⟩ := field_at hxl hf 0 rfl (t := 4) (off := 0) (sz := 1) rfl rfl (by kernel_rfl) (reads_bool Try.underlying4)
  obtain ⟨y1, h1, g1⟩ := field_at hxl hf 1 rfl (t := 34) (off := 1) (sz := 1) rfl rfl (by kernel_rfl) (reads_int Try.underlying34)
  obtain ⟨y2, h2, g2⟩ := field_at hxl hf 2 rfl (t := 34) (off := 2) (sz := 1) rfl rfl (by kernel_rfl) (reads_int Try.underlying34)
  refine ⟨⟨y0, y1, y2⟩, ?_, ⟨g0, g1, g2⟩⟩
  rw [show (cs.drop 0).take 1 = (cs.drop 0).take 1 from rfl] at h0
  rw [show (cs.drop 1).take 1 = (cs.drop 1).take 1 from rfl] at h1
  rw [show (cs.drop 2).take 1 = (cs.drop 2) from List.take_of_length_le (by rw [List.length_drop, hc]; decide)] at h2
  skip
  simp only [show 2 = 1 + 1 from rfl, ← List.drop_drop] at h2
  have e0 : cs.drop 0 = cs := rfl
  rw [e0] at h0
  exact pair_mk (a := Kd.bool) 1 h0 (pair_mk (a := (Kd.int .u64)) 1 h1 (h2))
def q66 (x : S66) : Prop := q36 x.f0 ∧ q36 x.f1
theorem reads_k66 (W : World) : Reads Try.prog W k66 q66 66 := by
  intro H enc fuel cs x h
  obtain ⟨xs, n, rfl, _, hcl, hxl, hf⟩ := DataW.trod_struct Try.underlying66 h
  have hc : cs.length = 6 := hcl.trans (by kernel_rfl)
  obtain ⟨y0, h0, g0⟩ := field_at hxl hf 0 rfl (t := 36) (off := 0) (sz := 3) rfl rfl (by kernel_rfl) (reads_k36 W)
  obtain ⟨y1, h1, g1⟩ := field_at hxl hf 1 rfl (t := 36) (off := 3) (sz := 3) rfl rfl (by kernel_rfl) (reads_k36 W)
  refine ⟨⟨y0, y1⟩, ?_, ⟨g0, g1⟩⟩
  rw [show (cs.drop 0).take 3 = (cs.drop 0).take 3 from rfl] at h0
  rw [show (cs.drop 3).take 3 = (cs.drop 3) from List.take_of_length_le (by rw [List.length_drop, hc]; decide)] at h1
  skip
  have e0 : cs.drop 0 = cs := rfl
  rw [e0] at h0
  exact pair_mk (a := k36) 3 h0 (h1)
end Go.Proofs.Ytcgfpffgiimgmaa.Q
end

section
namespace Go.Proofs.Ytcgfpffgiimgmaa.Canon
abbrev Sp := Int × Int
def Mem (l : List Sp) (n : Int) : Prop := ∃ x, x ∈ l ∧ x.1 ≤ n ∧ n ≤ x.2
def CanFrom : Int → List Sp → Prop
  | _, [] => True
  | lo, x :: t => lo ≤ x.1 ∧ x.1 ≤ x.2 ∧ CanFrom (x.2 + 2) t
theorem mem_nil (n : Int) : Mem [] n ↔ False := by simp [Mem]
theorem mem_cons (x : Sp) (t : List Sp) (n : Int) : Mem (x :: t) n ↔ (x.1 ≤ n ∧ n ≤ x.2) ∨ Mem t n := by
  simp only [Mem, List.mem_cons]
  constructor
  · rintro ⟨y, rfl | hy, h⟩
    · exact .inl h
    · exact .inr ⟨y, hy, h⟩
  · rintro (h | ⟨y, hy, h⟩)
    · exact ⟨x, .inl rfl, h⟩
    · exact ⟨y, .inr hy, h⟩
theorem mem_append (a b : List Sp) (n : Int) : Mem (a ++ b) n ↔ Mem a n ∨ Mem b n := by
  induction a with
  | nil => simp [mem_nil]
  | cons x t ih => simp only [List.cons_append, mem_cons, ih]; exact or_assoc.symm
theorem CanFrom.mono {lo lo' : Int} {l : List Sp} (h : lo' ≤ lo) (c : CanFrom lo l) : CanFrom lo' l := by
  cases l with
  | nil => trivial
  | cons x t => exact ⟨Int.le_trans h c.1, c.2⟩
theorem CanFrom.ge : ∀ {l : List Sp} {lo n : Int}, CanFrom lo l → Mem l n → lo ≤ n
  | [], _, _, _, h => ((mem_nil _).1 h).elim
  | x :: t, lo, n, c, h => by
    rcases (mem_cons x t n).1 h with h | h
    · have := c.1; omega
    · have := CanFrom.ge c.2.2 h; have := c.1; have := c.2.1; omega
theorem uniq : ∀ (a b : List Sp) (lo : Int), CanFrom lo a → CanFrom lo b → (∀ n, Mem a n ↔ Mem b n) → a = b
  | [], [], _, _, _, _ => rfl
  | [], y :: t, _, _, cb, h => by
    have := (h y.1).2 ((mem_cons y t _).2 (.inl ⟨Int.le_refl _, cb.2.1⟩))
    exact ((mem_nil _).1 this).elim
  | x :: s, [], _, ca, _, h => by
    have := (h x.1).1 ((mem_cons x s _).2 (.inl ⟨Int.le_refl _, ca.2.1⟩))
    exact ((mem_nil _).1 this).elim
  | x :: s, y :: t, lo, ca, cb, h => by
    have hx : ∀ n, Mem (x :: s) n → x.1 ≤ n := fun n hn => CanFrom.ge (lo := x.1) (l := x :: s) ⟨Int.le_refl _, ca.2⟩ hn
    have hy : ∀ n, Mem (y :: t) n → y.1 ≤ n := fun n hn => CanFrom.ge (lo := y.1) (l := y :: t) ⟨Int.le_refl _, cb.2⟩ hn
    have e1 : x.1 = y.1 := by
      have a1 := hy _ ((h x.1).1 ((mem_cons x s _).2 (.inl ⟨Int.le_refl _, ca.2.1⟩)))
      have a2 := hx _ ((h y.1).2 ((mem_cons y t _).2 (.inl ⟨Int.le_refl _, cb.2.1⟩)))
      omega
    have e2 : x.2 = y.2 := by
      have k1 : ¬ x.2 < y.2 := fun hlt => by
        have := (h (x.2 + 1)).2 ((mem_cons y t _).2 (.inl ⟨by have := ca.2.1; omega, by omega⟩))
        rcases (mem_cons x s _).1 this with m | m
        · omega
        · have := ca.2.2.ge m; omega
      have k2 : ¬ y.2 < x.2 := fun hlt => by
        have := (h (y.2 + 1)).1 ((mem_cons x s _).2 (.inl ⟨by have := cb.2.1; omega, by omega⟩))
        rcases (mem_cons y t _).1 this with m | m
        · omega
        · have := cb.2.2.ge m; omega
      omega
    have e : x = y := Prod.ext e1 e2
    subst e
    rw [uniq s t (x.2 + 2) ca.2.2 cb.2.2 (fun n => by
      constructor
      · intro hn
        have g := ca.2.2.ge hn
        rcases (mem_cons x t _).1 ((h n).1 ((mem_cons x s _).2 (.inr hn))) with m | m
        · omega
        · exact m
      · intro hn
        have g := cb.2.2.ge hn
        rcases (mem_cons x s _).1 ((h n).2 ((mem_cons x t _).2 (.inr hn))) with m | m
        · omega
        · exact m)]
def ins (x : Sp) : List Sp → List Sp
  | [] => [x]
  | y :: t => if x.2 + 1 < y.1 then x :: y :: t else if y.2 + 1 < x.1 then y :: ins x t else ins (min x.1 y.1, max x.2 y.2) t
theorem ins_can : ∀ (l : List Sp) (x : Sp) (lo : Int), CanFrom lo l → lo ≤ x.1 → x.1 ≤ x.2 → CanFrom lo (ins x l)
  | [], x, lo, _, h1, h2 => ⟨h1, h2, trivial⟩
  | y :: t, x, lo, c, h1, h2 => by
    obtain ⟨c1, c2, c3⟩ := c
    unfold ins
    split
    · exact ⟨h1, h2, by omega, c2, c3⟩
    · split
      · exact ⟨c1, c2, ins_can t x _ c3 (by omega) h2⟩
      · refine ins_can t _ lo (c3.mono (by omega)) ?_ ?_
        · show lo ≤ min x.1 y.1; omega
        · show min x.1 y.1 ≤ max x.2 y.2; omega
theorem ins_mem : ∀ (l : List Sp) (x : Sp) (lo n : Int), CanFrom lo l → x.1 ≤ x.2 → (Mem (ins x l) n ↔ (x.1 ≤ n ∧ n ≤ x.2) ∨ Mem l n)
  | [], x, lo, n, _, _ => by simp [ins, mem_cons]
  | y :: t, x, lo, n, c, h2 => by
    obtain ⟨c1, c2, c3⟩ := c
    unfold ins
    split
    · rw [mem_cons]
    · split
      · rw [mem_cons, ins_mem t x _ n c3 h2, mem_cons]
        constructor
        · rintro (h | h | h)
          · exact .inr (.inl h)
          · exact .inl h
          · exact .inr (.inr h)
        · rintro (h | h | h)
          · exact .inr (.inl h)
          · exact .inl h
          · exact .inr (.inr h)
      · rw [ins_mem t _ _ n c3 (by show min x.1 y.1 ≤ max x.2 y.2; omega), mem_cons, ← or_assoc]
        refine or_congr_left ?_
        show (min x.1 y.1 ≤ n ∧ n ≤ max x.2 y.2) ↔ _
        omega
theorem can_append : ∀ (a b : List Sp) (lo : Int), CanFrom lo (a ++ b) ↔ CanFrom lo a ∧ (∀ x ∈ a, ∀ y ∈ b, x.2 + 1 < y.1) ∧ (∃ lo', CanFrom lo' b) ∧ (∀ y ∈ b, lo ≤ y.1)
  | [], b, lo => by
    constructor
    · intro c
      refine ⟨trivial, by simp, ⟨lo, c⟩, fun y hy => ?_⟩
      have hm : Mem b y.1 → lo ≤ y.1 := c.ge
      refine hm ⟨y, hy, Int.le_refl _, ?_⟩
      have : ∀ (b : List Sp) (lo : Int), CanFrom lo b → ∀ y ∈ b, y.1 ≤ y.2 := by
        intro b
        induction b with
        | nil => simp
        | cons z t ih =>
          intro lo c y hy
          rcases List.mem_cons.1 hy with rfl | hy
          · exact c.2.1
          · exact ih _ c.2.2 y hy
      exact this b lo c y hy
    · rintro ⟨_, _, ⟨lo', c⟩, h⟩
      cases b with
      | nil => trivial
      | cons z t => exact ⟨h z (List.mem_cons_self ..), c.2⟩
  | x :: a, b, lo => by
    have ih := can_append a b (x.2 + 2)
    constructor
    · rintro ⟨c1, c2, c3⟩
      obtain ⟨i1, i2, i3, i4⟩ := ih.1 c3
      refine ⟨⟨c1, c2, i1⟩, fun z hz y hy => ?_, i3, fun y hy => ?_⟩
      · rcases List.mem_cons.1 hz with rfl | hz
        · have := i4 y hy; omega
        · exact i2 z hz y hy
      · have := i4 y hy; omega
    · rintro ⟨⟨c1, c2, c3⟩, h2, h3, h4⟩
      refine ⟨c1, c2, ih.2 ⟨c3, fun z hz => h2 z (List.mem_cons_of_mem _ hz), h3, fun y hy => ?_⟩⟩
      have := h2 x (List.mem_cons_self ..) y hy
      omega
theorem can_wf : ∀ (b : List Sp) (lo : Int), CanFrom lo b → ∀ y ∈ b, lo ≤ y.1 ∧ y.1 ≤ y.2
  | [], _, _, y, hy => by simp at hy
  | z :: t, lo, c, y, hy => by
    rcases List.mem_cons.1 hy with rfl | hy
    · exact ⟨c.1, c.2.1⟩
    · have := can_wf t _ c.2.2 y hy
      have := c.1; have := c.2.1
      exact ⟨by omega, by omega⟩
end Go.Proofs.Ytcgfpffgiimgmaa.Canon
end

section
set_option linter.unusedVariables false
set_option linter.unusedSimpArgs false
namespace Go.Proofs.Ytcgfpffgiimgmaa.Q
open Go.RowKit Go.Proofs.YtcgfpffgiimgmaaW.PrintWords Go.Proofs.YtcgfpffgiimgmaaW.PrintLast Go.Proofs.YtcgfpffgiimgmaaW.PrintMore Go.Proofs.Ytcgfpffgiimgmaa.Canon
abbrev Ad := S36
abbrev Rg := S66
abbrev Px := S45
def AW (a : Ad) : Prop := 0 ≤ a.f1 ∧ a.f1 < 18446744073709551616 ∧ 0 ≤ a.f2 ∧ a.f2 < 18446744073709551616
def av (a : Ad) : Int := (if a.f0 = true then 680564733841876926926749214863536422912 else 0) + a.f1 * 18446744073709551616 + a.f2
def AF (a : Ad) : Prop := AW a ∧ (a.f0 = true ∨ (a.f1 = 0 ∧ a.f2 ≤ 4294967295))
def RW (r : Rg) : Prop := AF r.f0 ∧ AF r.f1 ∧ r.f0.f0 = r.f1.f0 ∧ av r.f0 ≤ av r.f1
def RB (r : Rg) : Prop := AW r.f0 ∧ AW r.f1
theorem RW.b {r : Rg} (h : RW r) : RB r := ⟨h.1.1, h.2.1.1⟩
theorem wf_u64 {n : Int} (h : (Lit.int .u64 n).wf = true) : 0 ≤ n ∧ n < 18446744073709551616 := by
  simp only [Lit.wf, Bool.and_eq_true, decide_eq_true_eq] at h
  have e1 : IntKind.u64.min = 0 := by decide
  have e2 : IntKind.u64.max = 18446744073709551615 := by decide
  rw [e1, e2] at h
  omega
theorem aw_of {a : Ad} (h : q36 a) : AW a := by
  obtain ⟨_, h1, h2⟩ := h
  have := wf_u64 h1
  have := wf_u64 h2
  exact ⟨by omega, by omega, by omega, by omega⟩
theorem rb_of {r : Rg} (h : q66 r) : RB r := ⟨aw_of h.1, aw_of h.2⟩
theorem av_inj {a b : Ad} (ha : AW a) (hb : AW b) (h : av a = av b) : a = b := by
  obtain ⟨a0, a1, a2⟩ := a
  obtain ⟨b0, b1, b2⟩ := b
  unfold AW at ha hb
  unfold av at h
  cases a0 <;> cases b0 <;> simp at h ha hb ⊢ <;> omega
theorem av_eq {a b : Ad} (ha : AW a) (hb : AW b) : a = b ↔ av a = av b := ⟨fun h => by rw [h], av_inj ha hb⟩
theorem ltA_iff {a b : Ad} (ha : AW a) (hb : AW b) : ltA a b ↔ av a < av b := by
  obtain ⟨a0, a1, a2⟩ := a
  obtain ⟨b0, b1, b2⟩ := b
  unfold AW at ha hb
  unfold ltA av
  cases a0 <;> cases b0 <;> simp at ha hb ⊢ <;> omega
theorem cmpA_tri (a b : Ad) : cmpA a b = 0 ∨ cmpA a b = -1 ∨ cmpA a b = 1 := by
  unfold cmpA
  repeat' split
  all_goals simp
theorem cmpA_zero {a b : Ad} : cmpA a b = 0 ↔ a = b := by
  obtain ⟨a0, a1, a2⟩ := a
  obtain ⟨b0, b1, b2⟩ := b
  unfold cmpA
  simp only [Ad, S36.mk.injEq]
  by_cases h0 : a0 = b0
  · by_cases h1 : a1 = b1
    · by_cases h2 : a2 = b2
      · simp [h0, h1, h2]
      · simp only [h0, h1, h2, if_true, if_false]
        split <;> simp
    · simp only [h0, h1, if_true, if_false]
      split <;> simp
  · simp only [h0, if_false]
    split <;> simp
theorem cmp_lt' {a b : Ad} (ha : AW a) (hb : AW b) : cmpA a b < 0 ↔ av a < av b := (cmp_lt a b).trans (ltA_iff ha hb)
theorem cmp_le' {a b : Ad} (ha : AW a) (hb : AW b) : cmpA a b ≤ 0 ↔ av a ≤ av b := by
  have h1 := cmp_lt' ha hb
  have h2 := @cmpA_zero a b
  rw [av_eq ha hb] at h2
  rcases cmpA_tri a b with h | h | h <;> omega
theorem cmp_ge' {a b : Ad} (ha : AW a) (hb : AW b) : 0 ≤ cmpA a b ↔ av b ≤ av a := by
  have h1 := cmp_lt' ha hb
  omega
theorem fine_iff {a : Ad} (ha : AW a) : fineB a = true ↔ AF a := by
  unfold fineB AF
  simp only [Bool.or_eq_true, Bool.and_eq_true, decide_eq_true_eq]
  exact ⟨fun h => ⟨ha, h⟩, fun h => h.2⟩
theorem some_iff {r : Rg} (h : RB r) : someB r = true ↔ RW r := by
  unfold someB RW
  simp only [Bool.and_eq_true, fine_iff h.1, fine_iff h.2, beq_iff_eq, decide_eq_true_eq, cmp_le' h.1 h.2]
theorem AF.num {a : Ad} (h : AF a) : (a.f0 = false ∧ 0 ≤ av a ∧ av a ≤ 4294967295) ∨ (a.f0 = true ∧ 680564733841876926926749214863536422912 ≤ av a ∧ av a < 1020847100762815390390123822295304634368) := by
  obtain ⟨⟨h1, h2, h3, h4⟩, h5⟩ := h
  obtain ⟨a0, a1, a2⟩ := a
  unfold av
  cases a0 <;> simp at h1 h2 h3 h4 h5 ⊢ <;> omega
theorem RW.num {r : Rg} (h : RW r) : 0 ≤ av r.f0 ∧ av r.f0 ≤ av r.f1 ∧ ((r.f0.f0 = false ∧ r.f1.f0 = false ∧ av r.f1 ≤ 4294967295) ∨ (r.f0.f0 = true ∧ r.f1.f0 = true ∧ 680564733841876926926749214863536422912 ≤ av r.f0 ∧ av r.f1 < 1020847100762815390390123822295304634368)) := by
  obtain ⟨h1, h2, h3, h4⟩ := h
  rcases h1.num with n1 | n1 <;> rcases h2.num with n2 | n2
  · exact ⟨n1.2.1, h4, .inl ⟨n1.1, n2.1, n2.2.2⟩⟩
  · rw [n1.1, n2.1] at h3; cases h3
  · rw [n1.1, n2.1] at h3; cases h3
  · exact ⟨by omega, h4, .inr ⟨n1.1, n2.1, n1.2.1, n2.2.2⟩⟩
theorem before_eq (a b : Ad) (ha : AW a) (hb : AW b) : intrusionref07_Before.f a.f0 a.f1 a.f2 b.f0 b.f1 b.f2 = some (decide (av a < av b)) := by
  obtain ⟨a0, a1, a2⟩ := a
  obtain ⟨b0, b1, b2⟩ := b
  unfold AW at ha hb
  unfold intrusionref07_Before.f av
  cases a0 <;> cases b0 <;> simp at ha hb ⊢
  · by_cases h : a1 = b1
    · simp [h]
    · simp only [h, if_false, Option.some.injEq, decide_eq_decide]; omega
  · omega
  · omega
  · by_cases h : a1 = b1
    · simp [h]
    · simp only [h, if_false, Option.some.injEq, decide_eq_decide]; omega
theorem rfine_eq (a : Ad) (ha : AW a) : intrusionref07_Fine.f a.f0 a.f1 a.f2 = some (fineB a) := by
  unfold intrusionref07_Fine.f fineB
  cases a.f0
  · by_cases h : a.f1 = 0
    · simp [h]; omega
    · simp [h]
  · simp
theorem rsome_eq (r : Rg) (h : RB r) : intrusionref07_Some.f r.f0.f0 r.f0.f1 r.f0.f2 r.f1.f0 r.f1.f1 r.f1.f2 = some (someB r) := by
  unfold intrusionref07_Some.f someB
  rw [rfine_eq r.f0 h.1, rfine_eq r.f1 h.2]
  simp only [Option.bind_some]
  rw [before_eq r.f1 r.f0 h.2 h.1]
  have e : decide (cmpA r.f0 r.f1 ≤ 0) = !decide (av r.f1 < av r.f0) := by
    rw [Bool.eq_iff_iff, decide_eq_true_eq, cmp_le' h.1 h.2]
    simp
  rw [e]
  cases fineB r.f0 <;> cases fineB r.f1 <;> cases (r.f0.f0 == r.f1.f0) <;> simp
theorem cmp_f (a b : Ad) : address_Compare.f a.f0 a.f1 a.f2 b.f0 b.f1 b.f2 = some (cmpA a b) := rfl
theorem u64_id {n : Int} (h0 : 0 ≤ n) (h1 : n < 18446744073709551616) : IntKind.u64.wrap n = n := IntWalk.u64_in n ⟨h0, by omega⟩
instance decAd : DecidableEq Ad := fun a b => decidable_of_iff (a.f0 = b.f0 ∧ a.f1 = b.f1 ∧ a.f2 = b.f2) ⟨fun h => by cases a; cases b; simp at h; simp [h], fun h => by rw [h]; exact ⟨rfl, rfl, rfl⟩⟩
theorem u64_top : IntKind.u64.wrap 18446744073709551616 = 0 := by decide
def nextA (a : Ad) : Ad := ⟨a.f0, if IntKind.u64.wrap (a.f2 + 1) = 0 then IntKind.u64.wrap (a.f1 + 1) else a.f1, IntKind.u64.wrap (a.f2 + 1)⟩
def topA (f : Bool) : Ad := if f then ⟨true, 18446744073709551615, 18446744073709551615⟩ else ⟨false, 0, 4294967295⟩
theorem topA_AF (f : Bool) : AF (topA f) := by
  cases f
  · refine ⟨⟨?_, ?_, ?_, ?_⟩, .inr ⟨?_, ?_⟩⟩ <;> simp [topA]
  · refine ⟨⟨?_, ?_, ?_, ?_⟩, .inl ?_⟩ <;> simp [topA]
theorem topA_f0 (f : Bool) : (topA f).f0 = f := by cases f <;> rfl
theorem topA_max {a : Ad} (h : AF a) : av a ≤ av (topA a.f0) := by
  rcases h.num with ⟨e, _, h2⟩ | ⟨e, _, h2⟩
  · rw [e]; exact h2
  · rw [e]; show av a ≤ _; unfold topA av at *; simp at *; omega
theorem nextA_spec {a : Ad} (h : AF a) (hn : a ≠ topA a.f0) : AF (nextA a) ∧ (nextA a).f0 = a.f0 ∧ av (nextA a) = av a + 1 := by
  have hlt : av a < av (topA a.f0) := by
    have h1 := topA_max h
    have h2 : av a ≠ av (topA a.f0) := fun e => hn (av_inj h.1 (topA_AF _).1 e)
    omega
  obtain ⟨⟨h1, h2, h3, h4⟩, h5⟩ := h
  obtain ⟨a0, a1, a2⟩ := a
  simp only at h1 h2 h3 h4 h5
  by_cases c : a2 + 1 = 18446744073709551616
  · have e1 : IntKind.u64.wrap (a2 + 1) = 0 := by rw [c]; exact u64_top
    cases a0
    · simp at h5; omega
    · have h6 : a1 + 1 < 18446744073709551616 := by unfold topA av at hlt; simp at hlt; omega
      have e2 := u64_id (n := a1 + 1) (by omega) h6
      unfold nextA
      simp only [e1, e2, if_true]
      refine ⟨⟨⟨by simp; omega, by simp; omega, by simp, by simp⟩, .inl rfl⟩, by simp, ?_⟩
      unfold av; simp; omega
  · have e1 := u64_id (n := a2 + 1) (by omega) (by omega)
    unfold nextA
    have e3 : ¬ (a2 + 1 = 0) := by omega
    simp only [e1, e3, if_false]
    refine ⟨⟨⟨h1, h2, by simp; omega, by simp; omega⟩, ?_⟩, by simp, by unfold av; simp; omega⟩
    cases a0
    · simp at h5
      refine .inr ⟨h5.1, ?_⟩
      unfold topA av at hlt; simp at hlt ⊢; omega
    · exact .inl rfl
theorem after_eq (a : Ad) : intrusionref07_After.f a.f0 a.f1 a.f2 = some ((nextA a).f0, (nextA a).f1, (nextA a).f2) := rfl
theorem last_eq (a : Ad) (h : AF a) : intrusionref07_Last.f a.f0 a.f1 a.f2 = some (decide (a = topA a.f0)) := by
  obtain ⟨⟨h1, h2, h3, h4⟩, h5⟩ := h
  obtain ⟨a0, a1, a2⟩ := a
  simp only at h1 h2 h3 h4 h5
  unfold intrusionref07_Last.f topA
  cases a0
  · simp at h5 ⊢
    rw [Bool.eq_iff_iff]
    simp [h5.1]
  · have w : ∀ n : Int, 0 ≤ n → n < 18446744073709551616 → (IntKind.u64.wrap (n + 1) = 0 ↔ n = 18446744073709551615) := by
      intro n g0 g1
      constructor
      · intro e
        by_cases c : n + 1 = 18446744073709551616
        · omega
        · rw [u64_id (by omega) (by omega)] at e; omega
      · intro e; subst e; exact u64_top
    simp only [if_true, w a1 h1 h2]
    by_cases c : a1 = 18446744073709551615
    · simp only [c, if_true, Option.some.injEq]
      rw [Bool.eq_iff_iff, beq_iff_eq, w a2 h3 h4]
      simp
    · simp [c]
theorem next_eq (a : Ad) (h : AF a) : address_Next.f a.f0 a.f1 a.f2 = some (if a = topA a.f0 then (false, 0, 0, false) else ((nextA a).f0, (nextA a).f1, (nextA a).f2, true)) := by
  obtain ⟨a0, a1, a2⟩ := a
  have e : address_last.f a0 = some ((topA a0).f0, (topA a0).f1, (topA a0).f2) := by cases a0 <;> rfl
  unfold address_Next.f
  rw [e]
  simp only [Option.bind_some]
  have e2 : (a0 == (topA a0).f0 && (a1 == (topA a0).f1 && (a2 == (topA a0).f2))) = decide ((⟨a0, a1, a2⟩ : Ad) = topA a0) := by
    rw [Bool.eq_iff_iff]
    simp only [Bool.and_eq_true, beq_iff_eq, decide_eq_true_eq]
    constructor
    · rintro ⟨h1, h2, h3⟩
      cases a0 <;> simp [topA] at * <;> simp [h2, h3]
    · intro h
      rw [← h]
      exact ⟨rfl, rfl, rfl⟩
  rw [e2]
  by_cases c : (⟨a0, a1, a2⟩ : Ad) = topA a0
  · rw [if_pos (decide_eq_true c), if_pos c]
  · rw [if_neg (by simpa using c), if_neg c]
    unfold nextA
    by_cases d : IntKind.u64.wrap (a2 + 1) = 0
    · simp [d]
    · simp [d]
def prevA (a : Ad) : Ad := ⟨a.f0, if a.f2 = 0 then IntKind.u64.wrap (a.f1 - 1) else a.f1, IntKind.u64.wrap (a.f2 - 1)⟩
theorem prevA_spec {a : Ad} (h : AF a) (hn : ¬ (a.f1 = 0 ∧ a.f2 = 0)) : AF (prevA a) ∧ (prevA a).f0 = a.f0 ∧ av (prevA a) = av a - 1 := by
  obtain ⟨⟨h1, h2, h3, h4⟩, h5⟩ := h
  obtain ⟨a0, a1, a2⟩ := a
  simp only at h1 h2 h3 h4 h5 hn
  by_cases c : a2 = 0
  · subst c
    have e1 : IntKind.u64.wrap (0 - 1) = 18446744073709551615 := by decide
    cases a0
    · simp at h5; omega
    · have e2 := u64_id (n := a1 - 1) (by omega) (by omega)
      unfold prevA
      simp only [e1, e2, if_true]
      refine ⟨⟨⟨by simp; omega, by simp; omega, by simp, by simp⟩, .inl rfl⟩, by simp, ?_⟩
      unfold av; simp; omega
  · have e1 := u64_id (n := a2 - 1) (by omega) (by omega)
    unfold prevA
    rw [e1]
    simp only [c, if_false]
    refine ⟨⟨⟨h1, h2, by simp; omega, by simp; omega⟩, ?_⟩, by simp, by unfold av; simp; omega⟩
    rcases h5 with h5 | h5
    · exact .inl h5
    · exact .inr ⟨h5.1, by simp; omega⟩
theorem ahead_eq (a : Ad) : intrusionref07_Ahead.f a.f0 a.f1 a.f2 = some ((prevA a).f0, (prevA a).f1, (prevA a).f2) := rfl
theorem prev_eq (a : Ad) (hn : ¬ (a.f1 = 0 ∧ a.f2 = 0)) : address_Previous.f a.f0 a.f1 a.f2 = some ((prevA a).f0, (prevA a).f1, (prevA a).f2, true) := by
  unfold address_Previous.f prevA
  have e : (a.f1 == 0 && (a.f2 == 0)) = false := by
    rw [← Bool.not_eq_true]
    simpa using hn
  rw [e]
  by_cases c : a.f2 = 0 <;> simp [c]
def nearP (a b : Rg) : Prop := a.f0.f0 = b.f0.f0 ∧ av b.f0 ≤ av a.f1 + 1
instance (a b : Rg) : Decidable (nearP a b) := by unfold nearP; infer_instance
theorem nearP_iff {a b : Rg} (ha : RW a) (hb : RW b) (h : av a.f0 ≤ av b.f0) : nearP a b ↔ av b.f0 ≤ av a.f1 + 1 := by
  unfold nearP
  refine ⟨fun h => h.2, fun h2 => ⟨?_, h2⟩⟩
  rcases ha.num with ⟨_, _, n1 | n1⟩ <;> rcases hb.num with ⟨_, _, n2 | n2⟩
  · rw [n1.1, n2.1]
  · omega
  · omega
  · rw [n1.1, n2.1]
theorem near_eq (a b : Rg) (ha : RW a) (hb : RW b) : addrset_near.f a.f0.f0 a.f0.f1 a.f0.f2 a.f1.f0 a.f1.f1 a.f1.f2 b.f0.f0 b.f0.f1 b.f0.f2 b.f1.f0 b.f1.f1 b.f1.f2 = some (decide (nearP a b)) := by
  unfold addrset_near.f nearP
  rw [next_eq a.f1 ha.2.1]
  by_cases c : a.f1.f0 = b.f0.f0
  · have c2 : a.f0.f0 = b.f0.f0 := ha.2.2.1.trans c
    simp only [c, bne_self_eq_false, Bool.false_eq_true, if_false, Option.bind_some, c2, true_and]
    by_cases d : a.f1 = topA a.f1.f0
    · have h1 := topA_max hb.1
      rw [← c, ← d] at h1
      have h3 : av b.f0 ≤ av a.f1 + 1 := by omega
      rw [← c, if_pos d]
      simp [h3]
    · obtain ⟨n1, n2, n3⟩ := nextA_spec ha.2.1 d
      rw [← c, if_neg d]
      simp only [if_true]
      rw [n2]
      simp only [bne_self_eq_false, Bool.false_eq_true, if_false]
      have e : address_Compare.f a.f1.f0 b.f0.f1 b.f0.f2 a.f1.f0 (nextA a.f1).f1 (nextA a.f1).f2 = some (cmpA b.f0 (nextA a.f1)) := by
        have := cmp_f b.f0 (nextA a.f1)
        rw [n2, ← c] at this
        exact this
      rw [e]
      simp only [Option.bind_some, Option.some.injEq, decide_eq_decide]
      rw [cmp_le' hb.1.1 n1.1, n3]
  · have c2 : ¬ a.f0.f0 = b.f0.f0 := fun e => c (ha.2.2.1.symm.trans e)
    simp [c, c2]
theorem joined_eq (a b : Rg) (ha : RW a) (hb : RW b) : intrusionref07_joined.f a.f0.f0 a.f0.f1 a.f0.f2 a.f1.f0 a.f1.f1 a.f1.f2 b.f0.f0 b.f0.f1 b.f0.f2 b.f1.f0 b.f1.f1 b.f1.f2 = some (decide (nearP a b)) := by
  unfold intrusionref07_joined.f nearP
  rw [before_eq a.f1 b.f0 ha.2.1.1 hb.1.1, last_eq a.f1 ha.2.1, after_eq a.f1]
  by_cases c : a.f0.f0 = b.f0.f0
  · have c2 : a.f1.f0 = b.f0.f0 := ha.2.2.1.symm.trans c
    simp only [c, bne_self_eq_false, Bool.false_eq_true, if_false, Option.bind_some, true_and]
    by_cases e : av a.f1 < av b.f0
    · simp only [e, decide_true, if_true]
      by_cases d : a.f1 = topA a.f1.f0
      · exfalso
        have h1 := topA_max hb.1
        rw [← c2, ← d] at h1
        omega
      · obtain ⟨n1, n2, n3⟩ := nextA_spec ha.2.1 d
        simp only [d, decide_false, Bool.false_eq_true, if_false, Option.some.injEq]
        rw [Bool.eq_iff_iff]
        simp only [Bool.and_eq_true, beq_iff_eq, decide_eq_true_eq]
        have h2 := av_eq n1.1 hb.1.1
        constructor
        · rintro ⟨g1, g2, g3⟩
          have : nextA a.f1 = b.f0 := by
            cases h : nextA a.f1
            cases h' : b.f0
            rw [h, h'] at g1 g2 g3
            simp only at g1 g2 g3
            rw [g1, g2, g3]
          have := h2.1 this
          omega
        · intro g
          have := h2.2 (by omega)
          rw [this]
          exact ⟨rfl, rfl, rfl⟩
    · simp only [e, decide_false, Bool.false_eq_true, if_false, Option.some.injEq]
      rw [eq_comm, decide_eq_true_eq]
      omega
  · simp [c]
end Go.Proofs.Ytcgfpffgiimgmaa.Q
end

section
set_option linter.unusedVariables false
set_option linter.unusedSimpArgs false
namespace Go.Proofs.Ytcgfpffgiimgmaa.Q
open Go.RowKit Go.Proofs.YtcgfpffgiimgmaaW.PrintWords Go.Proofs.YtcgfpffgiimgmaaW.PrintLast Go.Proofs.YtcgfpffgiimgmaaW.PrintMore
def inSpan (n : Int) (x : S52) : Bool := decide (x.f0 ≤ n) && decide (n ≤ x.f1)
def interval_Contains.f (l0 : List S52) (a1 : Int) : Option Bool := some (decide (0 ≤ a1) && (decide (a1 ≤ 4294967296) && l0.any (inSpan a1)))
end Go.Proofs.Ytcgfpffgiimgmaa.Q
end

section
set_option linter.unusedVariables false
set_option linter.unusedSimpArgs false
namespace Go.Proofs.Ytcgfpffgiimgmaa.Q
open Go.RowKit Go.Proofs.YtcgfpffgiimgmaaW.PrintWords Go.Proofs.YtcgfpffgiimgmaaW.PrintLast Go.Proofs.YtcgfpffgiimgmaaW.PrintMore
theorem rd_getR (l : List S66) (k : Nat) (hk : k < l.length) : rd_T66 l (k : Int) = l[k] := by
  simp [rd_T66, List.getD_eq_getElem?_getD, List.getElem?_eq_getElem hk]
def inRange (a : S36) (x : S66) : Bool := someB x && ((x.f0.f0 == a.f0) && (decide (cmpA x.f0 a ≤ 0) && decide (cmpA a x.f1 ≤ 0)))
def addrset_Contains.f (l0 : List S66) (a1_0 : Bool) (a1_1 : Int) (a1_2 : Int) : Option Bool := some (fineB ⟨a1_0, a1_1, a1_2⟩ && l0.any (inRange ⟨a1_0, a1_1, a1_2⟩))
end Go.Proofs.Ytcgfpffgiimgmaa.Q
end

section
set_option linter.unusedVariables false
set_option linter.unusedSimpArgs false
namespace Go.Proofs.Ytcgfpffgiimgmaa.Q
open Go.RowKit Go.Proofs.YtcgfpffgiimgmaaW.PrintWords Go.Proofs.YtcgfpffgiimgmaaW.PrintLast Go.Proofs.YtcgfpffgiimgmaaW.PrintMore Go.Proofs.Ytcgfpffgiimgmaa.Canon
theorem wid {x : Int} (h0 : -9223372036854775808 ≤ x) (h1 : x ≤ 9223372036854775807) : wrap64 x = x := by unfold wrap64; omega
theorem wsucc (i : Nat) (h : i < 9223372036854775807) : wrap64 ((i : Int) + 1) = ((i + 1 : Nat) : Int) := by rw [wid (by omega) (by omega)]; simp
theorem wpred (i : Nat) (h0 : 0 < i) (h : i < 9223372036854775807) : wrap64 ((i : Int) - 1) = ((i - 1 : Nat) : Int) := by rw [wid (by omega) (by omega)]; omega
theorem dropc {α : Type} (l : List α) (i : Nat) (h : i < l.length) : l.drop i = l[i] :: l.drop (i + 1) := List.drop_eq_getElem_cons h
def rsp (r : Rg) : Sp := (av r.f0, av r.f1)
def ASM (l : List Rg) (n : Int) : Prop := ∃ x ∈ l, RW x ∧ av x.f0 ≤ n ∧ n ≤ av x.f1
theorem asm_nil (n : Int) : ASM [] n ↔ False := by simp [ASM]
theorem asm_cons (x : Rg) (t : List Rg) (n : Int) : ASM (x :: t) n ↔ (RW x ∧ av x.f0 ≤ n ∧ n ≤ av x.f1) ∨ ASM t n := by
  unfold ASM
  simp only [List.mem_cons]
  constructor
  · rintro ⟨y, rfl | hy, h⟩
    · exact .inl h
    · exact .inr ⟨y, hy, h⟩
  · rintro (h | ⟨y, hy, h⟩)
    · exact ⟨x, .inl rfl, h⟩
    · exact ⟨y, .inr hy, h⟩
theorem asm_append (a b : List Rg) (n : Int) : ASM (a ++ b) n ↔ ASM a n ∨ ASM b n := by
  unfold ASM
  simp only [List.mem_append]
  constructor
  · rintro ⟨y, hy | hy, h⟩
    · exact .inl ⟨y, hy, h⟩
    · exact .inr ⟨y, hy, h⟩
  · rintro (⟨y, hy, h⟩ | ⟨y, hy, h⟩)
    · exact ⟨y, .inl hy, h⟩
    · exact ⟨y, .inr hy, h⟩
theorem asm_perm {a b : List Rg} (h : a.Perm b) (n : Int) : ASM a n ↔ ASM b n := by
  unfold ASM
  constructor
  · rintro ⟨x, hx, g⟩; exact ⟨x, h.mem_iff.1 hx, g⟩
  · rintro ⟨x, hx, g⟩; exact ⟨x, h.mem_iff.2 hx, g⟩
theorem asm_filter (l : List Rg) (hl : ∀ x ∈ l, RB x) (n : Int) : ASM (l.filter someB) n ↔ ASM l n := by
  unfold ASM
  constructor
  · rintro ⟨x, hx, g⟩; exact ⟨x, (List.mem_filter.1 hx).1, g⟩
  · rintro ⟨x, hx, g⟩; exact ⟨x, List.mem_filter.2 ⟨hx, (some_iff (hl x hx)).2 g.1⟩, g⟩
theorem asm_mem {l : List Rg} (hl : ∀ x ∈ l, RW x) (n : Int) : ASM l n ↔ Mem (l.map rsp) n := by
  unfold ASM Mem
  constructor
  · rintro ⟨x, hx, _, h⟩; exact ⟨rsp x, List.mem_map.2 ⟨x, hx, rfl⟩, h⟩
  · rintro ⟨y, hy, h⟩
    obtain ⟨x, hx, rfl⟩ := List.mem_map.1 hy
    exact ⟨x, hx, hl x hx, h⟩
def okN (n : Int) : Prop := (0 ≤ n ∧ n ≤ 4294967295) ∨ (680564733841876926926749214863536422912 ≤ n ∧ n < 1020847100762815390390123822295304634368)
theorem asm_ok {l : List Rg} {n : Int} (h : ASM l n) : okN n := by
  obtain ⟨x, _, hx, h1, h2⟩ := h
  obtain ⟨a, b, c | c⟩ := hx.num
  · exact .inl (by omega)
  · exact .inr (by omega)
def ACan (P : Int → Prop) (r : List Rg) : Prop := CanFrom 0 (r.map rsp) ∧ (∀ x ∈ r, RW x) ∧ ∀ n, ASM r n ↔ P n
theorem rsp_inj {x y : Rg} (hx : RW x) (hy : RW y) (h : rsp x = rsp y) : x = y := by
  unfold rsp at h
  injection h with h1 h2
  have e1 := av_inj hx.1.1 hy.1.1 h1
  have e2 := av_inj hx.2.1.1 hy.2.1.1 h2
  cases x; cases y
  simp only at e1 e2
  rw [e1, e2]
theorem map_rsp_inj : ∀ {a b : List Rg}, (∀ x ∈ a, RW x) → (∀ x ∈ b, RW x) → a.map rsp = b.map rsp → a = b
  | [], [], _, _, _ => rfl
  | [], y :: t, _, _, h => by simp at h
  | x :: s, [], _, _, h => by simp at h
  | x :: s, y :: t, ha, hb, h => by
    simp only [List.map_cons, List.cons.injEq] at h
    rw [rsp_inj (ha x (List.mem_cons_self ..)) (hb y (List.mem_cons_self ..)) h.1, map_rsp_inj (fun z hz => ha z (List.mem_cons_of_mem _ hz)) (fun z hz => hb z (List.mem_cons_of_mem _ hz)) h.2]
theorem ACan.uniq {P : Int → Prop} {a b : List Rg} (ha : ACan P a) (hb : ACan P b) : a = b :=
  map_rsp_inj ha.2.1 hb.2.1 (Canon.uniq _ _ 0 ha.1 hb.1 (fun n => by rw [← asm_mem ha.2.1, ← asm_mem hb.2.1, ha.2.2, hb.2.2]))
theorem ACan.congr {P Q : Int → Prop} {r : List Rg} (h : ACan P r) (e : ∀ n, P n ↔ Q n) : ACan Q r := ⟨h.1, h.2.1, fun n => (h.2.2 n).trans (e n)⟩
theorem ACan.self {r : List Rg} (h1 : CanFrom 0 (r.map rsp)) (h2 : ∀ x ∈ r, RW x) : ACan (ASM r) r := ⟨h1, h2, fun _ => Iff.rfl⟩
theorem ACan.nil {P : Int → Prop} (h : ∀ n, ¬ P n) : ACan P [] := ⟨trivial, by simp, fun n => by rw [asm_nil]; exact ⟨False.elim, h n⟩⟩
theorem greaterA_spec {a b : Ad} (ha : AW a) (hb : AW b) : (greaterA a b = a ∨ greaterA a b = b) ∧ av a ≤ av (greaterA a b) ∧ av b ≤ av (greaterA a b) := by
  unfold greaterA
  have := cmp_ge' ha hb
  split
  · rename_i h
    exact ⟨.inl rfl, by omega, by omega⟩
  · rename_i h
    exact ⟨.inr rfl, by omega, by omega⟩
theorem lessA_spec {a b : Ad} (ha : AW a) (hb : AW b) : (lessA a b = a ∨ lessA a b = b) ∧ av (lessA a b) ≤ av a ∧ av (lessA a b) ≤ av b := by
  unfold lessA
  have := cmp_le' ha hb
  split
  · rename_i h
    exact ⟨.inl rfl, by omega, by omega⟩
  · rename_i h
    exact ⟨.inr rfl, by omega, by omega⟩
def mrgR (out : List Rg) (x : Rg) : List Rg :=
  if h : 0 < out.length then (if nearP (out[out.length - 1]'(by omega)) x then out.set (out.length - 1) ⟨(out[out.length - 1]'(by omega)).f0, greaterA (out[out.length - 1]'(by omega)).f1 x.f1⟩ else out ++ [x]) else out ++ [x]
theorem mrgR_nil (x : Rg) : mrgR [] x = [x] := by simp [mrgR]
theorem mrgR_snoc (i : List Rg) (y x : Rg) : mrgR (i ++ [y]) x = if nearP y x then i ++ [(⟨y.f0, greaterA y.f1 x.f1⟩ : Rg)] else i ++ [y] ++ [x] := by
  have hl : (i ++ [y]).length - 1 = i.length := by simp
  have hg : (i ++ [y])[(i ++ [y]).length - 1]'(by simp) = y := by simp
  unfold mrgR
  rw [dif_pos (by simp)]
  rw [hg, hl]
  split
  · simp
  · rfl
theorem mrgR_len (out : List Rg) (x : Rg) : out.length ≤ (mrgR out x).length ∧ (mrgR out x).length ≤ out.length + 1 := by
  unfold mrgR
  split
  · split <;> simp
  · simp
theorem foldR_len : ∀ (L out : List Rg), (L.foldl mrgR out).length ≤ out.length + L.length
  | [], out => by simp
  | x :: t, out => by
    have h1 := foldR_len t (mrgR out x)
    have h2 := (mrgR_len out x).2
    simp only [List.foldl_cons, List.length_cons]
    omega
theorem joinRW {y x : Rg} (hy : RW y) (hx : RW x) (hn : nearP y x) : RW ⟨y.f0, greaterA y.f1 x.f1⟩ := by
  obtain ⟨g1, g2, g3⟩ := greaterA_spec hy.2.1.1 hx.2.1.1
  refine ⟨hy.1, ?_, ?_, Int.le_trans hy.2.2.2 g2⟩
  · rcases g1 with e | e
    · show AF (greaterA y.f1 x.f1); rw [e]; exact hy.2.1
    · show AF (greaterA y.f1 x.f1); rw [e]; exact hx.2.1
  · show y.f0.f0 = (greaterA y.f1 x.f1).f0
    rcases g1 with e | e
    · rw [e]; exact hy.2.2.1
    · rw [e]; exact hn.1.trans hx.2.2.1
theorem mrgR_RW {out : List Rg} {x : Rg} (ho : ∀ z ∈ out, RW z) (hx : RW x) : ∀ z ∈ mrgR out x, RW z := by
  rcases List.eq_nil_or_concat out with rfl | ⟨j, y, rfl⟩
  · rw [mrgR_nil]; intro z h; rw [List.mem_singleton.1 h]; exact hx
  · have hy := ho y (by simp)
    rw [List.concat_eq_append, mrgR_snoc]
    split
    · rename_i hn
      intro z h
      rcases List.mem_append.1 h with h | h
      · exact ho z (by simp [h])
      · rw [List.mem_singleton.1 h]; exact joinRW hy hx hn
    · intro z h
      rcases List.mem_append.1 h with h | h
      · exact ho z (by rw [List.concat_eq_append]; exact h)
      · rw [List.mem_singleton.1 h]; exact hx
theorem ev_aNormal0 (L : List Rg) (hl : L.length < 2932031007402) (hL : ∀ x ∈ L, RW x) : ∀ (d i : Nat) (out : List Rg), L.length - i = d → i ≤ L.length → out.length ≤ i → (∀ x ∈ out, RW x) → Ev (fun k => addrset_Normal.l0 k out L (L.length : Int) (i : Int)) ((L.drop i).foldl mrgR out) := by
  intro d
  induction d with
  | zero =>
    intro i out hd hi ho _
    have : i = L.length := by omega
    subst this
    refine Ev.step (f := fun _ => some out) (fun k => ?_) ?_
    · simp only [addrset_Normal.l0]; rw [if_neg (by omega)]
    · simpa using Ev.now out
  | succ d ih =>
    intro i out hd hi ho hw
    have hlt : i < L.length := by omega
    have hx := hL L[i] (List.getElem_mem hlt)
    rw [dropc L i hlt, List.foldl_cons]
    have h2 := ih (i + 1) (mrgR out L[i]) (by omega) (by omega) (by have := (mrgR_len out L[i]).2; omega) (mrgR_RW hw hx)
    refine Ev.step (fun k => ?_) h2
    simp only [addrset_Normal.l0]
    rw [if_pos (by omega), if_pos (by omega), if_pos (by omega), rd_getR L i hlt]
    by_cases h0 : 0 < out.length
    · have hy := hw (out[out.length - 1]'(by omega)) (List.getElem_mem _)
      rw [show wrap64 ((out.length : Int) - 1) = ((out.length - 1 : Nat) : Int) from wpred _ h0 (by omega), if_pos (by omega), if_pos (by omega), if_pos (by omega), rd_getR out (out.length - 1) (by omega), near_eq _ _ hy hx]
      simp only [Option.bind_some]
      unfold mrgR
      rw [dif_pos h0]
      by_cases hn : nearP (out[out.length - 1]'(by omega)) L[i]
      · rw [if_pos (decide_eq_true hn), if_pos hn, greater_eq, wsucc i (by omega)]
        rfl
      · rw [if_neg (by simpa using hn), if_neg hn, if_pos (by omega), wsucc i (by omega)]
    · have e : out = [] := List.eq_nil_of_length_eq_zero (by omega)
      subst e
      rw [if_neg (by simp [wrap64]), if_pos (by simp), wsucc i (by omega), mrgR_nil]
      rfl
theorem mrgR_spec : ∀ (L i : List Rg) (y : Rg), (∀ x ∈ L, RW x) → L.Pairwise (fun a b => av a.f0 ≤ av b.f0) → (∀ x ∈ L, av y.f0 ≤ av x.f0) → CanFrom 0 ((i ++ [y]).map rsp) → (∀ x ∈ i ++ [y], RW x) → ACan (fun n => ASM (i ++ [y]) n ∨ ASM L n) (L.foldl mrgR (i ++ [y]))
  | [], i, y, _, _, _, hc, hm => by
    refine ⟨hc, hm, fun n => ?_⟩
    simp [asm_nil]
  | x :: t, i, y, hL, hp, hy, hc, hm => by
    have hx := hL x (List.mem_cons_self ..)
    have hwy := hm y (by simp)
    have ht : ∀ z ∈ t, RW z := fun z hz => hL z (List.mem_cons_of_mem _ hz)
    obtain ⟨p1, p2⟩ := List.pairwise_cons.1 hp
    rw [List.foldl_cons, mrgR_snoc]
    have hxy := hy x (List.mem_cons_self ..)
    have hni := nearP_iff hwy hx hxy
    have hc0 := hc
    rw [List.map_append, can_append] at hc
    obtain ⟨c1, c2, _, c4⟩ := hc
    simp only [List.map_cons, List.map_nil, List.mem_singleton, forall_eq] at c2 c4
    have w1 : av y.f0 ≤ av y.f1 := hwy.2.2.2
    have x2 : av x.f0 ≤ av x.f1 := hx.2.2.2
    by_cases hj : nearP y x
    · rw [if_pos hj]
      have hj2 := hni.1 hj
      obtain ⟨g1, g2, g3⟩ := greaterA_spec hwy.2.1.1 hx.2.1.1
      have hjw := joinRW hwy hx hj
      have g4 : av (greaterA y.f1 x.f1) = av y.f1 ∨ av (greaterA y.f1 x.f1) = av x.f1 := by
        rcases g1 with e | e
        · exact .inl (by rw [e])
        · exact .inr (by rw [e])
      generalize greaterA y.f1 x.f1 = m at g2 g3 g4 hjw
      have h := mrgR_spec t i ⟨y.f0, m⟩ ht p2 (fun z hz => Int.le_trans hxy (p1 z hz)) (by
        rw [List.map_append, can_append]
        refine ⟨c1, ?_, ⟨av y.f0, by simp [rsp, CanFrom]; omega⟩, ?_⟩
        · intro z hz u hu
          simp only [List.map_cons, List.map_nil, List.mem_singleton] at hu
          subst hu
          exact c2 z hz
        · intro u hu
          simp only [List.map_cons, List.map_nil, List.mem_singleton] at hu
          subst hu
          exact c4) (by
        intro z hz
        rcases List.mem_append.1 hz with hz | hz
        · exact hm z (by simp [hz])
        · rw [List.mem_singleton.1 hz]; exact hjw)
      refine h.congr (fun n => ?_)
      rw [asm_append, asm_append, asm_cons, asm_cons, asm_cons, asm_nil]
      simp only [or_false]
      constructor
      · rintro ((h | ⟨_, h, h3⟩) | h)
        · exact .inl (.inl h)
        · by_cases hn : n ≤ av y.f1
          · exact .inl (.inr ⟨hwy, h, hn⟩)
          · have h3 : n ≤ av m := h3
            exact .inr (.inl ⟨hx, by omega, by omega⟩)
        · exact .inr (.inr h)
      · rintro ((h | ⟨_, h, h3⟩) | ⟨_, h, h3⟩ | h)
        · exact .inl (.inl h)
        · exact .inl (.inr ⟨hjw, h, show n ≤ av m from by omega⟩)
        · exact .inl (.inr ⟨hjw, show av y.f0 ≤ n from by omega, show n ≤ av m from by omega⟩)
        · exact .inr h
    · rw [if_neg hj]
      have hj2 : ¬ av x.f0 ≤ av y.f1 + 1 := fun e => hj (hni.2 e)
      have h := mrgR_spec t (i ++ [y]) x ht p2 p1 (by
        rw [List.map_append, can_append]
        refine ⟨hc0, ?_, ⟨av x.f0, by simp [rsp, CanFrom]; omega⟩, ?_⟩
        · intro z hz u hu
          simp only [List.map_cons, List.map_nil, List.mem_singleton] at hu
          subst hu
          rw [List.map_append] at hz
          rcases List.mem_append.1 hz with hz | hz
          · have := c2 z hz
            simp only [rsp] at this ⊢
            omega
          · simp only [List.map_cons, List.map_nil, List.mem_singleton] at hz
            subst hz
            simp only [rsp]
            omega
        · intro u hu
          simp only [List.map_cons, List.map_nil, List.mem_singleton] at hu
          subst hu
          have := hx.num.1
          simpa [rsp] using this) (by
        intro z hz
        rcases List.mem_append.1 hz with hz | hz
        · exact hm z hz
        · rw [List.mem_singleton.1 hz]; exact hx)
      refine h.congr (fun n => ?_)
      rw [asm_append (i ++ [y]) [x], asm_cons x t, asm_cons x [], asm_nil]
      simp only [or_false, or_assoc]
theorem mergeR_spec (L : List Rg) (hL : ∀ x ∈ L, RW x) (hp : L.Pairwise (fun a b => av a.f0 ≤ av b.f0)) : ACan (ASM L) (L.foldl mrgR []) := by
  cases L with
  | nil => exact ⟨trivial, by simp, fun n => Iff.rfl⟩
  | cons x t =>
    obtain ⟨p1, p2⟩ := List.pairwise_cons.1 hp
    have hx := hL x (List.mem_cons_self ..)
    have h := mrgR_spec t [] x (fun z hz => hL z (List.mem_cons_of_mem _ hz)) p2 p1 ⟨hx.num.1, hx.2.2.2, trivial⟩ (by simp; exact hx)
    rw [List.foldl_cons, mrgR_nil]
    refine h.congr (fun n => ?_)
    rw [List.nil_append, asm_cons, asm_cons, asm_nil, or_false]
theorem aNormal_spec (l : List Rg) (hl : l.length < 2932031007402) (hb : ∀ x ∈ l, RB x) : ∃ r, Ev (fun k => addrset_Normal.f k l) r ∧ ACan (ASM l) r ∧ r.length ≤ l.length := by
  obtain ⟨s1, s2, s3⟩ := sortRanges_spec (l.filter someB)
  have hw : ∀ x ∈ sortRanges (l.filter someB), RW x := fun x hx => by
    have h1 := List.mem_filter.1 (s2.mem_iff.1 hx)
    exact (some_iff (hb x h1.1)).1 h1.2
  have hlen := List.length_filter_le someB l
  refine ⟨(sortRanges (l.filter someB)).foldl mrgR [], ?_, ?_, ?_⟩
  · unfold addrset_Normal.f addrset_kept.f
    rw [if_pos hl]
    have h := ev_aNormal0 (sortRanges (l.filter someB)) (by omega) hw _ 0 [] rfl (Nat.zero_le _) (Nat.le_refl _) (by simp)
    simpa using h
  · refine (mergeR_spec _ hw ?_).congr (fun n => ?_)
    · rw [List.pairwise_iff_getElem] at s3 ⊢
      intro i j hi hj hij
      have := s3 i j hi hj hij
      rw [ltA_iff (hw _ (List.getElem_mem hj)).1.1 (hw _ (List.getElem_mem hi)).1.1] at this
      omega
    · rw [asm_perm s2, asm_filter l hb]
  · have := foldR_len (sortRanges (l.filter someB)) []
    simp at this
    omega
def mergeA (x r : Rg) : Rg := ⟨if av x.f0 < av r.f0 then x.f0 else r.f0, if av r.f1 < av x.f1 then x.f1 else r.f1⟩
def insR (r : Rg) : List Rg → List Rg
  | [] => [r]
  | x :: t => if av x.f1 + 1 < av r.f0 then x :: insR r t else if av r.f1 + 1 < av x.f0 then r :: x :: t else insR (mergeA x r) t
theorem mergeA_RW {x r : Rg} (hx : RW x) (hr : RW r) (h1 : ¬ av x.f1 + 1 < av r.f0) (h2 : ¬ av r.f1 + 1 < av x.f0) : RW (mergeA x r) := by
  have hf : x.f0.f0 = r.f0.f0 := by
    rcases hx.num with ⟨_, _, n1 | n1⟩ <;> rcases hr.num with ⟨_, _, n2 | n2⟩
    · rw [n1.1, n2.1]
    · omega
    · omega
    · rw [n1.1, n2.1]
  have e1 := hx.2.2.1
  have e2 := hr.2.2.1
  unfold mergeA
  refine ⟨?_, ?_, ?_, ?_⟩
  · show AF (if _ then _ else _)
    split
    · exact hx.1
    · exact hr.1
  · show AF (if _ then _ else _)
    split
    · exact hx.2.1
    · exact hr.2.1
  · show (if _ then _ else _ : Ad).f0 = (if _ then _ else _ : Ad).f0
    split <;> split
    · exact e1
    · rw [hf]; exact e2
    · rw [← hf]; exact e1
    · exact e2
  · have := hx.2.2.2
    have := hr.2.2.2
    show av (if _ then _ else _) ≤ av (if _ then _ else _)
    split <;> split <;> omega
theorem insR_ins : ∀ (l : List Rg) (r : Rg), RW r → (∀ x ∈ l, RW x) → (insR r l).map rsp = ins (rsp r) (l.map rsp) ∧ ∀ z ∈ insR r l, RW z
  | [], r, hr, _ => ⟨rfl, fun z hz => by rw [List.mem_singleton.1 hz]; exact hr⟩
  | x :: t, r, hr, hl => by
    have hx := hl x (List.mem_cons_self ..)
    have ht : ∀ z ∈ t, RW z := fun z hz => hl z (List.mem_cons_of_mem _ hz)
    have x2 := hx.2.2.2
    have r2 := hr.2.2.2
    simp only [insR, List.map_cons, ins]
    show _ = (if av r.f1 + 1 < av x.f0 then _ else if av x.f1 + 1 < av r.f0 then _ else _) ∧ _
    by_cases h1 : av x.f1 + 1 < av r.f0
    · rw [if_pos h1, if_neg (by omega), if_pos h1]
      obtain ⟨e1, e2⟩ := insR_ins t r hr ht
      refine ⟨by rw [List.map_cons, e1], fun z hz => ?_⟩
      rcases List.mem_cons.1 hz with rfl | hz
      · exact hx
      · exact e2 z hz
    · rw [if_neg h1]
      by_cases h2 : av r.f1 + 1 < av x.f0
      · rw [if_pos h2, if_pos h2]
        refine ⟨rfl, fun z hz => ?_⟩
        rcases List.mem_cons.1 hz with rfl | hz
        · exact hr
        · exact hl z hz
      · rw [if_neg h2, if_neg h2, if_neg h1]
        have hm := mergeA_RW hx hr h1 h2
        obtain ⟨e1, e2⟩ := insR_ins t (mergeA x r) hm ht
        refine ⟨?_, e2⟩
        rw [e1]
        congr 1
        show (av (if _ then _ else _), av (if _ then _ else _)) = (min (av r.f0) (av x.f0), max (av r.f1) (av x.f1))
        refine Prod.ext ?_ ?_
        · show av (if _ then _ else _) = min (av r.f0) (av x.f0)
          split <;> omega
        · show av (if _ then _ else _) = max (av r.f1) (av x.f1)
          split <;> omega
theorem insR_spec {l : List Rg} {r : Rg} (hc : CanFrom 0 (l.map rsp)) (hl : ∀ x ∈ l, RW x) (hr : RW r) : ACan (fun n => (av r.f0 ≤ n ∧ n ≤ av r.f1) ∨ ASM l n) (insR r l) := by
  obtain ⟨e1, e2⟩ := insR_ins l r hr hl
  refine ⟨?_, e2, fun n => ?_⟩
  · rw [e1]; exact ins_can _ _ _ hc hr.num.1 hr.2.2.2
  · rw [asm_mem e2, e1, ins_mem _ _ 0 n hc hr.2.2.2]
    show (_ ∧ _) ∨ _ ↔ (_ ∧ _) ∨ ASM l n
    rw [asm_mem hl]
    rfl
theorem insR_len : ∀ (l : List Rg) (r : Rg), (insR r l).length ≤ l.length + 1
  | [], r => by simp [insR]
  | x :: t, r => by
    unfold insR
    split
    · have := insR_len t r; simp; omega
    · split
      · simp
      · have := insR_len t (mergeA x r); simp; omega
theorem ev_radd_done (l : List Rg) (r : Rg) (hl : l.length < 2932031007000) : ∀ (d i : Nat) (out : List Rg), l.length - i = d → i ≤ l.length → out.length ≤ i + 1 → Ev (fun k => intrusionref07_add.l0 k l out true (i : Int) r.f0.f0 r.f0.f1 r.f0.f2 r.f1.f0 r.f1.f1 r.f1.f2) (out ++ l.drop i) := by
  intro d
  induction d with
  | zero =>
    intro i out hd hi ho
    have : i = l.length := by omega
    subst this
    refine Ev.step (f := fun _ => some out) (fun k => ?_) (by simpa using Ev.now out)
    simp only [intrusionref07_add.l0]; rw [if_neg (by omega), if_pos (by trivial)]
  | succ d ih =>
    intro i out hd hi ho
    have hlt : i < l.length := by omega
    have h2 := ih (i + 1) (out ++ [l[i]]) (by omega) (by omega) (by simp; omega)
    rw [dropc l i hlt, show out ++ l[i] :: l.drop (i + 1) = out ++ [l[i]] ++ l.drop (i + 1) from by simp]
    refine Ev.step (f := fun k => intrusionref07_add.j1 k l out true (i : Int) true r.f0.f0 r.f0.f1 r.f0.f2 r.f1.f0 r.f1.f1 r.f1.f2 l[i].f0.f0 l[i].f0.f1 l[i].f0.f2 l[i].f1.f0 l[i].f1.f1 l[i].f1.f2) (fun k => ?_) (Ev.step (fun k => ?_) h2)
    · simp only [intrusionref07_add.l0]
      rw [if_pos (by omega), if_pos (by omega), if_pos (by trivial), rd_getR l i hlt]
    · simp only [intrusionref07_add.j1]
      rw [if_pos (by trivial), if_pos (by omega), wsucc i (by omega)]
theorem apart_iff {x r : Rg} (hx : RW x) (hr : RW r) : (av x.f1 < av r.f0 ∧ ¬ nearP x r) ↔ av x.f1 + 1 < av r.f0 := by
  have x2 := hx.2.2.2
  constructor
  · rintro ⟨h1, h2⟩
    have h3 := nearP_iff hx hr (by omega)
    apply Classical.byContradiction
    intro hc
    exact h2 (h3.2 (by omega))
  · intro h
    have := nearP_iff hx hr (by omega)
    exact ⟨by omega, fun e => by have := this.1 e; omega⟩
theorem ev_radd0 (l : List Rg) (hl : l.length < 2932031007000) (hL : ∀ x ∈ l, RW x) : ∀ (d i : Nat) (out : List Rg) (r : Rg), RW r → l.length - i = d → i ≤ l.length → out.length ≤ i → Ev (fun k => intrusionref07_add.l0 k l out false (i : Int) r.f0.f0 r.f0.f1 r.f0.f2 r.f1.f0 r.f1.f1 r.f1.f2) (out ++ insR r (l.drop i)) := by
  intro d
  induction d with
  | zero =>
    intro i out r hr hd hi ho
    have : i = l.length := by omega
    subst this
    refine Ev.step (f := fun _ => some (out ++ [r])) (fun k => ?_) (by simpa [insR] using Ev.now (out ++ [r]))
    simp only [intrusionref07_add.l0]; rw [if_neg (by omega), if_neg (by decide), if_pos (by omega)]
  | succ d ih =>
    intro i out r hr hd hi ho
    have hlt : i < l.length := by omega
    have hx := hL l[i] (List.getElem_mem hlt)
    rw [dropc l i hlt]
    unfold insR
    have hj2m : ¬ av l[i].f1 + 1 < av r.f0 → ¬ av r.f1 + 1 < av l[i].f0 → Ev (fun k => intrusionref07_add.j2 k l out false (i : Int) false r.f0.f0 r.f0.f1 r.f0.f2 r.f1.f0 r.f1.f1 r.f1.f2 l[i].f0.f0 l[i].f0.f1 l[i].f0.f2 l[i].f1.f0 l[i].f1.f1 l[i].f1.f2) (out ++ insR (mergeA l[i] r) (l.drop (i + 1))) := fun g1 g2 => by
      refine Ev.step (fun k => ?_) (ih (i + 1) out (mergeA l[i] r) (mergeA_RW hx hr g1 g2) (by omega) (by omega) (by omega))
      simp only [intrusionref07_add.j2]
      rw [if_neg (by decide), before_eq l[i].f0 r.f0 hx.1.1 hr.1.1, before_eq r.f1 l[i].f1 hr.2.1.1 hx.2.1.1, wsucc i (by omega)]
      simp only [Option.bind_some, decide_eq_true_eq]
      unfold mergeA
      by_cases e1 : av l[i].f0 < av r.f0
      · rw [if_pos e1]
        by_cases e2 : av r.f1 < av l[i].f1
        · rw [if_pos e2]; simp only [if_pos e1, if_pos e2]
        · rw [if_neg e2]; simp only [if_pos e1, if_neg e2]
      · rw [if_neg e1]
        by_cases e2 : av r.f1 < av l[i].f1
        · rw [if_pos e2]; simp only [if_neg e1, if_pos e2]
        · rw [if_neg e2]; simp only [if_neg e1, if_neg e2]
    have hj2 : ¬ av l[i].f1 + 1 < av r.f0 → Ev (fun k => intrusionref07_add.j2 k l out false (i : Int) (decide (av r.f1 + 1 < av l[i].f0)) r.f0.f0 r.f0.f1 r.f0.f2 r.f1.f0 r.f1.f1 r.f1.f2 l[i].f0.f0 l[i].f0.f1 l[i].f0.f2 l[i].f1.f0 l[i].f1.f1 l[i].f1.f2) (out ++ (if av r.f1 + 1 < av l[i].f0 then r :: l[i] :: l.drop (i + 1) else insR (mergeA l[i] r) (l.drop (i + 1)))) := fun g1 => by
      by_cases g2 : av r.f1 + 1 < av l[i].f0
      · rw [if_pos g2, decide_eq_true g2]
        have h3 := ev_radd_done l r hl (l.length - (i + 1)) (i + 1) (out ++ [r, l[i]]) rfl (by omega) (by simp; omega)
        rw [show out ++ r :: l[i] :: l.drop (i + 1) = out ++ [r, l[i]] ++ l.drop (i + 1) from by simp]
        refine Ev.step (fun k => ?_) h3
        simp only [intrusionref07_add.j2]
        rw [if_pos (by trivial)]
        simp only [Option.bind_some]
        rw [if_pos (by simp; omega), wsucc i (by omega)]
      · rw [if_neg g2, decide_eq_false g2]
        exact hj2m g1 g2
    have hj1 : Ev (fun k => intrusionref07_add.j1 k l out false (i : Int) (decide (av l[i].f1 + 1 < av r.f0)) r.f0.f0 r.f0.f1 r.f0.f2 r.f1.f0 r.f1.f1 r.f1.f2 l[i].f0.f0 l[i].f0.f1 l[i].f0.f2 l[i].f1.f0 l[i].f1.f1 l[i].f1.f2) (out ++ (if av l[i].f1 + 1 < av r.f0 then l[i] :: insR r (l.drop (i + 1)) else if av r.f1 + 1 < av l[i].f0 then r :: l[i] :: l.drop (i + 1) else insR (mergeA l[i] r) (l.drop (i + 1)))) := by
      by_cases g1 : av l[i].f1 + 1 < av r.f0
      · rw [if_pos g1, decide_eq_true g1]
        have h3 := ih (i + 1) (out ++ [l[i]]) r hr (by omega) (by omega) (by simp; omega)
        rw [show out ++ l[i] :: insR r (l.drop (i + 1)) = out ++ [l[i]] ++ insR r (l.drop (i + 1)) from by simp]
        refine Ev.step (fun k => ?_) h3
        simp only [intrusionref07_add.j1]
        rw [if_pos (by trivial), if_pos (by omega), wsucc i (by omega)]
      · rw [if_neg g1, decide_eq_false g1]
        refine Ev.step (fun k => ?_) (hj2 g1)
        simp only [intrusionref07_add.j1]
        rw [if_neg (by decide), before_eq r.f1 l[i].f0 hr.2.1.1 hx.1.1]
        simp only [Option.bind_some, decide_eq_true_eq]
        have ha := apart_iff hr hx
        by_cases e : av r.f1 < av l[i].f0
        · rw [if_pos e, joined_eq r l[i] hr hx]
          simp only [Option.bind_some]
          congr 1
          rw [Bool.eq_iff_iff]
          simp only [Bool.not_eq_true', decide_eq_false_iff_not, decide_eq_true_eq]
          rw [← ha]
          exact ⟨fun h => ⟨e, h⟩, fun h => h.2⟩
        · rw [if_neg e, decide_eq_false (by omega)]
    refine Ev.step (fun k => ?_) hj1
    simp only [intrusionref07_add.l0]
    rw [if_pos (by omega), if_pos (by omega), if_neg (by decide), rd_getR l i hlt, before_eq l[i].f1 r.f0 hx.2.1.1 hr.1.1]
    simp only [Option.bind_some, decide_eq_true_eq]
    have ha := apart_iff hx hr
    by_cases e : av l[i].f1 < av r.f0
    · rw [if_pos e, joined_eq l[i] r hx hr]
      simp only [Option.bind_some]
      congr 1
      rw [Bool.eq_iff_iff]
      simp only [Bool.not_eq_true', decide_eq_false_iff_not, decide_eq_true_eq]
      rw [← ha]
      exact ⟨fun h => ⟨e, h⟩, fun h => h.2⟩
    · rw [if_neg e, decide_eq_false (by omega)]
theorem radd_spec {P : Int → Prop} {l : List Rg} (h : ACan P l) (r : Rg) (hr : RW r) (hl : l.length < 2932031007000) : ∃ s, Ev (fun k => intrusionref07_add.f k l r.f0.f0 r.f0.f1 r.f0.f2 r.f1.f0 r.f1.f1 r.f1.f2) s ∧ ACan (fun n => P n ∨ (av r.f0 ≤ n ∧ n ≤ av r.f1)) s ∧ s.length ≤ l.length + 1 := by
  refine ⟨insR r l, ?_, ?_, insR_len l r⟩
  · have := ev_radd0 l hl h.2.1 l.length 0 [] r hr rfl (Nat.zero_le _) (Nat.le_refl _)
    simpa [intrusionref07_add.f] using this
  · refine (insR_spec h.1 h.2.1 hr).congr (fun n => ?_)
    rw [h.2.2 n]
    exact or_comm
theorem ev_rNormal0 (L : List Rg) (hl : L.length < 2932031007000) (hL : ∀ x ∈ L, RB x) : ∀ (d i : Nat) (out : List Rg) (P : Int → Prop), L.length - i = d → i ≤ L.length → out.length ≤ i → ACan P out → ∃ r, Ev (fun k => intrusionref07_Normal.l0 k L out (i : Int)) r ∧ ACan (fun n => P n ∨ ASM (L.drop i) n) r ∧ r.length ≤ L.length := by
  intro d
  induction d with
  | zero =>
    intro i out P hd hi ho hc
    have : i = L.length := by omega
    subst this
    refine ⟨out, Ev.step (f := fun _ => some out) (fun k => ?_) (Ev.now out), hc.congr (fun n => ?_), ho⟩
    · simp only [intrusionref07_Normal.l0]; rw [if_neg (by omega)]
    · rw [List.drop_length, asm_nil, or_false]
  | succ d ih =>
    intro i out P hd hi ho hc
    have hlt : i < L.length := by omega
    have hb := hL L[i] (List.getElem_mem hlt)
    by_cases hs : RW L[i]
    · obtain ⟨s, s1, s2, s3⟩ := radd_spec hc L[i] hs (by omega)
      obtain ⟨r, r1, r2, r3⟩ := ih (i + 1) s _ (by omega) (by omega) (by omega) s2
      refine ⟨r, ?_, r2.congr (fun n => ?_), r3⟩
      · refine Ev.step (f := fun k => (intrusionref07_add.f k out L[i].f0.f0 L[i].f0.f1 L[i].f0.f2 L[i].f1.f0 L[i].f1.f1 L[i].f1.f2).bind fun t => intrusionref07_Normal.l0 k L t ((i + 1 : Nat) : Int)) (fun k => ?_) (Ev.bind s1 r1)
        simp only [intrusionref07_Normal.l0]
        rw [if_pos (by omega), if_pos (by omega), rd_getR L i hlt, rsome_eq _ hb, (some_iff hb).2 hs, wsucc i (by omega)]
        rfl
      · rw [dropc L i hlt, asm_cons, or_assoc]
        exact or_congr_right (or_congr_left ⟨fun h => ⟨hs, h⟩, fun h => h.2⟩)
    · obtain ⟨r, r1, r2, r3⟩ := ih (i + 1) out P (by omega) (by omega) (by omega) hc
      refine ⟨r, ?_, r2.congr (fun n => ?_), r3⟩
      · refine Ev.step (fun k => ?_) r1
        simp only [intrusionref07_Normal.l0]
        rw [if_pos (by omega), if_pos (by omega), rd_getR L i hlt, rsome_eq _ hb, Bool.eq_false_iff.2 (fun h => hs ((some_iff hb).1 h)), wsucc i (by omega)]
        rfl
      · rw [dropc L i hlt, asm_cons]
        exact or_congr_right ⟨.inr, fun h => h.elim (fun h => (hs h.1).elim) id⟩
theorem ACan.none : ACan (fun _ => False) [] := ACan.nil (fun _ h => h)
theorem arNormal_spec (l : List Rg) (hl : l.length < 2932031007000) (hb : ∀ x ∈ l, RB x) : ∃ r, Ev (fun k => intrusionref07_Normal.f k l) r ∧ ACan (ASM l) r ∧ r.length ≤ l.length := by
  obtain ⟨r, r1, r2, r3⟩ := ev_rNormal0 l hl hb l.length 0 [] _ rfl (Nat.zero_le _) (Nat.le_refl _) ACan.none
  exact ⟨r, r1, r2.congr (fun n => by simp), r3⟩
theorem ev_aSame (L : List Rg) (hl : L.length < 2932031007402) : ∀ (d i : Nat), L.length - i = d → i ≤ L.length → Ev (fun k => intrusionref07_Same.l0 k L L (i : Int)) true := by
  intro d
  induction d with
  | zero =>
    intro i hd hi
    have : i = L.length := by omega
    subst this
    refine Ev.step (f := fun _ => some true) (fun k => ?_) (Ev.now true)
    simp only [intrusionref07_Same.l0]; rw [if_neg (by omega)]
  | succ d ih =>
    intro i hd hi
    have hlt : i < L.length := by omega
    refine Ev.step (fun k => ?_) (ih (i + 1) (by omega) (by omega))
    simp only [intrusionref07_Same.l0]
    rw [if_pos (by omega), if_pos (by omega), if_pos (by omega), rd_getR L i hlt, wsucc i (by omega)]
    simp
theorem aSame_ev (L : List Rg) (hl : L.length < 2932031007402) : Ev (fun k => intrusionref07_Same.f k L L) true := by
  have h := ev_aSame L hl L.length 0 rfl (Nat.zero_le _)
  refine Ev.congr (fun k => ?_) h
  unfold intrusionref07_Same.f
  rw [if_pos (by trivial)]
  rfl
end Go.Proofs.Ytcgfpffgiimgmaa.Q
end

section
namespace Go.Proofs.Ytcgfpffgiimgmaa.Q
open Go.RowKit Go.Proofs.YtcgfpffgiimgmaaW.PrintWords Go.Proofs.YtcgfpffgiimgmaaW.PrintLast Go.Proofs.YtcgfpffgiimgmaaW.PrintMore
attribute [local go_sem] max2_int min2_int max_two min_two max_three min_three max_four min_four
set_option linter.unusedVariables false
set_option linter.unusedSimpArgs false
def intrusionref07_Valid.l0 : Nat → List (S66) → Int → Option (Bool)
  | 0, _, _ => none
  | k + 1, x0, x3 => if x3 < (x0.length : Int) then (if 0 ≤ x3 then ((intrusionref07_Some.f ((rd_T66 x0 x3).f0.f0) ((rd_T66 x0 x3).f0.f1) ((rd_T66 x0 x3).f0.f2) ((rd_T66 x0 x3).f1.f0) ((rd_T66 x0 x3).f1.f1) ((rd_T66 x0 x3).f1.f2)).bind fun t640 => (if t640 = true then (if x3 > 0 then (if 0 ≤ (wrap64 (x3 - 1)) then (if (wrap64 (x3 - 1)) < (x0.length : Int) then ((intrusionref07_Before.f ((rd_T66 x0 (wrap64 (x3 - 1))).f1.f0) ((rd_T66 x0 (wrap64 (x3 - 1))).f1.f1) ((rd_T66 x0 (wrap64 (x3 - 1))).f1.f2) ((rd_T66 x0 x3).f0.f0) ((rd_T66 x0 x3).f0.f1) ((rd_T66 x0 x3).f0.f2)).bind fun t643 => (if t643 = true then ((intrusionref07_joined.f ((rd_T66 x0 (wrap64 (x3 - 1))).f0.f0) ((rd_T66 x0 (wrap64 (x3 - 1))).f0.f1) ((rd_T66 x0 (wrap64 (x3 - 1))).f0.f2) ((rd_T66 x0 (wrap64 (x3 - 1))).f1.f0) ((rd_T66 x0 (wrap64 (x3 - 1))).f1.f1) ((rd_T66 x0 (wrap64 (x3 - 1))).f1.f2) ((rd_T66 x0 x3).f0.f0) ((rd_T66 x0 x3).f0.f1) ((rd_T66 x0 x3).f0.f2) ((rd_T66 x0 x3).f1.f0) ((rd_T66 x0 x3).f1.f1) ((rd_T66 x0 x3).f1.f2)).bind fun t646 => (if t646 = true then (some false) else (intrusionref07_Valid.l0 k x0 (wrap64 (x3 + 1))))) else (some false))) else (none)) else (none)) else (intrusionref07_Valid.l0 k x0 (wrap64 (x3 + 1)))) else (some false))) else (none)) else (some true)
def intrusionref07_Valid.f (k : Nat) (l0 : List (S66)) : Option (Bool) := intrusionref07_Valid.l0 k l0 0
theorem intrusionref07_Valid.mono_l : ∀ k, (∀ y0 y1, LeO (intrusionref07_Valid.l0 k y0 y1) (intrusionref07_Valid.l0 (k + 1) y0 y1))
  | 0 => fun _ _ r h => by simp [intrusionref07_Valid.l0] at h
  | k + 1 => by
    have ih0 := intrusionref07_Valid.mono_l k
    · intro y0 y1
      unfold intrusionref07_Valid.l0
      repeat' first
      | (with_reducible exact ih0 _ _)
      | (with_reducible exact LeO.refl _)
      | (with_reducible exact LeO.none _)
      | (with_reducible refine LeO.ite ?_ ?_)
      | (with_reducible refine LeO.bind ?_ (fun _ => ?_))
      | exact ih0 _ _
      | exact LeO.none _
      | refine LeO.ite ?_ ?_
      | refine LeO.bind ?_ (fun _ => ?_)
theorem intrusionref07_Valid.mono : ∀ a0 k, LeO (intrusionref07_Valid.f k a0) (intrusionref07_Valid.f (k + 1) a0) := by
  intro a0 k
  have ih0 := intrusionref07_Valid.mono_l k
  unfold intrusionref07_Valid.f
  repeat' first
      | (with_reducible exact ih0 _ _)
      | (with_reducible exact LeO.refl _)
      | (with_reducible exact LeO.none _)
      | (with_reducible refine LeO.ite ?_ ?_)
      | (with_reducible refine LeO.bind ?_ (fun _ => ?_))
      | exact ih0 _ _
      | exact LeO.none _
      | refine LeO.ite ?_ ?_
      | refine LeO.bind ?_ (fun _ => ?_)
end Go.Proofs.Ytcgfpffgiimgmaa.Q
end

section
namespace Go.Proofs.Ytcgfpffgiimgmaa.Q
open Go.RowKit Go.Proofs.YtcgfpffgiimgmaaW.PrintWords Go.Proofs.YtcgfpffgiimgmaaW.PrintLast Go.Proofs.YtcgfpffgiimgmaaW.PrintMore
attribute [local go_sem] max2_int min2_int max_two min_two max_three min_three max_four min_four
set_option linter.unusedVariables false
set_option linter.unusedSimpArgs false
def intrusionref07_Contains.l0 : Nat → List (S66) → Int → Bool → Int → Int → Option (Bool)
  | 0, _, _, _, _, _ => none
  | k + 1, x0, x5, x648000, x648001, x648002 => if x5 < (x0.length : Int) then ((intrusionref07_Fine.f x648000 x648001 x648002).bind fun t648 => (if t648 = true then (if 0 ≤ x5 then ((intrusionref07_Some.f ((rd_T66 x0 x5).f0.f0) ((rd_T66 x0 x5).f0.f1) ((rd_T66 x0 x5).f0.f2) ((rd_T66 x0 x5).f1.f0) ((rd_T66 x0 x5).f1.f1) ((rd_T66 x0 x5).f1.f2)).bind fun t650 => (if t650 = true then (if (((rd_T66 x0 x5).f0.f0) == x648000) = true then ((intrusionref07_Before.f x648000 x648001 x648002 ((rd_T66 x0 x5).f0.f0) ((rd_T66 x0 x5).f0.f1) ((rd_T66 x0 x5).f0.f2)).bind fun t653 => (if t653 = true then (intrusionref07_Contains.l0 k x0 (wrap64 (x5 + 1)) x648000 x648001 x648002) else ((intrusionref07_Before.f ((rd_T66 x0 x5).f1.f0) ((rd_T66 x0 x5).f1.f1) ((rd_T66 x0 x5).f1.f2) x648000 x648001 x648002).bind fun t655 => (if t655 = true then (intrusionref07_Contains.l0 k x0 (wrap64 (x5 + 1)) x648000 x648001 x648002) else (some true))))) else (intrusionref07_Contains.l0 k x0 (wrap64 (x5 + 1)) x648000 x648001 x648002)) else (intrusionref07_Contains.l0 k x0 (wrap64 (x5 + 1)) x648000 x648001 x648002))) else (none)) else (intrusionref07_Contains.l0 k x0 (wrap64 (x5 + 1)) x648000 x648001 x648002))) else (some false)
def intrusionref07_Contains.f (k : Nat) (l0 : List (S66)) (a1_0 : Bool) (a1_1 : Int) (a1_2 : Int) : Option (Bool) := intrusionref07_Contains.l0 k l0 0 a1_0 a1_1 a1_2
theorem intrusionref07_Contains.mono_l : ∀ k, (∀ y0 y1 y2 y3 y4, LeO (intrusionref07_Contains.l0 k y0 y1 y2 y3 y4) (intrusionref07_Contains.l0 (k + 1) y0 y1 y2 y3 y4))
  | 0 => fun _ _ _ _ _ r h => by simp [intrusionref07_Contains.l0] at h
  | k + 1 => by
    have ih0 := intrusionref07_Contains.mono_l k
    · intro y0 y1 y2 y3 y4
      unfold intrusionref07_Contains.l0
      repeat' first
      | (with_reducible exact ih0 _ _ _ _ _)
      | (with_reducible exact LeO.refl _)
      | (with_reducible exact LeO.none _)
      | (with_reducible refine LeO.ite ?_ ?_)
      | (with_reducible refine LeO.bind ?_ (fun _ => ?_))
      | exact ih0 _ _ _ _ _
      | exact LeO.none _
      | refine LeO.ite ?_ ?_
      | refine LeO.bind ?_ (fun _ => ?_)
theorem intrusionref07_Contains.mono : ∀ a0 a1 a2 a3 k, LeO (intrusionref07_Contains.f k a0 a1 a2 a3) (intrusionref07_Contains.f (k + 1) a0 a1 a2 a3) := by
  intro a0 a1 a2 a3 k
  have ih0 := intrusionref07_Contains.mono_l k
  unfold intrusionref07_Contains.f
  repeat' first
      | (with_reducible exact ih0 _ _ _ _ _)
      | (with_reducible exact LeO.refl _)
      | (with_reducible exact LeO.none _)
      | (with_reducible refine LeO.ite ?_ ?_)
      | (with_reducible refine LeO.bind ?_ (fun _ => ?_))
      | exact ih0 _ _ _ _ _
      | exact LeO.none _
      | refine LeO.ite ?_ ?_
      | refine LeO.bind ?_ (fun _ => ?_)
end Go.Proofs.Ytcgfpffgiimgmaa.Q
end

section
set_option linter.unusedVariables false
set_option linter.unusedSimpArgs false
namespace Go.Proofs.Ytcgfpffgiimgmaa.Q
open Go.RowKit Go.Proofs.YtcgfpffgiimgmaaW.PrintWords Go.Proofs.YtcgfpffgiimgmaaW.PrintLast Go.Proofs.YtcgfpffgiimgmaaW.PrintMore Go.Proofs.Ytcgfpffgiimgmaa.Canon
def okAtR (L : List Rg) (i : Nat) : Bool := if h : i < L.length then someB L[i] && (if h0 : 0 < i then decide (av (L[i - 1]'(by omega)).f1 + 1 < av L[i].f0) else true) else true
def okAllR (L : List Rg) : Bool := (List.range' 0 L.length).all (okAtR L)
theorem okR_from (L : List Rg) (i : Nat) : (List.range' i (L.length - i)).all (okAtR L) = if i < L.length then okAtR L i && (List.range' (i + 1) (L.length - (i + 1))).all (okAtR L) else true := by
  by_cases h : i < L.length
  · rw [if_pos h, show L.length - i = (L.length - (i + 1)) + 1 from by omega, List.range'_succ, List.all_cons]
  · rw [if_neg h, show L.length - i = 0 from by omega]
    rfl
theorem ev_aValid (L : List Rg) (hl : L.length < 2932031007402) (hq : ∀ x ∈ L, RB x) : ∀ (d i : Nat), L.length - i = d → i ≤ L.length → (∀ j, j < i → okAtR L j = true) →
    Ev (fun k => addrset_Valid.l0 k L L (L.length : Int) (i : Int)) ((List.range' i (L.length - i)).all (okAtR L)) ∧ Ev (fun k => intrusionref07_Valid.l0 k L (i : Int)) ((List.range' i (L.length - i)).all (okAtR L)) := by
  intro d
  induction d with
  | zero =>
    intro i hd hi _
    have : i = L.length := by omega
    subst this
    rw [okR_from, if_neg (by omega)]
    constructor
    · refine Ev.step (f := fun _ => some true) (fun k => ?_) (Ev.now true)
      simp only [addrset_Valid.l0]; rw [if_neg (by omega)]
    · refine Ev.step (f := fun _ => some true) (fun k => ?_) (Ev.now true)
      simp only [intrusionref07_Valid.l0]; rw [if_neg (by omega)]
  | succ d ih =>
    intro i hd hi hprev
    have hlt : i < L.length := by omega
    have hx := hq L[i] (List.getElem_mem hlt)
    rw [okR_from, if_pos hlt]
    have key : okAtR L i = true → Ev (fun k => addrset_Valid.l0 k L L (L.length : Int) ((i + 1 : Nat) : Int)) ((List.range' (i + 1) (L.length - (i + 1))).all (okAtR L)) ∧ Ev (fun k => intrusionref07_Valid.l0 k L ((i + 1 : Nat) : Int)) ((List.range' (i + 1) (L.length - (i + 1))).all (okAtR L)) := fun hb => ih (i + 1) (by omega) (by omega) (fun j hj => by
      by_cases e : j = i
      · subst e; exact hb
      · exact hprev j (by omega))
    have hdef : okAtR L i = (someB L[i] && (if h0 : 0 < i then decide (av (L[i - 1]'(by omega)).f1 + 1 < av L[i].f0) else true)) := by unfold okAtR; rw [dif_pos hlt]
    by_cases c1 : someB L[i] = true
    · have hw := (some_iff hx).1 c1
      by_cases c4 : 0 < i
      · have hp := hprev (i - 1) (by omega)
        have hpb := hq (L[i - 1]'(by omega)) (List.getElem_mem _)
        have hpw : RW (L[i - 1]'(by omega)) := by
          unfold okAtR at hp
          rw [dif_pos (by omega), Bool.and_eq_true] at hp
          exact (some_iff hpb).1 hp.1
        have hi1 := wpred i c4 (by omega)
        have p2 := hpw.2.2.2
        by_cases c5 : av (L[i - 1]'(by omega)).f1 + 1 < av L[i].f0
        · have hb : okAtR L i = true := by rw [hdef, c1, dif_pos c4, decide_eq_true c5]; rfl
          obtain ⟨e1, e2⟩ := key hb
          rw [hb, Bool.true_and]
          obtain ⟨n1, n2⟩ := (apart_iff hpw hw).2 c5
          constructor
          · refine Ev.step (fun k => ?_) e1
            simp only [addrset_Valid.l0]
            rw [if_pos (by omega), if_pos (by omega), if_pos (by omega), rd_getR L i hlt, some_eq, c1]
            simp only [Option.bind_some, if_true]
            rw [if_pos (by omega), hi1, if_pos (by omega), if_pos (by omega), rd_getR L (i - 1) (by omega), cmp_f]
            simp only [Option.bind_some]
            rw [if_neg (by have := cmp_ge' hpw.2.1.1 hw.1.1; omega), near_eq _ _ hpw hw, decide_eq_false n2]
            simp only [Option.bind_some]
            rw [if_neg (by decide), wsucc i (by omega)]
          · refine Ev.step (fun k => ?_) e2
            simp only [intrusionref07_Valid.l0]
            rw [if_pos (by omega), if_pos (by omega), rd_getR L i hlt, rsome_eq _ hx, c1]
            simp only [Option.bind_some, if_true]
            rw [if_pos (by omega), hi1, if_pos (by omega), if_pos (by omega), rd_getR L (i - 1) (by omega), before_eq _ _ hpw.2.1.1 hw.1.1, decide_eq_true n1]
            simp only [Option.bind_some, if_true]
            rw [joined_eq _ _ hpw hw, decide_eq_false n2]
            simp only [Option.bind_some]
            rw [if_neg (by decide), wsucc i (by omega)]
        · have hb : okAtR L i = false := by rw [hdef, c1, dif_pos c4, decide_eq_false c5]; rfl
          rw [hb, Bool.false_and]
          have ha := apart_iff hpw hw
          constructor
          · refine Ev.step (f := fun _ => some false) (fun k => ?_) (Ev.now false)
            simp only [addrset_Valid.l0]
            rw [if_pos (by omega), if_pos (by omega), if_pos (by omega), rd_getR L i hlt, some_eq, c1]
            simp only [Option.bind_some, if_true]
            rw [if_pos (by omega), hi1, if_pos (by omega), if_pos (by omega), rd_getR L (i - 1) (by omega), cmp_f]
            simp only [Option.bind_some]
            by_cases c6 : av (L[i - 1]'(by omega)).f1 < av L[i].f0
            · have n2 : nearP (L[i - 1]'(by omega)) L[i] := Classical.byContradiction (fun hc => c5 (ha.1 ⟨c6, hc⟩))
              rw [if_neg (by have := cmp_ge' hpw.2.1.1 hw.1.1; omega), near_eq _ _ hpw hw, decide_eq_true n2]
              rfl
            · rw [if_pos (by have := cmp_ge' hpw.2.1.1 hw.1.1; omega)]
          · refine Ev.step (f := fun _ => some false) (fun k => ?_) (Ev.now false)
            simp only [intrusionref07_Valid.l0]
            rw [if_pos (by omega), if_pos (by omega), rd_getR L i hlt, rsome_eq _ hx, c1]
            simp only [Option.bind_some, if_true]
            rw [if_pos (by omega), hi1, if_pos (by omega), if_pos (by omega), rd_getR L (i - 1) (by omega), before_eq _ _ hpw.2.1.1 hw.1.1]
            simp only [Option.bind_some]
            by_cases c6 : av (L[i - 1]'(by omega)).f1 < av L[i].f0
            · have n2 : nearP (L[i - 1]'(by omega)) L[i] := Classical.byContradiction (fun hc => c5 (ha.1 ⟨c6, hc⟩))
              rw [decide_eq_true c6, joined_eq _ _ hpw hw, decide_eq_true n2]
              rfl
            · rw [decide_eq_false c6]
              rfl
      · have hb : okAtR L i = true := by rw [hdef, c1, dif_neg c4]; rfl
        obtain ⟨e1, e2⟩ := key hb
        rw [hb, Bool.true_and]
        constructor
        · refine Ev.step (fun k => ?_) e1
          simp only [addrset_Valid.l0]
          rw [if_pos (by omega), if_pos (by omega), if_pos (by omega), rd_getR L i hlt, some_eq, c1]
          simp only [Option.bind_some, if_true]
          rw [if_neg (by omega), wsucc i (by omega)]
        · refine Ev.step (fun k => ?_) e2
          simp only [intrusionref07_Valid.l0]
          rw [if_pos (by omega), if_pos (by omega), rd_getR L i hlt, rsome_eq _ hx, c1]
          simp only [Option.bind_some, if_true]
          rw [if_neg (by omega), wsucc i (by omega)]
    · have c2 : someB L[i] = false := Bool.eq_false_iff.2 c1
      have hb : okAtR L i = false := by rw [hdef, c2]; rfl
      rw [hb, Bool.false_and]
      constructor
      · refine Ev.step (f := fun _ => some false) (fun k => ?_) (Ev.now false)
        simp only [addrset_Valid.l0]
        rw [if_pos (by omega), if_pos (by omega), if_pos (by omega), rd_getR L i hlt, some_eq, c2]
        rfl
      · refine Ev.step (f := fun _ => some false) (fun k => ?_) (Ev.now false)
        simp only [intrusionref07_Valid.l0]
        rw [if_pos (by omega), if_pos (by omega), rd_getR L i hlt, rsome_eq _ hx, c2]
        rfl
theorem aValid_ev (L : List Rg) (hl : L.length < 2932031007402) (hq : ∀ x ∈ L, RB x) : Ev (fun k => addrset_Valid.f k L) (okAllR L) ∧ Ev (fun k => intrusionref07_Valid.f k L) (okAllR L) := by
  have h := ev_aValid L hl hq L.length 0 rfl (Nat.zero_le _) (fun j hj => by omega)
  exact ⟨Ev.congr (fun k => rfl) h.1, Ev.congr (fun k => rfl) h.2⟩
theorem can_at : ∀ (L : List Rg) (i : Nat) (hi : i + 1 < L.length) (lo : Int), CanFrom lo (L.map rsp) → av (L[i]'(by omega)).f1 + 1 < av L[i + 1].f0
  | x :: y :: t, 0, _, lo, c => by
    have := c.2.2.1
    simp only [rsp] at this
    show av x.f1 + 1 < av y.f0
    omega
  | x :: t, i + 1, hi, lo, c => can_at t i (by simpa using hi) _ c.2.2
  | [], i, hi, lo, c => by simp at hi
theorem ACan.ok {P : Int → Prop} {r : List Rg} (h : ACan P r) : okAllR r = true := by
  unfold okAllR
  rw [List.all_eq_true]
  intro i hi
  have hlt : i < r.length := by
    have := List.mem_range'.1 hi
    obtain ⟨j, hj, e⟩ := this
    omega
  unfold okAtR
  rw [dif_pos hlt, Bool.and_eq_true]
  have hw := h.2.1 r[i] (List.getElem_mem hlt)
  refine ⟨(some_iff hw.b).2 hw, ?_⟩
  by_cases h0 : 0 < i
  · rw [dif_pos h0, decide_eq_true_eq]
    have := can_at r (i - 1) (by omega) 0 h.1
    simpa [show i - 1 + 1 = i from by omega] using this
  · rw [dif_neg h0]
end Go.Proofs.Ytcgfpffgiimgmaa.Q
end

section
set_option linter.unusedVariables false
set_option linter.unusedSimpArgs false
namespace Go.Proofs.Ytcgfpffgiimgmaa.Q
open Go.RowKit Go.Proofs.YtcgfpffgiimgmaaW.PrintWords Go.Proofs.YtcgfpffgiimgmaaW.PrintLast Go.Proofs.YtcgfpffgiimgmaaW.PrintMore Go.Proofs.Ytcgfpffgiimgmaa.Canon
def ipA (n : Int) : Ad := ⟨false, 0, 167772160 + n⟩
theorem ip_eq (n : Int) (h0 : 0 ≤ n) (h1 : n ≤ 1000) : intrusionlaw07_ip.f n = some (false, 0, 167772160 + n) := by
  unfold intrusionlaw07_ip.f
  rw [u64_id (by omega) (by omega)]
theorem ipA_AF (n : Int) (h0 : 0 ≤ n) (h1 : n ≤ 1000) : AF (ipA n) := by
  refine ⟨⟨?_, ?_, ?_, ?_⟩, .inr ⟨?_, ?_⟩⟩ <;> simp [ipA] <;> omega
theorem ipR_RW (a b : Int) (h0 : 0 ≤ a) (h1 : b ≤ 1000) (h : a ≤ b) : RW ⟨ipA a, ipA b⟩ := ⟨ipA_AF a h0 (by omega), ipA_AF b (by omega) h1, rfl, by show av (ipA a) ≤ av (ipA b); unfold av ipA; simp; omega⟩
theorem one_can {r : Rg} (h : RW r) : ACan (ASM [r]) [r] := ACan.self ⟨h.num.1, h.2.2.2, trivial⟩ (fun x hx => by rw [List.mem_singleton.1 hx]; exact h)
theorem aw_normal1 : Ev (fun k => addrset_Normal.f k [⟨ipA 1, ipA 4⟩]) [⟨ipA 1, ipA 4⟩] := by
  have hw := ipR_RW 1 4 (by omega) (by omega) (by omega)
  obtain ⟨r, r1, r2, _⟩ := aNormal_spec [⟨ipA 1, ipA 4⟩] (by simp) (fun x hx => by rw [List.mem_singleton.1 hx]; exact hw.b)
  rw [r2.uniq (one_can hw)] at r1
  exact r1
theorem aw_normal2 : Ev (fun k => addrset_Normal.f k [⟨ipA 2, ipA 3⟩, ⟨ipA 1, ipA 1⟩]) [⟨ipA 1, ipA 3⟩] := by
  have h1 := ipR_RW 2 3 (by omega) (by omega) (by omega)
  have h2 := ipR_RW 1 1 (by omega) (by omega) (by omega)
  have h3 := ipR_RW 1 3 (by omega) (by omega) (by omega)
  obtain ⟨r, r1, r2, _⟩ := aNormal_spec [⟨ipA 2, ipA 3⟩, ⟨ipA 1, ipA 1⟩] (by simp) (fun x hx => by
    rcases List.mem_cons.1 hx with rfl | hx
    · exact h1.b
    · rw [List.mem_singleton.1 hx]; exact h2.b)
  have e : ACan (ASM [⟨ipA 2, ipA 3⟩, ⟨ipA 1, ipA 1⟩]) [⟨ipA 1, ipA 3⟩] := (one_can h3).congr (fun n => by
    rw [asm_cons, asm_cons, asm_cons, asm_nil]
    have v : ∀ m : Int, av (ipA m) = 167772160 + m := fun m => by unfold av ipA; simp
    simp only [h1, h2, h3, true_and, or_false, v]
    omega)
  rw [r2.uniq e] at r1
  exact r1
def awP : List Px := [⟨ipA 1, 32⟩, ⟨ipA 2, 31⟩, ⟨ipA 4, 32⟩]
theorem aw_all : pAll 60 [⟨ipA 1, ipA 4⟩] [] = some (some awP) := by kernel_rfl
theorem aw_pref : Ev (fun k => addrset_Prefixes.f k [⟨ipA 1, ipA 4⟩]) awP := by
  unfold addrset_Prefixes.f
  refine Ev.bind (f := fun k x => (pAll k x []).bind fun o => some (o.getD [])) aw_normal1 ?_
  refine Ev.bind (f := fun _ o => some (o.getD [])) (Ev.of (fun k => pAll_mono k _ _) aw_all) (Ev.now _)
theorem aw_notvalid : okAllR [⟨ipA 2, ipA 3⟩, ⟨ipA 1, ipA 1⟩] = false := by decide +kernel
theorem aawake_ev : Ev (fun k => intrusionlaw07_awake.f k) true := by
  unfold intrusionlaw07_awake.f
  rw [ip_eq 1 (by omega) (by omega), ip_eq 2 (by omega) (by omega), ip_eq 3 (by omega) (by omega), ip_eq 4 (by omega) (by omega)]
  simp only [Option.bind_some]
  refine Ev.bind aw_pref (Ev.bind aw_normal2 ?_)
  refine Ev.bind (f := fun k t => _) (aSame_ev [⟨ipA 1, ipA 3⟩] (by simp)) ?_
  simp only [if_true]
  refine Ev.bind (aValid_ev [⟨ipA 2, ipA 3⟩, ⟨ipA 1, ipA 1⟩] (by simp) (fun x hx => by
    rcases List.mem_cons.1 hx with rfl | hx
    · exact (ipR_RW 2 3 (by omega) (by omega) (by omega)).b
    · rw [List.mem_singleton.1 hx]; exact (ipR_RW 1 1 (by omega) (by omega) (by omega)).b)).1 ?_
  rw [aw_notvalid]
  exact Ev.now true
end Go.Proofs.Ytcgfpffgiimgmaa.Q
end

section
set_option linter.unusedVariables false
set_option linter.unusedSimpArgs false
namespace Go.Proofs.Ytcgfpffgiimgmaa.Q
open Go.RowKit Go.Proofs.YtcgfpffgiimgmaaW.PrintWords Go.Proofs.YtcgfpffgiimgmaaW.PrintLast Go.Proofs.YtcgfpffgiimgmaaW.PrintMore Go.Proofs.Ytcgfpffgiimgmaa.Canon
theorem ev_concatR (a b : List Rg) (ha : a.length < 1000000000000) (hb : b.length < 1000000000000) : Ev (fun k => slices_Concat_Range.f k [a, b]) (a ++ b) := by
  refine ⟨6, fun k hk => ?_⟩
  obtain ⟨m, rfl⟩ : ∃ m, k = m + 6 := ⟨k - 6, by omega⟩
  show slices_Concat_Range.f (m + 6) [a, b] = _
  have w1 : wrap64 (0 + 1) = 1 := wid (by omega) (by omega)
  have w2 : wrap64 (1 + 1) = 2 := wid (by omega) (by omega)
  have r0 : rd_L7 [a, b] 0 = a := rfl
  have r1 : rd_L7 [a, b] 1 = b := rfl
  unfold slices_Concat_Range.f
  simp only [slices_Concat_Range.l0, List.length_cons, List.length_nil]
  rw [if_pos (by decide), if_pos (by decide), if_pos (by decide), r0, wid (x := 0 + (a.length : Int)) (by omega) (by omega), if_neg (by omega), w1, if_pos (by decide), if_pos (by decide), if_pos (by decide), r1, wid (x := 0 + (a.length : Int) + (b.length : Int)) (by omega) (by omega), if_neg (by omega), w2, if_neg (by decide)]
  unfold grow_Range.f
  rw [if_pos ⟨by omega, by omega⟩]
  simp only [Option.bind_some, slices_Concat_Range.l1, List.length_cons, List.length_nil]
  rw [if_pos (by decide), if_pos (by decide), if_pos (by decide), r0, if_pos (by omega), w1, if_pos (by decide), if_pos (by decide), if_pos (by decide), r1, if_pos (by rw [List.length_append, List.length_nil]; omega), w2, if_neg (by decide)]
  simp
theorem rb_append {a b : List Rg} (ha : ∀ x ∈ a, RB x) (hb : ∀ x ∈ b, RB x) : ∀ x ∈ a ++ b, RB x := fun x hx => (List.mem_append.1 hx).elim (ha x) (hb x)
theorem aUnion_spec (a b : List Rg) (ha : a.length < 1000000) (hb : b.length < 1000000) (qa : ∀ x ∈ a, RB x) (qb : ∀ x ∈ b, RB x) : ∃ r, Ev (fun k => addrset_Union.f k a b) r ∧ ACan (fun n => ASM a n ∨ ASM b n) r ∧ r.length ≤ a.length + b.length := by
  obtain ⟨r, h1, h2, h3⟩ := aNormal_spec (a ++ b) (by rw [List.length_append]; omega) (rb_append qa qb)
  refine ⟨r, Ev.congr (fun k => rfl) (Ev.bind (ev_concatR a b (by omega) (by omega)) (Ev.bind h1 (Ev.now _))), h2.congr (fun n => asm_append a b n), by rw [List.length_append] at h3; exact h3⟩
theorem arUnion_spec (a b : List Rg) (ha : a.length < 1000000) (hb : b.length < 1000000) (qa : ∀ x ∈ a, RB x) (qb : ∀ x ∈ b, RB x) : ∃ r, Ev (fun k => intrusionref07_Union.f k a b) r ∧ ACan (fun n => ASM a n ∨ ASM b n) r := by
  obtain ⟨r, h1, h2, h3⟩ := arNormal_spec (a ++ b) (by rw [List.length_append]; omega) (rb_append qa qb)
  refine ⟨r, ?_, h2.congr (fun n => asm_append a b n)⟩
  refine Ev.congr (f := fun k => (intrusionref07_Normal.f k (a ++ b)).bind fun t => some t) (fun k => ?_) (Ev.bind h1 (Ev.now _))
  unfold intrusionref07_Union.f
  simp only [Option.bind_some, List.length_nil, List.nil_append]
  rw [if_pos (by omega), if_pos (by omega)]
def inR (r : Rg) (n : Int) : Prop := av r.f0 ≤ n ∧ n ≤ av r.f1
theorem fam_of_both {r s : Rg} (hr : RW r) (hs : RW s) {n : Int} (h1 : inR r n) (h2 : inR s n) : r.f0.f0 = s.f0.f0 := by
  unfold inR at h1 h2
  rcases hr.num with ⟨_, _, n1 | n1⟩ <;> rcases hs.num with ⟨_, _, n2 | n2⟩
  · rw [n1.1, n2.1]
  · omega
  · omega
  · rw [n1.1, n2.1]
theorem both_spec {r s z : Rg} (hr : RW r) (hs : RW s) (hf : r.f0.f0 = s.f0.f0) (h0 : z.f0 = r.f0 ∨ z.f0 = s.f0) (h1 : z.f1 = r.f1 ∨ z.f1 = s.f1) (g0 : av r.f0 ≤ av z.f0 ∧ av s.f0 ≤ av z.f0) (g1 : av z.f1 ≤ av r.f1 ∧ av z.f1 ≤ av s.f1) : RB z ∧ ∀ n, (RW z ∧ inR z n) ↔ inR r n ∧ inR s n := by
  have b0 : AF z.f0 ∧ z.f0.f0 = r.f0.f0 := by
    rcases h0 with e | e
    · rw [e]; exact ⟨hr.1, rfl⟩
    · rw [e]; exact ⟨hs.1, hf.symm⟩
  have b1 : AF z.f1 ∧ z.f1.f0 = r.f0.f0 := by
    rcases h1 with e | e
    · rw [e]; exact ⟨hr.2.1, hr.2.2.1.symm⟩
    · rw [e]; exact ⟨hs.2.1, hs.2.2.1.symm.trans hf.symm⟩
  refine ⟨⟨b0.1.1, b1.1.1⟩, fun n => ?_⟩
  unfold inR
  constructor
  · rintro ⟨_, h2, h3⟩
    exact ⟨⟨by omega, by omega⟩, ⟨by omega, by omega⟩⟩
  · rintro ⟨⟨h2, h3⟩, ⟨h4, h5⟩⟩
    have e0 : av z.f0 ≤ n := by rcases h0 with e | e <;> rw [e] <;> assumption
    have e1 : n ≤ av z.f1 := by rcases h1 with e | e <;> rw [e] <;> assumption
    exact ⟨⟨b0.1, b1.1, b0.2.trans b1.2.symm, by omega⟩, e0, e1⟩
theorem bothR_spec {r s : Rg} (hr : RW r) (hs : RW s) (hf : r.f0.f0 = s.f0.f0) : RB (bothR r s) ∧ ∀ n, (RW (bothR r s) ∧ inR (bothR r s) n) ↔ inR r n ∧ inR s n := by
  obtain ⟨g1, g2, g3⟩ := greaterA_spec hr.1.1 hs.1.1
  obtain ⟨l1, l2, l3⟩ := lessA_spec hr.2.1.1 hs.2.1.1
  exact both_spec hr hs hf g1 l1 ⟨g2, g3⟩ ⟨l2, l3⟩
theorem asm_addIf {xs : List Rg} {z : Rg} (hz : RB z) (n : Int) : ASM (addIf xs z) n ↔ ASM xs n ∨ (RW z ∧ inR z n) := by
  unfold addIf
  by_cases h : someB z = true
  · rw [if_pos h, asm_append, asm_cons, asm_nil, or_false]
    rfl
  · rw [if_neg h]
    constructor
    · exact .inl
    · rintro (g | g)
      · exact g
      · exact absurd ((some_iff hz).2 g.1) h
theorem interOne_spec {r s : Rg} (hr : RW r) (hs : RW s) (xs : List Rg) (hx : ∀ x ∈ xs, RB x) : (∀ x ∈ interOne r xs s, RB x) ∧ ∀ n, ASM (interOne r xs s) n ↔ ASM xs n ∨ (inR r n ∧ inR s n) := by
  unfold interOne
  by_cases hf : r.f0.f0 = s.f0.f0
  · rw [if_pos hf]
    obtain ⟨b1, b2⟩ := bothR_spec hr hs hf
    refine ⟨fun x h => ?_, fun n => by rw [asm_addIf b1, b2]⟩
    unfold addIf at h
    split at h
    · rcases List.mem_append.1 h with h | h
      · exact hx x h
      · rw [List.mem_singleton.1 h]; exact b1
    · exact hx x h
  · rw [if_neg hf]
    exact ⟨hx, fun n => ⟨.inl, fun h => h.elim id (fun g => absurd (fam_of_both hr hs g.1 g.2) hf)⟩⟩
theorem interRow_spec {r : Rg} (hr : RW r) : ∀ (y xs : List Rg), (∀ x ∈ y, RW x) → (∀ x ∈ xs, RB x) → (∀ x ∈ y.foldl (interOne r) xs, RB x) ∧ ∀ n, ASM (y.foldl (interOne r) xs) n ↔ ASM xs n ∨ (inR r n ∧ ASM y n)
  | [], xs, _, hx => ⟨hx, fun n => by simp [asm_nil]⟩
  | s :: t, xs, hy, hx => by
    have hs := hy s (List.mem_cons_self ..)
    obtain ⟨a1, a2⟩ := interOne_spec hr hs xs hx
    obtain ⟨b1, b2⟩ := interRow_spec hr t _ (fun z hz => hy z (List.mem_cons_of_mem _ hz)) a1
    refine ⟨b1, fun n => ?_⟩
    rw [List.foldl_cons, b2, a2, asm_cons, or_assoc]
    refine or_congr_right ?_
    unfold inR
    constructor
    · rintro (⟨h1, h2⟩ | ⟨h1, h2⟩)
      · exact ⟨h1, .inl ⟨hs, h2⟩⟩
      · exact ⟨h1, .inr h2⟩
    · rintro ⟨h1, h2 | h2⟩
      · exact .inl ⟨h1, h2.2⟩
      · exact .inr ⟨h1, h2⟩
theorem interAll_spec (y : List Rg) (hy : ∀ x ∈ y, RW x) : ∀ (x xs : List Rg), (∀ z ∈ x, RW z) → (∀ z ∈ xs, RB z) → (∀ z ∈ x.foldl (interRow y) xs, RB z) ∧ ∀ n, ASM (x.foldl (interRow y) xs) n ↔ ASM xs n ∨ (ASM x n ∧ ASM y n)
  | [], xs, _, hx => ⟨hx, fun n => by simp [asm_nil]⟩
  | r :: t, xs, hr, hx => by
    have h0 := hr r (List.mem_cons_self ..)
    obtain ⟨a1, a2⟩ := interRow_spec h0 y xs hy hx
    obtain ⟨b1, b2⟩ := interAll_spec y hy t (interRow y xs r) (fun z hz => hr z (List.mem_cons_of_mem _ hz)) a1
    refine ⟨b1, fun n => ?_⟩
    rw [List.foldl_cons, b2]
    show (ASM (y.foldl (interOne r) xs) n ∨ _) ↔ _
    rw [a2, asm_cons, or_assoc]
    refine or_congr_right ?_
    constructor
    · rintro (⟨h1, h2⟩ | ⟨h1, h2⟩)
      · exact ⟨.inl ⟨h0, h1⟩, h2⟩
      · exact ⟨.inr h1, h2⟩
    · rintro ⟨h1 | h1, h2⟩
      · exact .inl ⟨h1.2, h2⟩
      · exact .inr ⟨h1, h2⟩
theorem aInter_spec (a b : List Rg) (ha : a.length < 1000000) (hb : b.length < 1000000) (qa : ∀ x ∈ a, RB x) (qb : ∀ x ∈ b, RB x) : ∃ r, Ev (fun k => addrset_Intersect.f k a b) r ∧ ACan (fun n => ASM a n ∧ ASM b n) r ∧ r.length ≤ a.length * b.length := by
  obtain ⟨x, x1, x2, x3⟩ := aNormal_spec a (by omega) qa
  obtain ⟨y, y1, y2, y3⟩ := aNormal_spec b (by omega) qb
  have hm : x.length * y.length ≤ a.length * b.length := Nat.mul_le_mul x3 y3
  have hm2 : a.length * b.length ≤ 1000000 * 1000000 := Nat.mul_le_mul (by omega) (by omega)
  obtain ⟨c1, c2⟩ := interAll_spec y y2.2.1 x [] x2.2.1 (by simp)
  have hle := interAll_le y x []
  simp only [List.length_nil, Nat.zero_add] at hle
  obtain ⟨r, r1, r2, r3⟩ := aNormal_spec (x.foldl (interRow y) []) (by omega) c1
  refine ⟨r, ?_, r2.congr (fun n => ?_), by omega⟩
  · refine Ev.bind (f := fun k y => (addrset_Normal.f k a).bind fun x => if x.length * y.length < 2932031007402 then addrset_Normal.f k (x.foldl (interRow y) []) else none) y1 ?_
    refine Ev.bind (f := fun k x => if x.length * y.length < 2932031007402 then addrset_Normal.f k (x.foldl (interRow y) []) else none) x1 ?_
    refine Ev.congr (fun k => ?_) r1
    rw [if_pos (by omega)]
  · rw [c2, asm_nil, false_or, x2.2.2, y2.2.2]
def bothQ (x y : Rg) : Rg := ⟨if av x.f0 < av y.f0 then y.f0 else x.f0, if av y.f1 < av x.f1 then y.f1 else x.f1⟩
theorem bothQ_spec {r s : Rg} (hr : RW r) (hs : RW s) (hf : r.f0.f0 = s.f0.f0) : RB (bothQ r s) ∧ ∀ n, (RW (bothQ r s) ∧ inR (bothQ r s) n) ↔ inR r n ∧ inR s n := by
  refine both_spec hr hs hf ?_ ?_ ?_ ?_
  · unfold bothQ; simp only; split
    · exact .inr rfl
    · exact .inl rfl
  · unfold bothQ; simp only; split
    · exact .inr rfl
    · exact .inl rfl
  · unfold bothQ; simp only; split <;> constructor <;> omega
  · unfold bothQ; simp only; split <;> constructor <;> omega
theorem ev_rInterRow (a b : List Rg) (ha : a.length < 1000) (hb : b.length < 1000) (qa : ∀ x ∈ a, RB x) (qb : ∀ x ∈ b, RB x) (i : Nat) (hi : i < a.length) {g : List Rg → List Rg → Prop}
    (next : ∀ (out : List Rg) (P : Int → Prop), ACan P out → out.length ≤ (i + 1) * b.length → ∃ r, Ev (fun k => intrusionref07_Intersect.l0 k a b out ((i + 1 : Nat) : Int)) r ∧ ACan (fun n => P n ∨ (ASM (a.drop (i + 1)) n ∧ ASM b n)) r ∧ r.length ≤ a.length * b.length) :
    ∀ (d j : Nat) (out : List Rg) (P : Int → Prop), b.length - j = d → j ≤ b.length → ACan P out → out.length ≤ i * b.length + j → ∃ r, Ev (fun k => intrusionref07_Intersect.l1 k a b out (i : Int) (j : Int)) r ∧ ACan (fun n => (P n ∨ (RW a[i] ∧ inR a[i] n ∧ ASM (b.drop j) n)) ∨ (ASM (a.drop (i + 1)) n ∧ ASM b n)) r ∧ r.length ≤ a.length * b.length := by
  intro d
  induction d with
  | zero =>
    intro j out P hd hj hc ho
    have : j = b.length := by omega
    subst this
    obtain ⟨r, r1, r2, r3⟩ := next out P hc (by rw [Nat.succ_mul]; exact ho)
    refine ⟨r, Ev.step (fun k => ?_) r1, r2.congr (fun n => ?_), r3⟩
    · simp only [intrusionref07_Intersect.l1]; rw [if_neg (by omega), wsucc i (by omega)]
    · rw [List.drop_length, asm_nil]; simp
  | succ d ih =>
    intro j out P hd hj hc ho
    have hlt : j < b.length := by omega
    have hx := qa a[i] (List.getElem_mem hi)
    have hy := qb b[j] (List.getElem_mem hlt)
    have hbig : i * b.length ≤ 1000 * 1000 := Nat.mul_le_mul (by omega) (by omega)
    have hskip : (¬ ∃ n, RW a[i] ∧ inR a[i] n ∧ RW b[j] ∧ inR b[j] n) → ∃ r, Ev (fun k => intrusionref07_Intersect.l1 k a b out (i : Int) ((j + 1 : Nat) : Int)) r ∧ ACan (fun n => (P n ∨ (RW a[i] ∧ inR a[i] n ∧ ASM (b.drop j) n)) ∨ (ASM (a.drop (i + 1)) n ∧ ASM b n)) r ∧ r.length ≤ a.length * b.length := fun hno => by
      obtain ⟨r, r1, r2, r3⟩ := ih (j + 1) out P (by omega) (by omega) hc (by omega)
      refine ⟨r, r1, r2.congr (fun n => or_congr_left (or_congr_right ?_)), r3⟩
      rw [dropc b j hlt, asm_cons]
      constructor
      · rintro ⟨h1, h2, h3⟩; exact ⟨h1, h2, .inr h3⟩
      · rintro ⟨h1, h2, h3 | h3⟩
        · exact absurd ⟨n, h1, h2, h3.1, h3.2⟩ hno
        · exact ⟨h1, h2, h3⟩
    have hj2t : ∀ {r : List Rg}, Ev (fun k => intrusionref07_Intersect.l1 k a b out (i : Int) ((j + 1 : Nat) : Int)) r → Ev (fun k => intrusionref07_Intersect.j2 k a b out (i : Int) (j : Int) true a[i].f0.f0 a[i].f0.f1 a[i].f0.f2 a[i].f1.f0 a[i].f1.f1 a[i].f1.f2 b[j].f0.f0 b[j].f0.f1 b[j].f0.f2 b[j].f1.f0 b[j].f1.f1 b[j].f1.f2) r := fun h => by
      refine Ev.step (fun k => ?_) h
      simp only [intrusionref07_Intersect.j2]
      rw [if_pos (by trivial), wsucc j (by omega)]
    by_cases s1 : RW a[i]
    · by_cases s2 : RW b[j]
      · by_cases hf : a[i].f0.f0 = b[j].f0.f0
        · obtain ⟨z1, z2⟩ := bothQ_spec s1 s2 hf
          have hj4 : ∃ r, Ev (fun k => intrusionref07_Intersect.j4 k a b out (i : Int) (j : Int) (bothQ a[i] b[j]).f0.f0 (bothQ a[i] b[j]).f0.f1 (bothQ a[i] b[j]).f0.f2 (bothQ a[i] b[j]).f1.f0 (bothQ a[i] b[j]).f1.f1 (bothQ a[i] b[j]).f1.f2) r ∧ ACan (fun n => (P n ∨ (RW a[i] ∧ inR a[i] n ∧ ASM (b.drop j) n)) ∨ (ASM (a.drop (i + 1)) n ∧ ASM b n)) r ∧ r.length ≤ a.length * b.length := by
            by_cases hz : RW (bothQ a[i] b[j])
            · obtain ⟨s, e1, e2, e3⟩ := radd_spec hc (bothQ a[i] b[j]) hz (by omega)
              obtain ⟨r, r1, r2, r3⟩ := ih (j + 1) s _ (by omega) (by omega) e2 (by omega)
              refine ⟨r, ?_, r2.congr (fun n => or_congr_left ?_), r3⟩
              · refine Ev.step (f := fun k => (intrusionref07_add.f k out (bothQ a[i] b[j]).f0.f0 (bothQ a[i] b[j]).f0.f1 (bothQ a[i] b[j]).f0.f2 (bothQ a[i] b[j]).f1.f0 (bothQ a[i] b[j]).f1.f1 (bothQ a[i] b[j]).f1.f2).bind fun t => intrusionref07_Intersect.l1 k a b t (i : Int) ((j + 1 : Nat) : Int)) (fun k => ?_) (Ev.bind e1 r1)
                simp only [intrusionref07_Intersect.j4]
                rw [rsome_eq _ z1, (some_iff z1).2 hz, wsucc j (by omega)]
                rfl
              · rw [dropc b j hlt, asm_cons, or_assoc]
                refine or_congr_right ?_
                have := z2 n
                constructor
                · rintro (h | ⟨h1, h2, h3⟩)
                  · obtain ⟨g1, g2⟩ := this.1 ⟨hz, h⟩
                    exact ⟨s1, g1, .inl ⟨s2, g2⟩⟩
                  · exact ⟨h1, h2, .inr h3⟩
                · rintro ⟨h1, h2, h3 | h3⟩
                  · exact .inl (this.2 ⟨h2, h3.2⟩).2
                  · exact .inr ⟨h1, h2, h3⟩
            · obtain ⟨r, r1, r2, r3⟩ := hskip (fun ⟨n, _, g1, _, g2⟩ => hz ((z2 n).2 ⟨g1, g2⟩).1)
              refine ⟨r, Ev.step (fun k => ?_) r1, r2, r3⟩
              simp only [intrusionref07_Intersect.j4]
              rw [rsome_eq _ z1, Bool.eq_false_iff.2 (fun h => hz ((some_iff z1).1 h)), wsucc j (by omega)]
              rfl
          obtain ⟨r, r1, r2, r3⟩ := hj4
          refine ⟨r, ?_, r2, r3⟩
          have hj3 : Ev (fun k => intrusionref07_Intersect.j3 k a b out (i : Int) (j : Int) (bothQ a[i] b[j]).f0.f0 (bothQ a[i] b[j]).f0.f1 (bothQ a[i] b[j]).f0.f2 a[i].f1.f0 a[i].f1.f1 a[i].f1.f2 b[j].f0.f0 b[j].f0.f1 b[j].f0.f2 b[j].f1.f0 b[j].f1.f1 b[j].f1.f2) r := by
            refine Ev.step (fun k => ?_) r1
            simp only [intrusionref07_Intersect.j3]
            rw [before_eq b[j].f1 a[i].f1 s2.2.1.1 s1.2.1.1]
            simp only [Option.bind_some, decide_eq_true_eq]
            unfold bothQ
            by_cases e : av b[j].f1 < av a[i].f1
            · simp only [if_pos e]
            · simp only [if_neg e]
          have hj2 : Ev (fun k => intrusionref07_Intersect.j2 k a b out (i : Int) (j : Int) false a[i].f0.f0 a[i].f0.f1 a[i].f0.f2 a[i].f1.f0 a[i].f1.f1 a[i].f1.f2 b[j].f0.f0 b[j].f0.f1 b[j].f0.f2 b[j].f1.f0 b[j].f1.f1 b[j].f1.f2) r := by
            refine Ev.step (fun k => ?_) hj3
            simp only [intrusionref07_Intersect.j2]
            rw [if_neg (by decide), before_eq a[i].f0 b[j].f0 s1.1.1 s2.1.1]
            simp only [Option.bind_some, decide_eq_true_eq]
            unfold bothQ
            by_cases e : av a[i].f0 < av b[j].f0
            · simp only [if_pos e]
            · simp only [if_neg e]
          refine Ev.step (fun k => ?_) hj2
          simp only [intrusionref07_Intersect.l1]
          rw [if_pos (by omega), if_pos (by omega), if_pos (by omega), if_pos (by omega), rd_getR a i hi, rd_getR b j hlt, rsome_eq _ hx, rsome_eq _ hy, (some_iff hx).2 s1, (some_iff hy).2 s2]
          simp only [Option.bind_some, if_true, hf, bne_self_eq_false]
        · obtain ⟨r, r1, r2, r3⟩ := hskip (fun ⟨n, _, g1, _, g2⟩ => hf (fam_of_both s1 s2 g1 g2))
          refine ⟨r, Ev.step (fun k => ?_) (hj2t r1), r2, r3⟩
          simp only [intrusionref07_Intersect.l1]
          rw [if_pos (by omega), if_pos (by omega), if_pos (by omega), if_pos (by omega), rd_getR a i hi, rd_getR b j hlt, rsome_eq _ hx, rsome_eq _ hy, (some_iff hx).2 s1, (some_iff hy).2 s2]
          simp only [Option.bind_some, if_true]
          rw [show (a[i].f0.f0 != b[j].f0.f0) = true from by simpa using hf]
      · obtain ⟨r, r1, r2, r3⟩ := hskip (fun ⟨n, _, _, g, _⟩ => s2 g)
        refine ⟨r, Ev.step (fun k => ?_) (hj2t r1), r2, r3⟩
        simp only [intrusionref07_Intersect.l1]
        rw [if_pos (by omega), if_pos (by omega), if_pos (by omega), if_pos (by omega), rd_getR a i hi, rd_getR b j hlt, rsome_eq _ hx, rsome_eq _ hy, (some_iff hx).2 s1, Bool.eq_false_iff.2 (fun h => s2 ((some_iff hy).1 h))]
        simp only [Option.bind_some, if_true]
        rfl
    · obtain ⟨r, r1, r2, r3⟩ := hskip (fun ⟨n, g, _⟩ => s1 g)
      refine ⟨r, Ev.step (fun k => ?_) (hj2t r1), r2, r3⟩
      simp only [intrusionref07_Intersect.l1]
      rw [if_pos (by omega), if_pos (by omega), if_pos (by omega), if_pos (by omega), rd_getR a i hi, rd_getR b j hlt, rsome_eq _ hx, Bool.eq_false_iff.2 (fun h => s1 ((some_iff hx).1 h))]
      rfl
theorem ev_rInter0 (a b : List Rg) (ha : a.length < 1000) (hb : b.length < 1000) (qa : ∀ x ∈ a, RB x) (qb : ∀ x ∈ b, RB x) : ∀ (d i : Nat) (out : List Rg) (P : Int → Prop), a.length - i = d → i ≤ a.length → ACan P out → out.length ≤ i * b.length → ∃ r, Ev (fun k => intrusionref07_Intersect.l0 k a b out (i : Int)) r ∧ ACan (fun n => P n ∨ (ASM (a.drop i) n ∧ ASM b n)) r ∧ r.length ≤ a.length * b.length := by
  intro d
  induction d with
  | zero =>
    intro i out P hd hi hc ho
    have : i = a.length := by omega
    subst this
    refine ⟨out, Ev.step (f := fun _ => some out) (fun k => ?_) (Ev.now out), hc.congr (fun n => ?_), ho⟩
    · simp only [intrusionref07_Intersect.l0]; rw [if_neg (by omega)]
    · rw [List.drop_length, asm_nil]; simp
  | succ d ih =>
    intro i out P hd hi hc ho
    have hlt : i < a.length := by omega
    obtain ⟨r, r1, r2, r3⟩ := ev_rInterRow a b ha hb qa qb i hlt (g := fun _ _ => True) (fun out P hc ho => ih (i + 1) out P (by omega) (by omega) hc ho) b.length 0 out P rfl (Nat.zero_le _) hc (by omega)
    refine ⟨r, Ev.step (fun k => ?_) r1, r2.congr (fun n => ?_), r3⟩
    · simp only [intrusionref07_Intersect.l0]; rw [if_pos (by omega)]; rfl
    · rw [List.drop_zero, dropc a i hlt, asm_cons, or_assoc]
      refine or_congr_right ?_
      unfold inR
      constructor
      · rintro (⟨h1, h2, h3⟩ | ⟨h1, h2⟩)
        · exact ⟨.inl ⟨h1, h2⟩, h3⟩
        · exact ⟨.inr h1, h2⟩
      · rintro ⟨h1 | h1, h2⟩
        · exact .inl ⟨h1.1, h1.2, h2⟩
        · exact .inr ⟨h1, h2⟩
theorem arInter_spec (a b : List Rg) (ha : a.length < 1000) (hb : b.length < 1000) (qa : ∀ x ∈ a, RB x) (qb : ∀ x ∈ b, RB x) : ∃ r, Ev (fun k => intrusionref07_Intersect.f k a b) r ∧ ACan (fun n => ASM a n ∧ ASM b n) r ∧ r.length ≤ a.length * b.length := by
  obtain ⟨r, r1, r2, r3⟩ := ev_rInter0 a b ha hb qa qb a.length 0 [] _ rfl (Nat.zero_le _) ACan.none (by simp)
  exact ⟨r, Ev.congr (fun k => rfl) r1, r2.congr (fun n => by simp), r3⟩
end Go.Proofs.Ytcgfpffgiimgmaa.Q
end

section
set_option linter.unusedVariables false
set_option linter.unusedSimpArgs false
namespace Go.Proofs.Ytcgfpffgiimgmaa.Q
open Go.RowKit Go.Proofs.YtcgfpffgiimgmaaW.PrintWords Go.Proofs.YtcgfpffgiimgmaaW.PrintLast Go.Proofs.YtcgfpffgiimgmaaW.PrintMore Go.Proofs.Ytcgfpffgiimgmaa.Canon
def Sep : Int → List Rg → Prop
  | _, [] => True
  | lo, x :: t => lo ≤ av x.f0 ∧ RW x ∧ Sep (av x.f1 + 1) t
theorem Sep.mono {lo lo' : Int} (h : lo' ≤ lo) : ∀ {l : List Rg}, Sep lo l → Sep lo' l
  | [], _ => trivial
  | x :: t, c => ⟨Int.le_trans h c.1, c.2⟩
theorem Sep.rw : ∀ {l : List Rg} {lo : Int}, Sep lo l → ∀ x ∈ l, RW x ∧ lo ≤ av x.f0
  | [], _, _, x, hx => by simp at hx
  | y :: t, lo, c, x, hx => by
    rcases List.mem_cons.1 hx with rfl | hx
    · exact ⟨c.2.1, c.1⟩
    · obtain ⟨h1, h2⟩ := Sep.rw c.2.2 x hx
      have := c.1
      have := c.2.1.2.2.2
      exact ⟨h1, by omega⟩
theorem sep_append : ∀ (a b : List Rg) (lo hi : Int), Sep lo a → (∀ x ∈ a, av x.f1 < hi) → lo ≤ hi → Sep hi b → Sep lo (a ++ b)
  | [], b, lo, hi, _, _, hle, hb => hb.mono hle
  | x :: a, b, lo, hi, ha, h, hle, hb => ⟨ha.1, ha.2.1, sep_append a b _ hi ha.2.2 (fun z hz => h z (List.mem_cons_of_mem _ hz)) (by have := h x (List.mem_cons_self ..); omega) hb⟩
theorem sep_of_can : ∀ {l : List Rg} {lo : Int}, CanFrom lo (l.map rsp) → (∀ x ∈ l, RW x) → Sep lo l
  | [], _, _, _ => trivial
  | x :: t, lo, c, h => ⟨c.1, h x (List.mem_cons_self ..), (sep_of_can c.2.2 (fun z hz => h z (List.mem_cons_of_mem _ hz))).mono (by simp only [rsp]; omega)⟩
def woR (r s : Rg) : List Rg :=
  if av s.f1 < av r.f0 ∨ av r.f1 < av s.f0 then [r] else (if av r.f0 < av s.f0 then [(⟨r.f0, prevA s.f0⟩ : Rg)] else []) ++ (if av s.f1 < av r.f1 then [(⟨nextA s.f1, r.f1⟩ : Rg)] else [])
theorem fam_meet {r s : Rg} (hr : RW r) (hs : RW s) (h1 : av r.f0 ≤ av s.f1) (h2 : av s.f0 ≤ av r.f1) : r.f0.f0 = s.f0.f0 := by
  rcases hr.num with ⟨_, _, n1 | n1⟩ <;> rcases hs.num with ⟨_, _, n2 | n2⟩
  · rw [n1.1, n2.1]
  · omega
  · omega
  · rw [n1.1, n2.1]
theorem not_first {r s : Rg} (hr : RW r) (hs : RW s) (hf : r.f0.f0 = s.f0.f0) (h : av r.f0 < av s.f0) : ¬ (s.f0.f1 = 0 ∧ s.f0.f2 = 0) := by
  rintro ⟨e1, e2⟩
  have h1 := hr.1.1
  unfold AW at h1
  unfold av at h
  rw [e1, e2, hf] at h
  omega
theorem not_last {r s : Rg} (hr : RW r) (hs : RW s) (hf : r.f0.f0 = s.f0.f0) (h : av s.f1 < av r.f1) : s.f1 ≠ topA s.f1.f0 := by
  intro e
  have h1 := topA_max hr.2.1
  rw [← hr.2.2.1, hf, hs.2.2.1, ← e] at h1
  omega
theorem woR_spec {r s : Rg} (hr : RW r) (hs : RW s) : Sep (av r.f0) (woR r s) ∧ (∀ x ∈ woR r s, av x.f1 ≤ av r.f1) ∧ (∀ n, ASM (woR r s) n ↔ inR r n ∧ ¬ inR s n) ∧ (woR r s).length ≤ (if av r.f0 < av s.f0 ∧ av s.f1 < av r.f1 then 2 else 1) := by
  have r2 := hr.2.2.2
  have s2 := hs.2.2.2
  unfold woR
  by_cases h0 : av s.f1 < av r.f0 ∨ av r.f1 < av s.f0
  · rw [if_pos h0]
    refine ⟨⟨Int.le_refl _, hr, trivial⟩, ?_, fun n => ?_, ?_⟩
    · intro x hx; rw [List.mem_singleton.1 hx]; exact Int.le_refl _
    · rw [asm_cons, asm_nil, or_false]
      unfold inR
      constructor
      · rintro ⟨_, h⟩; exact ⟨h, fun g => by omega⟩
      · rintro ⟨h, _⟩; exact ⟨hr, h⟩
    · simp only [List.length_singleton]; split <;> omega
  · rw [if_neg h0]
    have hf := fam_meet hr hs (by omega) (by omega)
    have hp : av r.f0 < av s.f0 → RW ⟨r.f0, prevA s.f0⟩ ∧ av (prevA s.f0) = av s.f0 - 1 := fun h => by
      obtain ⟨p1, p2, p3⟩ := prevA_spec hs.1 (not_first hr hs hf h)
      exact ⟨⟨hr.1, p1, hf.trans p2.symm, by show av r.f0 ≤ av (prevA s.f0); omega⟩, p3⟩
    have hn : av s.f1 < av r.f1 → RW ⟨nextA s.f1, r.f1⟩ ∧ av (nextA s.f1) = av s.f1 + 1 := fun h => by
      obtain ⟨p1, p2, p3⟩ := nextA_spec hs.2.1 (not_last hr hs hf h)
      exact ⟨⟨p1, hr.2.1, p2.trans (hs.2.2.1.symm.trans (hf.symm.trans hr.2.2.1)), by show av (nextA s.f1) ≤ av r.f1; omega⟩, p3⟩
    by_cases h1 : av r.f0 < av s.f0
    · obtain ⟨p1, p2⟩ := hp h1
      by_cases h2 : av s.f1 < av r.f1
      · obtain ⟨n1, n2⟩ := hn h2
        rw [if_pos h1, if_pos h2, if_pos ⟨h1, h2⟩]
        refine ⟨⟨Int.le_refl _, p1, by show av (prevA s.f0) + 1 ≤ av (nextA s.f1); omega, n1, trivial⟩, ?_, fun n => ?_, by simp⟩
        · intro x hx
          simp only [List.cons_append, List.nil_append, List.mem_cons, List.not_mem_nil, or_false] at hx
          rcases hx with rfl | rfl
          · show av (prevA s.f0) ≤ _; omega
          · exact Int.le_refl _
        · rw [List.cons_append, List.nil_append, asm_cons, asm_cons, asm_nil, or_false]
          unfold inR
          constructor
          · rintro (⟨_, g1, g2⟩ | ⟨_, g1, g2⟩)
            · have g2 : n ≤ av (prevA s.f0) := g2
              have g1 : av r.f0 ≤ n := g1
              exact ⟨by omega, by omega⟩
            · have g1 : av (nextA s.f1) ≤ n := g1
              have g2 : n ≤ av r.f1 := g2
              exact ⟨by omega, by omega⟩
          · rintro ⟨⟨g1, g2⟩, g3⟩
            by_cases g4 : n < av s.f0
            · exact .inl ⟨p1, g1, by show n ≤ av (prevA s.f0); omega⟩
            · exact .inr ⟨n1, by show av (nextA s.f1) ≤ n; omega, g2⟩
      · rw [if_pos h1, if_neg h2, if_neg (fun g => h2 g.2)]
        refine ⟨⟨Int.le_refl _, p1, trivial⟩, ?_, fun n => ?_, by simp⟩
        · intro x hx
          simp only [List.append_nil, List.mem_singleton] at hx
          rw [hx]
          show av (prevA s.f0) ≤ _; omega
        · rw [List.append_nil, asm_cons, asm_nil, or_false]
          unfold inR
          constructor
          · rintro ⟨_, g1, g2⟩
            have g2 : n ≤ av (prevA s.f0) := g2
            have g1 : av r.f0 ≤ n := g1
            exact ⟨by omega, by omega⟩
          · rintro ⟨⟨g1, g2⟩, g3⟩
            exact ⟨p1, g1, by show n ≤ av (prevA s.f0); omega⟩
    · by_cases h2 : av s.f1 < av r.f1
      · obtain ⟨n1, n2⟩ := hn h2
        rw [if_neg h1, if_pos h2, if_neg (fun g => h1 g.1)]
        refine ⟨⟨by show av r.f0 ≤ av (nextA s.f1); omega, n1, trivial⟩, ?_, fun n => ?_, by simp⟩
        · intro x hx
          simp only [List.nil_append, List.mem_singleton] at hx
          rw [hx]
          exact Int.le_refl _
        · rw [List.nil_append, asm_cons, asm_nil, or_false]
          unfold inR
          constructor
          · rintro ⟨_, g1, g2⟩
            have g1 : av (nextA s.f1) ≤ n := g1
            have g2 : n ≤ av r.f1 := g2
            exact ⟨by omega, by omega⟩
          · rintro ⟨⟨g1, g2⟩, g3⟩
            exact ⟨n1, by show av (nextA s.f1) ≤ n; omega, g2⟩
      · rw [if_neg h1, if_neg h2, if_neg (fun g => h1 g.1)]
        refine ⟨trivial, by simp, fun n => ?_, by simp⟩
        rw [List.nil_append, asm_nil]
        unfold inR
        exact ⟨False.elim, fun g => by omega⟩
theorem ev_without {r s : Rg} (hr : RW r) (hs : RW s) : Ev (fun k => addrset_without.f k r.f0.f0 r.f0.f1 r.f0.f2 r.f1.f0 r.f1.f1 r.f1.f2 s.f0.f0 s.f0.f1 s.f0.f2 s.f1.f0 s.f1.f1 s.f1.f2) (woR r s) := by
  have r2 := hr.2.2.2
  have s2 := hs.2.2.2
  have hj0t : (av s.f1 < av r.f0 ∨ av r.f1 < av s.f0) → Ev (fun k => addrset_without.j0 k true r.f0.f0 r.f0.f1 r.f0.f2 r.f1.f0 r.f1.f1 r.f1.f2 s.f0.f0 s.f0.f1 s.f0.f2 s.f1.f0 s.f1.f1 s.f1.f2) (woR r s) := fun h => by
    unfold woR
    rw [if_pos h]
    refine Ev.step (f := fun _ => some [r]) (fun k => ?_) (Ev.now _)
    simp only [addrset_without.j0]
    rw [if_pos (by trivial)]
  unfold addrset_without.f
  by_cases hf : r.f0.f0 = s.f0.f0
  · simp only [hf, bne_self_eq_false, Bool.false_eq_true, if_false]
    have e1 := cmp_f s.f1 r.f0
    have e2 := cmp_f r.f1 s.f0
    have c1 := cmp_lt' hs.2.1.1 hr.1.1
    have c2 := cmp_lt' hr.2.1.1 hs.1.1
    rw [hf] at e1
    rw [e1]
    simp only [Option.bind_some]
    rw [hf] at hj0t
    by_cases d1 : av s.f1 < av r.f0
    · exact Ev.congr (fun k => by rw [if_pos (c1.2 d1)]) (hj0t (.inl d1))
    · refine Ev.congr (f := fun k => addrset_without.j0 k (decide (cmpA r.f1 s.f0 < 0)) s.f0.f0 r.f0.f1 r.f0.f2 r.f1.f0 r.f1.f1 r.f1.f2 s.f0.f0 s.f0.f1 s.f0.f2 s.f1.f0 s.f1.f1 s.f1.f2) (fun k => by rw [if_neg (fun g => d1 (c1.1 g)), e2]; rfl) ?_
      by_cases d2 : av r.f1 < av s.f0
      · rw [decide_eq_true (c2.2 d2)]
        exact hj0t (.inr d2)
      · rw [decide_eq_false (fun g => d2 (c2.1 g))]
        have d3 : ¬ (av s.f1 < av r.f0 ∨ av r.f1 < av s.f0) := by omega
        unfold woR
        rw [if_neg d3]
        have c3 := cmp_lt' hr.1.1 hs.1.1
        have c4 := cmp_lt' hs.2.1.1 hr.2.1.1
        have hj1 : ∀ out : List Rg, out.length ≤ 1 → Ev (fun k => addrset_without.j1 k out s.f0.f0 r.f0.f1 r.f0.f2 r.f1.f0 r.f1.f1 r.f1.f2 s.f0.f0 s.f0.f1 s.f0.f2 s.f1.f0 s.f1.f1 s.f1.f2) (out ++ (if av s.f1 < av r.f1 then [(⟨nextA s.f1, r.f1⟩ : Rg)] else [])) := fun out ho => by
          refine Ev.step (f := fun _ => some (out ++ (if av s.f1 < av r.f1 then [(⟨nextA s.f1, r.f1⟩ : Rg)] else []))) (fun k => ?_) (Ev.now _)
          simp only [addrset_without.j1]
          rw [cmp_f s.f1 r.f1]
          simp only [Option.bind_some]
          by_cases h2 : av s.f1 < av r.f1
          · rw [if_pos (c4.2 h2), if_pos h2, next_eq s.f1 hs.2.1, if_neg (not_last hr hs hf h2)]
            simp only [Option.bind_some]
            rw [if_pos (by omega)]
          · rw [if_neg (fun g => h2 (c4.1 g)), if_neg h2, List.append_nil]
        by_cases h1 : av r.f0 < av s.f0
        · rw [if_pos h1]
          refine Ev.step (fun k => ?_) (hj1 [(⟨r.f0, prevA s.f0⟩ : Rg)] (by simp))
          simp only [addrset_without.j0]
          have e3 := cmp_f r.f0 s.f0
          rw [hf] at e3
          rw [if_neg (by decide), e3]
          simp only [Option.bind_some]
          rw [if_pos (c3.2 h1), prev_eq s.f0 (not_first hr hs hf h1)]
          simp only [Option.bind_some]
          rw [if_pos (by simp), ← hf]
          rfl
        · rw [if_neg h1]
          refine Ev.step (fun k => ?_) (hj1 [] (by simp))
          simp only [addrset_without.j0]
          have e3 := cmp_f r.f0 s.f0
          rw [hf] at e3
          rw [if_neg (by decide), e3]
          simp only [Option.bind_some]
          rw [if_neg (fun g => h1 (c3.1 g))]
  · refine Ev.congr (fun k => by rw [if_pos (by simpa using hf)]) (hj0t ?_)
    have h3 := fun g1 g2 => hf (fam_meet hr hs g1 g2)
    by_cases g1 : av r.f0 ≤ av s.f1
    · by_cases g2 : av s.f0 ≤ av r.f1
      · exact (h3 g1 g2).elim
      · exact .inr (by omega)
    · exact .inl (by omega)
def woAll (s : Rg) (l : List Rg) : List Rg := (l.map fun r => woR r s).flatten
theorem woAll_cons (s r : Rg) (t : List Rg) : woAll s (r :: t) = woR r s ++ woAll s t := by simp [woAll]
theorem woAll_spec {s : Rg} (hs : RW s) : ∀ {l : List Rg} {lo : Int}, Sep lo l → Sep lo (woAll s l) ∧ (∀ n, ASM (woAll s l) n ↔ ASM l n ∧ ¬ inR s n) ∧ (woAll s l).length ≤ l.length + (if lo ≤ av s.f0 then 1 else 0)
  | [], lo, _ => ⟨trivial, fun n => by simp [woAll, asm_nil], by simp [woAll]⟩
  | r :: t, lo, c => by
    obtain ⟨c1, hr, c3⟩ := c
    obtain ⟨w1, w2, w3, w4⟩ := woR_spec hr hs
    obtain ⟨i1, i2, i3⟩ := woAll_spec hs c3
    have r2 := hr.2.2.2
    rw [woAll_cons]
    refine ⟨?_, fun n => ?_, ?_⟩
    · exact sep_append _ _ lo (av r.f1 + 1) (w1.mono c1) (fun x hx => by have := w2 x hx; omega) (by omega) i1
    · rw [asm_append, w3, i2, asm_cons]
      constructor
      · rintro (⟨h1, h2⟩ | ⟨h1, h2⟩)
        · exact ⟨.inl ⟨hr, h1⟩, h2⟩
        · exact ⟨.inr h1, h2⟩
      · rintro ⟨h1 | h1, h2⟩
        · exact .inl ⟨h1.2, h2⟩
        · exact .inr ⟨h1, h2⟩
    · have s2 := hs.2.2.2
      rw [List.length_append, List.length_cons]
      split at w4
      · rename_i g
        rw [if_neg (by omega)] at i3
        rw [if_pos (by omega)]
        omega
      · split at i3
        · rw [if_pos (by omega)]; omega
        · split <;> omega
theorem ev_minus1 (t : List Rg) (s : Rg) (hs : RW s) (tl : Int) (i : Int) {r : List Rg} (L : List Rg) (hl : L.length ≤ 1000000) (hL : ∀ x ∈ L, RW x)
    (next : Ev (fun k => addrset_Minus.l0 k (woAll s L) t tl (wrap64 (i + 1))) r) : ∀ (d j : Nat) (out : List Rg), L.length - j = d → j ≤ L.length → out ++ woAll s (L.drop j) = woAll s L → out.length ≤ 2 * j →
    Ev (fun k => addrset_Minus.l1 k out t tl i L (L.length : Int) (j : Int) s.f0.f0 s.f0.f1 s.f0.f2 s.f1.f0 s.f1.f1 s.f1.f2) r := by
  intro d
  induction d with
  | zero =>
    intro j out hd hj ho _
    have : j = L.length := by omega
    subst this
    have e : out = woAll s L := by rw [← ho, List.drop_length]; simp [woAll]
    subst e
    refine Ev.step (fun k => ?_) next
    simp only [addrset_Minus.l1]; rw [if_neg (by omega)]
  | succ d ih =>
    intro j out hd hj ho hle
    have hlt : j < L.length := by omega
    have hr := hL L[j] (List.getElem_mem hlt)
    have hw := (woR_spec hr hs).2.2.2
    have hw2 : (woR L[j] s).length ≤ 2 := by split at hw <;> omega
    rw [dropc L j hlt, woAll_cons, ← List.append_assoc] at ho
    have h2 := ih (j + 1) (out ++ woR L[j] s) (by omega) (by omega) ho (by rw [List.length_append]; omega)
    refine Ev.step (f := fun k => (addrset_without.f k L[j].f0.f0 L[j].f0.f1 L[j].f0.f2 L[j].f1.f0 L[j].f1.f1 L[j].f1.f2 s.f0.f0 s.f0.f1 s.f0.f2 s.f1.f0 s.f1.f1 s.f1.f2).bind fun w => if out.length + w.length < 2932031007402 then addrset_Minus.l1 k (out ++ w) t tl i L (L.length : Int) ((j + 1 : Nat) : Int) s.f0.f0 s.f0.f1 s.f0.f2 s.f1.f0 s.f1.f1 s.f1.f2 else none) (fun k => ?_) (Ev.bind (ev_without hr hs) ?_)
    · simp only [addrset_Minus.l1]
      rw [if_pos (by omega), if_pos (by omega), if_pos (by omega), rd_getR L j hlt, wsucc j (by omega)]
    · refine Ev.congr (fun k => ?_) h2
      rw [if_pos (by omega)]
theorem ev_minus0 (t : List Rg) (ht : t.length ≤ 100000) (hT : ∀ x ∈ t, RW x) : ∀ (d i : Nat) (L : List Rg), t.length - i = d → i ≤ t.length → Sep 0 L → L.length + (t.length - i) ≤ 900000 → ∃ r, Ev (fun k => addrset_Minus.l0 k L t (t.length : Int) (i : Int)) r ∧ ACan (fun n => ASM L n ∧ ¬ ASM (t.drop i) n) r ∧ r.length ≤ L.length + (t.length - i) := by
  intro d
  induction d with
  | zero =>
    intro i L hd hi hs hl
    have : i = t.length := by omega
    subst this
    obtain ⟨r, r1, r2, r3⟩ := aNormal_spec L (by omega) (fun x hx => (hs.rw x hx).1.b)
    refine ⟨r, Ev.step (f := fun k => (addrset_Normal.f k L).bind fun t => some t) (fun k => ?_) (Ev.bind r1 (Ev.now _)), r2.congr (fun n => ?_), by omega⟩
    · simp only [addrset_Minus.l0]; rw [if_neg (by omega)]
    · rw [List.drop_length, asm_nil]; simp
  | succ d ih =>
    intro i L hd hi hs hl
    have hlt : i < t.length := by omega
    have hsw := hT t[i] (List.getElem_mem hlt)
    obtain ⟨w1, w2, w3⟩ := woAll_spec hsw hs
    have w3' : (woAll t[i] L).length ≤ L.length + 1 := by split at w3 <;> omega
    obtain ⟨r, r1, r2, r3⟩ := ih (i + 1) (woAll t[i] L) (by omega) (by omega) w1 (by omega)
    refine ⟨r, ?_, r2.congr (fun n => ?_), by omega⟩
    · have h := ev_minus1 t t[i] hsw (t.length : Int) (i : Int) L (by omega) (fun x hx => (hs.rw x hx).1) (by rw [wsucc i (by omega)]; exact r1) L.length 0 [] (by omega) (Nat.zero_le _) (by simp) (by simp)
      refine Ev.step (fun k => ?_) h
      simp only [addrset_Minus.l0]
      rw [if_pos (by omega), if_pos (by omega), if_pos (by omega), rd_getR t i hlt]
      rfl
    · rw [w2, dropc t i hlt, asm_cons]
      unfold inR
      constructor
      · rintro ⟨⟨h1, h2⟩, h3⟩
        exact ⟨h1, fun g => g.elim (fun g => h2 g.2) h3⟩
      · rintro ⟨h1, h2⟩
        exact ⟨⟨h1, fun g => h2 (.inl ⟨hsw, g⟩)⟩, fun g => h2 (.inr g)⟩
theorem aMinus_spec (a b : List Rg) (ha : a.length < 10000) (hb : b.length < 10000) (qa : ∀ x ∈ a, RB x) (qb : ∀ x ∈ b, RB x) : ∃ r, Ev (fun k => addrset_Minus.f k a b) r ∧ ACan (fun n => ASM a n ∧ ¬ ASM b n) r ∧ r.length ≤ a.length + b.length := by
  obtain ⟨x, x1, x2, x3⟩ := aNormal_spec a (by omega) qa
  obtain ⟨y, y1, y2, y3⟩ := aNormal_spec b (by omega) qb
  obtain ⟨r, r1, r2, r3⟩ := ev_minus0 y (by omega) y2.2.1 y.length 0 x (by omega) (Nat.zero_le _) (sep_of_can x2.1 x2.2.1) (by omega)
  refine ⟨r, ?_, r2.congr (fun n => ?_), by omega⟩
  · refine Ev.bind (f := fun k t => (addrset_Normal.f k b).bind fun t' => addrset_Minus.l0 k t t' (t'.length : Int) 0) x1 ?_
    exact Ev.bind (f := fun k t' => addrset_Minus.l0 k x t' (t'.length : Int) 0) y1 r1
  · rw [x2.2.2, List.drop_zero, y2.2.2]
theorem aSubset_spec (a b : List Rg) (ha : a.length < 10000) (hb : b.length < 10000) (qa : ∀ x ∈ a, RB x) (qb : ∀ x ∈ b, RB x) : ∃ r, ACan (fun n => ASM a n ∧ ¬ ASM b n) r ∧ Ev (fun k => addrset_Subset.f k a b) ((r.length : Int) == 0) := by
  obtain ⟨r, r1, r2, r3⟩ := aMinus_spec a b ha hb qa qb
  exact ⟨r, r2, Ev.congr (fun k => rfl) (Ev.bind r1 (Ev.now _))⟩
def GapP (S : List Rg) (lo hi : Int) (n : Int) : Prop := lo ≤ n ∧ n ≤ hi ∧ ¬ ASM S n
def Ext (S : List Rg) (fr : Ad) (f : Bool) (ext : List Rg) : Prop := CanFrom (av fr) (ext.map rsp) ∧ (∀ x ∈ ext, RW x) ∧ (∀ n, ASM ext n ↔ GapP S (av fr) (av (topA f)) n)
theorem can_cons {x : Rg} {t : List Rg} {lo : Int} (h1 : lo ≤ av x.f0) (h2 : av x.f0 ≤ av x.f1) (h3 : CanFrom (av x.f1 + 2) (t.map rsp)) : CanFrom lo ((x :: t).map rsp) := ⟨h1, h2, h3⟩
theorem ev_rcomp_over (all S : List Rg) (fi : Nat) (f : Bool) {r : List Rg} (out : List Rg) (hS : S.length < 1000) (hall : all.length = 2) (hfi : fi < 2) (next : Ev (fun k => intrusionref07_Complement.l0 k out all S ((fi + 1 : Nat) : Int)) r) :
    ∀ (d i : Nat) (a : Ad), a.f0 = f → S.length - i = d → i ≤ S.length → (∀ x ∈ S.drop i, x.f0.f0 ≠ f) → Ev (fun k => intrusionref07_Complement.l1 k out all S (fi : Int) true (i : Int) a.f0 a.f1 a.f2) r := by
  intro d
  induction d with
  | zero =>
    intro i a hf hd hi _
    have : i = S.length := by omega
    subst this
    refine Ev.step (fun k => ?_) next
    simp only [intrusionref07_Complement.l1]
    rw [if_neg (by omega), if_pos (by trivial), wsucc fi (by omega)]
  | succ d ih =>
    intro i a hf hd hi hno
    have hlt : i < S.length := by omega
    rw [dropc S i hlt] at hno
    have hx := hno S[i] (List.mem_cons_self ..)
    refine Ev.step (fun k => ?_) (ih (i + 1) a hf (by omega) (by omega) (fun x hx => hno x (List.mem_cons_of_mem _ hx)))
    simp only [intrusionref07_Complement.l1]
    rw [if_pos (by omega), if_pos (by omega), rd_getR S i hlt, if_pos (by rw [hf]; simpa using hx), wsucc i (by omega)]
theorem ev_rcomp4 (all S : List Rg) (fi : Nat) (f : Bool) (hS : S.length < 1000) (hR : ∀ x ∈ S, RW x) (hall : all.length = 2) (hfi : fi < 2) (htop : (rd_T66 all (fi : Int)).f1 = topA f) (res : List Rg → List Rg) (M : Nat)
    (next : ∀ out, out.length ≤ M → Ev (fun k => intrusionref07_Complement.l0 k out all S ((fi + 1 : Nat) : Int)) (res out)) :
    ∀ (d i : Nat) (a : Ad) (out : List Rg) (c : Int), AF a → a.f0 = f → S.length - i = d → i ≤ S.length → CanFrom c ((S.drop i).map rsp) → (∀ x ∈ S.drop i, x.f0.f0 = f → av a ≤ av x.f0) → out.length + (S.length - i) + 1 ≤ M → M ≤ 3000 →
    ∃ ext, Ev (fun k => intrusionref07_Complement.l1 k out all S (fi : Int) false (i : Int) a.f0 a.f1 a.f2) (res (out ++ ext)) ∧ Ext (S.drop i) a f ext ∧ ext.length ≤ S.length - i + 1 := by
  intro d
  induction d with
  | zero =>
    intro i a out c ha hf hd hi hc hge ho hM
    have : i = S.length := by omega
    subst this
    have htm := topA_max ha
    rw [hf] at htm
    have hw : RW ⟨a, topA f⟩ := ⟨ha, topA_AF f, by show a.f0 = (topA f).f0; rw [topA_f0]; exact hf, htm⟩
    refine ⟨[⟨a, topA f⟩], ?_, ⟨⟨Int.le_refl _, htm, trivial⟩, fun x hx => by rw [List.mem_singleton.1 hx]; exact hw, fun n => ?_⟩, by simp⟩
    · refine Ev.step (fun k => ?_) (next (out ++ [⟨a, topA f⟩]) (by simp; omega))
      simp only [intrusionref07_Complement.l1]
      rw [if_neg (by omega), if_neg (by decide), if_pos (by omega), if_pos (by omega), if_pos (by omega), htop, wsucc fi (by omega)]
    · rw [asm_cons, asm_nil, or_false, List.drop_length]
      unfold GapP
      rw [asm_nil]
      constructor
      · rintro ⟨_, h1, h2⟩; exact ⟨h1, h2, fun h => h⟩
      · rintro ⟨h1, h2, _⟩; exact ⟨hw, h1, h2⟩
  | succ d ih =>
    intro i a out c ha hf hd hi hc hge ho hM
    have hlt : i < S.length := by omega
    have hx := hR S[i] (List.getElem_mem hlt)
    rw [dropc S i hlt] at hge ⊢
    rw [dropc S i hlt, List.map_cons] at hc
    obtain ⟨c1, c2, c3⟩ := hc
    have hRd : ∀ x ∈ S.drop (i + 1), RW x := fun x hx => hR x (List.mem_of_mem_drop hx)
    have hsep := sep_of_can c3 hRd
    have hgt : ∀ x ∈ S.drop (i + 1), av S[i].f1 + 2 ≤ av x.f0 := fun x hx => by have := (hsep.rw x hx).2; simpa [rsp] using this
    have htm := topA_max ha
    rw [hf] at htm
    by_cases hfam : S[i].f0.f0 = f
    · have hax := hge S[i] (List.mem_cons_self ..) hfam
      have hxt : av S[i].f1 ≤ av (topA f) := by have := topA_max hx.2.1; rw [← hx.2.2.1, hfam] at this; exact this
      have x2 := hx.2.2.2
      have hj2 : ∀ out', out'.length + (S.length - (i + 1)) + 1 ≤ M → ∃ ext, Ev (fun k => intrusionref07_Complement.j2 k out' all S (fi : Int) (i : Int)) (res (out' ++ ext)) ∧ CanFrom (av S[i].f1 + 1) (ext.map rsp) ∧ (∀ x ∈ ext, RW x) ∧ (∀ n, ASM ext n ↔ GapP (S.drop (i + 1)) (av S[i].f1 + 1) (av (topA f)) n) ∧ ext.length ≤ S.length - (i + 1) + 1 := fun out' ho' => by
        by_cases hlast : S[i].f1 = topA S[i].f1.f0
        · have hft : S[i].f1.f0 = f := by rw [← hx.2.2.1]; exact hfam
          refine ⟨[], ?_, trivial, by simp, fun n => ?_, by simp⟩
          · have hov := ev_rcomp_over all S fi f out' hS hall hfi (next out' (by omega)) (S.length - (i + 1)) (i + 1) (topA f) (topA_f0 f) rfl (by omega) (fun x hxm hxf => by
              have h1 := hgt x hxm
              have h2 := topA_max (hRd x hxm).1
              rw [hxf] at h2
              rw [hft] at hlast
              rw [hlast] at h1
              omega)
            rw [List.append_nil]
            refine Ev.step (fun k => ?_) hov
            simp only [intrusionref07_Complement.j2]
            rw [if_pos (by omega), if_pos (by omega), rd_getR S i hlt, last_eq _ hx.2.1, after_eq, decide_eq_true hlast]
            simp only [Option.bind_some, if_true]
            rw [if_pos (by omega), if_pos (by omega), htop, wsucc i (by omega)]
          · rw [asm_nil]
            unfold GapP
            refine ⟨False.elim, fun ⟨h1, h2, _⟩ => ?_⟩
            rw [hft] at hlast
            rw [hlast] at h1
            omega
        · obtain ⟨n1, n2, n3⟩ := nextA_spec hx.2.1 hlast
          have hnf : (nextA S[i].f1).f0 = f := n2.trans (hx.2.2.1.symm.trans hfam)
          obtain ⟨ext, e1, ⟨e2, e3, e4⟩, e5⟩ := ih (i + 1) (nextA S[i].f1) out' _ n1 hnf (by omega) (by omega) c3 (fun x hxm _ => by have := hgt x hxm; omega) (by omega) hM
          rw [n3] at e2 e4
          refine ⟨ext, ?_, e2, e3, e4, e5⟩
          refine Ev.step (fun k => ?_) e1
          simp only [intrusionref07_Complement.j2]
          rw [if_pos (by omega), if_pos (by omega), rd_getR S i hlt, last_eq _ hx.2.1, after_eq, decide_eq_false hlast]
          simp only [Option.bind_some]
          rw [if_neg (by decide), wsucc i (by omega)]
      by_cases hlt2 : av a < av S[i].f0
      · have hnz : ¬ (S[i].f0.f1 = 0 ∧ S[i].f0.f2 = 0) := by
          rintro ⟨g1, g2⟩
          have h1 := ha.1
          unfold AW at h1
          unfold av at hlt2
          rw [g1, g2, hfam, hf] at hlt2
          omega
        obtain ⟨p1, p2, p3⟩ := prevA_spec hx.1 hnz
        obtain ⟨ext, e1, e2, e3, e4, e5⟩ := hj2 (out ++ [⟨a, prevA S[i].f0⟩]) (by simp; omega)
        have hw : RW ⟨a, prevA S[i].f0⟩ := ⟨ha, p1, hf.trans (hfam.symm.trans p2.symm), by show av a ≤ av (prevA S[i].f0); omega⟩
        refine ⟨⟨a, prevA S[i].f0⟩ :: ext, ?_, ⟨can_cons (Int.le_refl _) hw.2.2.2 (e2.mono (by show av (prevA S[i].f0) + 2 ≤ _; omega)), fun x hxm => ?_, fun n => ?_⟩, by simp; omega⟩
        · rw [show out ++ (⟨a, prevA S[i].f0⟩ : Rg) :: ext = out ++ [⟨a, prevA S[i].f0⟩] ++ ext from by simp]
          refine Ev.step (fun k => ?_) e1
          simp only [intrusionref07_Complement.l1]
          rw [if_pos (by omega), if_pos (by omega), rd_getR S i hlt, if_neg (by rw [hfam, hf]; simp), before_eq a S[i].f0 ha.1 hx.1.1, decide_eq_true hlt2, ahead_eq]
          simp only [Option.bind_some, if_true]
          rw [if_pos (by omega)]
        · rcases List.mem_cons.1 hxm with rfl | hxm
          · exact hw
          · exact e3 x hxm
        · rw [asm_cons, e4]
          unfold GapP
          rw [asm_cons]
          constructor
          · rintro (⟨_, g1, g2⟩ | ⟨g1, g2, g3⟩)
            · have g2 : n ≤ av (prevA S[i].f0) := g2
              refine ⟨g1, by omega, fun g => g.elim (fun g => by omega) (fun ⟨x, hxm, _, h1, h2⟩ => ?_)⟩
              have := hgt x hxm; omega
            · exact ⟨by omega, g2, fun g => g.elim (fun g => by omega) g3⟩
          · rintro ⟨g1, g2, g3⟩
            by_cases g4 : n < av S[i].f0
            · exact .inl ⟨hw, g1, by show n ≤ av (prevA S[i].f0); omega⟩
            · refine .inr ⟨?_, g2, fun g => g3 (.inr g)⟩
              apply Classical.byContradiction
              intro g5
              exact g3 (.inl ⟨hx, by omega, by omega⟩)
      · obtain ⟨ext, e1, e2, e3, e4, e5⟩ := hj2 out (by omega)
        refine ⟨ext, ?_, ⟨e2.mono (by omega), e3, fun n => ?_⟩, by omega⟩
        · refine Ev.step (fun k => ?_) e1
          simp only [intrusionref07_Complement.l1]
          rw [if_pos (by omega), if_pos (by omega), rd_getR S i hlt, if_neg (by rw [hfam, hf]; simp), before_eq a S[i].f0 ha.1 hx.1.1, decide_eq_false hlt2]
          rfl
        · rw [e4]
          unfold GapP
          rw [asm_cons]
          constructor
          · rintro ⟨g1, g2, g3⟩
            exact ⟨by omega, g2, fun g => g.elim (fun g => by omega) g3⟩
          · rintro ⟨g1, g2, g3⟩
            refine ⟨?_, g2, fun g => g3 (.inr g)⟩
            apply Classical.byContradiction
            intro g5
            exact g3 (.inl ⟨hx, by omega, by omega⟩)
    · obtain ⟨ext, e1, ⟨e2, e3, e4⟩, e5⟩ := ih (i + 1) a out _ ha hf (by omega) (by omega) c3 (fun x hxm hxf => hge x (List.mem_cons_of_mem _ hxm) hxf) (by omega) hM
      refine ⟨ext, ?_, ⟨e2, e3, fun n => ?_⟩, by omega⟩
      · refine Ev.step (fun k => ?_) e1
        simp only [intrusionref07_Complement.l1]
        rw [if_pos (by omega), if_pos (by omega), rd_getR S i hlt, if_pos (by rw [hf]; simpa using hfam), wsucc i (by omega)]
      · rw [e4]
        unfold GapP
        rw [asm_cons]
        refine and_congr_right (fun g1 => and_congr_right (fun g2 => not_congr ⟨.inr, fun g => g.elim (fun ⟨_, g3, g4⟩ => ?_) id⟩))
        exfalso
        have an := ha.num
        have tn := (topA_AF f).num
        rw [topA_f0] at tn
        rw [hf] at an
        rcases hx.num with ⟨_, _, n1 | n1⟩
        · cases f
          · exact hfam n1.1
          · rcases an with an | an
            · cases an.1
            · omega
        · cases f
          · rcases tn with tn | tn
            · omega
            · cases tn.1
          · exact hfam n1.1
theorem ev_rcomp (all S : List Rg) (fi : Nat) (f : Bool) (hS : S.length < 1000) (hR : ∀ x ∈ S, RW x) (hall : all.length = 2) (hfi : fi < 2) (htop : (rd_T66 all (fi : Int)).f1 = topA f) (res : List Rg → List Rg)
    (next : ∀ out, out.length ≤ 3000 → Ev (fun k => intrusionref07_Complement.l0 k out all S ((fi + 1 : Nat) : Int)) (res out)) :
    ∀ (d i : Nat) (a : Ad) (out : List Rg) (c : Int), AF a → a.f0 = f → S.length - i = d → i ≤ S.length → CanFrom c ((S.drop i).map rsp) → (∀ x ∈ S.drop i, x.f0.f0 = f → av a ≤ av x.f0) → out.length + (S.length - i) + 1 ≤ 3000 →
    ∃ ext, Ev (fun k => intrusionref07_Complement.l1 k out all S (fi : Int) false (i : Int) a.f0 a.f1 a.f2) (res (out ++ ext)) ∧ Ext (S.drop i) a f ext ∧ ext.length ≤ S.length - i + 1 :=
  fun d i a out c h1 h2 h3 h4 h5 h6 h7 => ev_rcomp4 all S fi f hS hR hall hfi htop res 3000 next d i a out c h1 h2 h3 h4 h5 h6 h7 (Nat.le_refl _)
def allR : List Rg := [⟨⟨false, 0, 0⟩, ⟨false, 0, 4294967295⟩⟩, ⟨⟨true, 0, 0⟩, ⟨true, 18446744073709551615, 18446744073709551615⟩⟩]
theorem arComp_spec (b : List Rg) (hb : b.length < 500) (qb : ∀ x ∈ b, RB x) : ∃ r, Ev (fun k => intrusionref07_Complement.f k b) r ∧ ACan (fun n => okN n ∧ ¬ ASM b n) r ∧ r.length ≤ 2 * b.length + 2 := by
  obtain ⟨S, s1, s2, s3⟩ := arNormal_spec b (by omega) qb
  have a4 : AF (⟨false, 0, 0⟩ : Ad) := ⟨⟨by simp, by simp, by simp, by simp⟩, .inr ⟨rfl, by simp⟩⟩
  have a6 : AF (⟨true, 0, 0⟩ : Ad) := ⟨⟨by simp, by simp, by simp, by simp⟩, .inl rfl⟩
  have v4 : av (⟨false, 0, 0⟩ : Ad) = 0 := by unfold av; simp
  have v6 : av (⟨true, 0, 0⟩ : Ad) = 680564733841876926926749214863536422912 := by unfold av; simp
  have t4 : av (topA false) = 4294967295 := by unfold av topA; simp
  have t6 : av (topA true) = 1020847100762815390390123822295304634367 := by unfold av topA; simp
  have hend : ∀ out : List Rg, Ev (fun k => intrusionref07_Complement.l0 k out allR S ((1 + 1 : Nat) : Int)) out := fun out => by
    refine Ev.step (f := fun _ => some out) (fun k => ?_) (Ev.now _)
    simp only [intrusionref07_Complement.l0]
    rw [if_neg (by omega)]
  have six : ∀ out : List Rg, out.length ≤ 1000 → ∃ ext, Ev (fun k => intrusionref07_Complement.l0 k out allR S ((0 + 1 : Nat) : Int)) (out ++ ext) ∧ Ext S ⟨true, 0, 0⟩ true ext ∧ ext.length ≤ S.length + 1 := fun out ho => by
    obtain ⟨ext, e1, e2, e3⟩ := ev_rcomp allR S 1 true (by omega) s2.2.1 rfl (by omega) rfl id (fun out _ => hend out) S.length 0 ⟨true, 0, 0⟩ out 0 a6 rfl (by omega) (Nat.zero_le _) s2.1 (fun x hx hf => by
      have hx := s2.2.1 x hx
      rcases hx.num with ⟨_, _, n1 | n1⟩
      · rw [hf] at n1; cases n1.1
      · rw [v6]; exact n1.2.2.1) (by omega)
    refine ⟨ext, ?_, e2, by omega⟩
    refine Ev.step (fun k => ?_) e1
    simp only [intrusionref07_Complement.l0]
    rw [if_pos (by omega), if_pos (by omega), if_pos (by show _ < ((2 : Nat) : Int); omega)]
    rfl
  have sixc : ∃ res : List Rg → List Rg, ∀ out : List Rg, out.length ≤ 1000 → (Ev (fun k => intrusionref07_Complement.l0 k out allR S ((0 + 1 : Nat) : Int)) (out ++ res out) ∧ Ext S ⟨true, 0, 0⟩ true (res out) ∧ (res out).length ≤ S.length + 1) :=
    ⟨fun out => if h : out.length ≤ 1000 then Classical.choose (six out h) else [], fun out ho => by
      simp only [dif_pos ho]
      exact Classical.choose_spec (six out ho)⟩
  obtain ⟨res, hres⟩ := sixc
  obtain ⟨ext, e1, ⟨e2, e3, e4⟩, e5⟩ := ev_rcomp4 allR S 0 false (by omega) s2.2.1 rfl (by omega) rfl (fun out => out ++ res out) 1000 (fun out ho => (hres out ho).1) S.length 0 ⟨false, 0, 0⟩ [] 0 a4 rfl (by omega) (Nat.zero_le _) s2.1 (fun x hx hf => by rw [v4]; exact (s2.2.1 x hx).num.1) (by simp; omega) (by omega)
  simp only [List.nil_append] at e1
  obtain ⟨_, ⟨g2, g3, g4⟩, g5⟩ := hres ext (by omega)
  rw [v4] at e2 e4
  rw [v6] at g2 g4
  rw [t4] at e4
  rw [t6] at g4
  rw [List.drop_zero] at e4
  have hle : ∀ x ∈ ext, av x.f1 ≤ 4294967295 := fun x hx => ((e4 (av x.f1)).1 ⟨x, hx, e3 x hx, (e3 x hx).2.2.2, Int.le_refl _⟩).2.1
  refine ⟨ext ++ res ext, ?_, ⟨?_, ?_, fun n => ?_⟩, by rw [List.length_append]; omega⟩
  · refine Ev.congr (f := fun k => (intrusionref07_Normal.f k b).bind fun t => intrusionref07_Complement.l0 k [] allR t 0) (fun k => rfl) (Ev.bind s1 ?_)
    refine Ev.step (fun k => ?_) e1
    simp only [intrusionref07_Complement.l0]
    rw [if_pos (by omega), if_pos (by omega), if_pos (by show _ < ((2 : Nat) : Int); omega)]
    rfl
  · rw [List.map_append, can_append]
    refine ⟨e2, fun x hx y hy => ?_, ⟨_, g2⟩, fun y hy => ?_⟩
    · obtain ⟨x', hx', rfl⟩ := List.mem_map.1 hx
      obtain ⟨y', hy', rfl⟩ := List.mem_map.1 hy
      have h1 := hle x' hx'
      have h2 := (can_wf _ _ g2 _ hy).1
      simp only [rsp] at h2 ⊢
      omega
    · have h2 := (can_wf _ _ g2 _ hy).1
      omega
  · intro x hx
    rcases List.mem_append.1 hx with hx | hx
    · exact e3 x hx
    · exact g3 x hx
  · rw [asm_append, e4, g4]
    unfold GapP okN
    rw [s2.2.2]
    constructor
    · rintro (⟨h1, h2, h3⟩ | ⟨h1, h2, h3⟩)
      · exact ⟨.inl ⟨h1, h2⟩, h3⟩
      · exact ⟨.inr ⟨h1, by omega⟩, h3⟩
    · rintro ⟨h1 | h1, h3⟩
      · exact .inl ⟨h1.1, h1.2, h3⟩
      · exact .inr ⟨h1.1, by omega, h3⟩
theorem arMinus_spec (a b : List Rg) (ha : a.length < 400) (hb : b.length < 400) (qa : ∀ x ∈ a, RB x) (qb : ∀ x ∈ b, RB x) : ∃ r, Ev (fun k => intrusionref07_Minus.f k a b) r ∧ ACan (fun n => ASM a n ∧ ¬ ASM b n) r := by
  obtain ⟨c, c1, c2, c3⟩ := arComp_spec b (by omega) qb
  obtain ⟨r, r1, r2, r3⟩ := arInter_spec a c (by omega) (by omega) qa (fun x hx => (c2.2.1 x hx).b)
  refine ⟨r, Ev.congr (fun k => rfl) (Ev.bind c1 (Ev.bind r1 (Ev.now _))), r2.congr (fun n => ?_)⟩
  rw [c2.2.2]
  exact ⟨fun h => ⟨h.1, h.2.2⟩, fun h => ⟨h.1, asm_ok h.1, h.2⟩⟩
theorem arSubset_spec (a b : List Rg) (ha : a.length < 400) (hb : b.length < 400) (qa : ∀ x ∈ a, RB x) (qb : ∀ x ∈ b, RB x) : ∃ r, ACan (fun n => ASM a n ∧ ¬ ASM b n) r ∧ Ev (fun k => intrusionref07_Subset.f k a b) ((r.length : Int) == 0) := by
  obtain ⟨r, r1, r2⟩ := arMinus_spec a b ha hb qa qb
  exact ⟨r, r2, Ev.congr (fun k => rfl) (Ev.bind r1 (Ev.now _))⟩
end Go.Proofs.Ytcgfpffgiimgmaa.Q
end

section
set_option linter.unusedVariables false
set_option linter.unusedSimpArgs false
namespace Go.Proofs.Ytcgfpffgiimgmaa.Pure
open Go.RowKit Go.Proofs.Ytcgfpffgiimgmaa.Q Go.Proofs.YtcgfpffgiimgmaaW.PrintWords Go.Proofs.YtcgfpffgiimgmaaW.PrintLast Go.Proofs.YtcgfpffgiimgmaaW.PrintMore
theorem AddrsetOperates : ∀ (l0 : List (Rg)) (l1 : List (Rg)), l0.length ≤ maxLen → (∀ x ∈ l0, q66 x) → l1.length ≤ maxLen → (∀ x ∈ l1, q66 x) → ∃ k, intrusionlaw07_AddrsetOperates.f k l0 l1 = some true := by
  intro l0 l1 hm hq hm1 hq1
  have qa : ∀ x ∈ l0, RB x := fun x hx => rb_of (hq x hx)
  have qb : ∀ x ∈ l1, RB x := fun x hx => rb_of (hq1 x hx)
  refine Ev.rounds (g := fun k => intrusionlaw07_AddrsetOperates.f k l0 l1) ?_
  unfold intrusionlaw07_AddrsetOperates.f intrusionlaw07_few.f
  have hno : Ev (fun k => (intrusionlaw07_awake.f k).bind fun t => some t) true := Ev.bind aawake_ev (Ev.now _)
  by_cases h0 : (l0.length : Int) ≤ 16
  · rw [if_pos h0]
    by_cases h1 : (l1.length : Int) ≤ 16
    · rw [decide_eq_true h1]
      simp only [Option.bind_some, if_true]
      have ha : l0.length ≤ 16 := by omega
      have hb : l1.length ≤ 16 := by omega
      have hab : l0.length * l1.length ≤ 16 * 16 := Nat.mul_le_mul ha hb
      obtain ⟨u, u1, u2, u3⟩ := aUnion_spec l0 l1 (by omega) (by omega) qa qb
      obtain ⟨v, v1, v2⟩ := arUnion_spec l0 l1 (by omega) (by omega) qa qb
      have e1 := v2.uniq u2
      subst e1
      obtain ⟨i, i1, i2, i3⟩ := aInter_spec l0 l1 (by omega) (by omega) qa qb
      obtain ⟨j, j1, j2, j3⟩ := arInter_spec l0 l1 (by omega) (by omega) qa qb
      have e2 := j2.uniq i2
      subst e2
      obtain ⟨m, m1, m2, m3⟩ := aMinus_spec l0 l1 (by omega) (by omega) qa qb
      obtain ⟨n, n1, n2⟩ := arMinus_spec l0 l1 (by omega) (by omega) qa qb
      have e3 := n2.uniq m2
      subst e3
      obtain ⟨s, s1, s2⟩ := aSubset_spec l0 l1 (by omega) (by omega) qa qb
      obtain ⟨t, t1, t2⟩ := arSubset_spec l0 l1 (by omega) (by omega) qa qb
      have e4 := t1.uniq s1
      subst e4
      refine Ev.bind u1 (Ev.bind v1 (Ev.bind (aSame_ev _ (by omega)) ?_))
      simp only [if_true]
      refine Ev.bind i1 (Ev.bind j1 (Ev.bind (aSame_ev _ (by omega)) ?_))
      simp only [if_true]
      refine Ev.bind m1 (Ev.bind n1 (Ev.bind (aSame_ev _ (by omega)) ?_))
      simp only [if_true]
      refine Ev.bind s2 (Ev.bind t2 ?_)
      simp only [beq_self_eq_true, if_true]
      exact hno
    · rw [decide_eq_false h1]
      exact hno
  · rw [if_neg h0]
    exact hno
end Go.Proofs.Ytcgfpffgiimgmaa.Pure
end

section
namespace Go.Proofs.Ytcgfpffgiimgmaa.addrsetOperates
open Go.ChangeShapes Go.WideShapes Go.ChangeAt Go.RowKit Go.Proofs.YtcgfpffgiimgmaaW.PrintWords Go.Proofs.Ytcgfpffgiimgmaa.Read Go.Proofs.Ytcgfpffgiimgmaa.Q
open Go.ChangeMaps (open_string shut_string)
set_option linter.unusedVariables false
theorem own : ownKnob Try.prog.godebug = none := by kernel_rfl
theorem laidOut : laidOutB Try.prog = true := by kernel_rfl
set_option maxRecDepth 100000 in
theorem lifted (os : Os) (started : os.Started) (H : Type) (enc : TypeId × Value → H) :
    ReturnsInHanded {} Try.checked os 12 .any (Rows.addrsetOperatesSpec.pre6 enc Try.prog Try.f12 Rows.addrsetOperatesRow.domain false) (Rows.addrsetOperatesSpec.post enc Try.prog Try.f12 false true false false) := by
  refine returnsInHanded_of_change_sized (C := Try.checked) own started (by kernel_rfl) Try.func12
    (ChangeSpec.witness6 (enc := enc) (C := Try.checked) false ⟨#[], #[.slice none 0 0, .slice none 0 0], []⟩ 8 (by kernel_rfl) (by kernel_rfl) (by kernel_rfl) (by kernel_rfl)) ?_
  intro W base args ds gs before hval0 hW hcnd hsz0 _
  have hsz : (DataW.weightsEach Try.prog (Try.f12.params.toList ++ Rows.addrsetOperatesSpec.plain.varTypes Try.prog) (ds ++ gs)).all (· ≤ reachBytes) = true := hsz0
  have hval : ∀ (j : Nat) t v, Try.f12.params[j]? = some t → args[j]? = some v → Value.okWide Try.prog W .any base t v := hval0
  have hW' := hW
  obtain ⟨p, q, hA0, hV, rfl, hfz, hnd⟩ := hW
  have hA : DataW.TrodAll enc Try.prog W 0 (fun _ => true) true Try.f12.params.toList args.toList ds p := hA0
  rw [Try.params12] at hA hval hsz
  obtain ⟨v0, vs0, d0, ds0, p0, q0, hargs, rfl, rfl, h0, r0⟩ := trodAll_cons hA
  obtain ⟨v1, vs1, d1, ds1, p1, q1, rfl, rfl, rfl, h1, r1⟩ := trodAll_cons r0
  obtain ⟨rfl, rfl, rfl⟩ := trodAll_nil r1
  obtain rfl : args = #[v0, v1] := by cases args; simp_all
  obtain ⟨rfl, rfl⟩ := trodVars_none hV
  obtain ⟨a0, len0, cap0, rfl⟩ := okWide_slice Try.underlying33 (hval 0 33 v0 rfl rfl)
  have k0_ := h0
  have lt0 : ∀ x ∈ p0, x.block < W.heap.size := by obtain ⟨m, hm⟩ := k0_; exact DataW.trod_lt m _ _ _ hm
  obtain ⟨fuel0, hf0⟩ := h0
  obtain ⟨l0, ⟨A0, c0, hcs0, hle0, hC0⟩, hm0, hq0⟩ := (reads_slice Try.underlying33 (by kernel_rfl) (reads_k66 W) : Reads Try.prog W (Kd.slice 66 k66) _ 33) H enc fuel0 _ _ hf0
  simp [Value.cells] at hcs0
  obtain ⟨rfl, rfl, rfl⟩ := hcs0
  obtain ⟨a1, len1, cap1, rfl⟩ := okWide_slice Try.underlying33 (hval 1 33 v1 rfl rfl)
  have k1_ := h1
  have lt1 : ∀ x ∈ p1, x.block < W.heap.size := by obtain ⟨m, hm⟩ := k1_; exact DataW.trod_lt m _ _ _ hm
  obtain ⟨fuel1, hf1⟩ := h1
  obtain ⟨l1, ⟨A1, c1, hcs1, hle1, hC1⟩, hm1, hq1⟩ := (reads_slice Try.underlying33 (by kernel_rfl) (reads_k66 W) : Reads Try.prog W (Kd.slice 66 k66) _ 33) H enc fuel1 _ _ hf1
  simp [Value.cells] at hcs1
  obtain ⟨rfl, rfl, rfl⟩ := hcs1
  clear hA0 hval0 hsz0 hsz
  obtain ⟨k, hk⟩ := Pure.AddrsetOperates l0 l1 hm0 hq0 hm1 hq1
  refine (intrusionlaw07_AddrsetOperates.calls k _ _ l0 _ _ l1 true W hC0 hle0 hC1 hle1 hk).mono fun e W' he => ?_
  obtain ⟨rfl, bel⟩ := he
  exact ⟨_, rfl, _, _, _, [], _, [], hW', trodAll_mk1 (shut_bool Try.underlying4 _), (trodAll_cons_mk (Below.trod laidOut (by kernel_rfl) (of_decide_eq_true (by kernel_rfl)) k0_ bel lt0) (trodAll_cons_mk (Below.trod laidOut (by kernel_rfl) (of_decide_eq_true (by kernel_rfl)) k1_ bel lt1) trodAll_mk0)), rfl, bel.frame _, fun h => by cases h⟩
theorem over : Rows.addrsetOperatesRow.holds Try.pinned (OpenSpec.ofChange Rows.addrsetOperatesSpec) :=
  OpenClaim.holds_of_wide 12 Try.f12 rfl rfl rfl rfl rfl rfl rfl ⟨rfl, rfl, rfl, rfl, rfl⟩ rfl rfl rfl rfl rfl (by kernel_rfl) Try.func12 (by kernel_rfl)
    (of_decide_eq_true (by kernel_rfl)) (by unfold Func.isWrapper; first | (rw [if_pos (by decide +kernel)]; kernel_rfl) | (rw [if_neg (by decide +kernel)]; exact ⟨rfl, rfl⟩))
    (fun os started H enc _ => lifted os started H enc)
theorem proved : Rows.AddrsetOperatesSaid := over
#print axioms proved
end Go.Proofs.Ytcgfpffgiimgmaa.addrsetOperates
namespace Go.Proofs.Ytcgfpffgiimgmaa
theorem addrsetOperates_holds : Rows.AddrsetOperatesSaid := addrsetOperates.proved
end Go.Proofs.Ytcgfpffgiimgmaa
end
