/- The law PortsetCanonical answers true for every input and leaves its arguments as they were. No condition. (Part 3 of 4: the kit's printed words and walks, hand-made contracts and plain laws, joined in build order, without what the theorem does not reach.) -/
import Derived.Deep.Slices
import Derived.ChangeArms
import Derived.WideShapes
import Derived.DataElems
import Derived.Shelf.Abstract
import Derived.Test.YtbimdjciacnioaaDoorGPortsetCanonical2
section
namespace Go.Proofs.YtbimdjciacnioaaDoor.Q
open Go.RowKit Go.Proofs.YtbimdjciacnioaaDoorW.PrintWords Go.Proofs.YtbimdjciacnioaaDoorW.PrintLast Go.Proofs.YtbimdjciacnioaaDoorW.PrintMore
attribute [local go_sem] max2_int min2_int max_two min_two max_three min_three max_four min_four
set_option linter.unusedVariables false
set_option linter.unusedSimpArgs false
def intrusionlaw08_awake.f (k : Nat)  : Option (Bool) := (portset_Parse.f k (⟨#[56, 48, 44, 56, 48, 48, 48, 58, 56, 48, 48, 50, 44, 33, 56, 48, 48, 49]⟩ : ByteArray)).bind fun bt237 => ((portset_Parse.f k (⟨#[55, 58, 53]⟩ : ByteArray)).bind fun bt241 => ((portset_Parse.f k (⟨#[]⟩ : ByteArray)).bind fun bt245 => ((portset_Eval.f k ([] : List (S33)) (([(⟨0, 1023⟩ : S33)] : List (S33)))).bind fun t252 => ((intrusionlaw08_same.f k bt237.1 (([(⟨80, 80⟩ : S33), (⟨8000, 8000⟩ : S33), (⟨8002, 8002⟩ : S33)] : List (S33)))).bind fun t258 => (if t258 = true then (if bt237.2 = 0 then (if bt241.2 = 4 then (if bt245.2 = 14 then ((intrusionlaw08_same.f k t252 (([(⟨1024, 65535⟩ : S33)] : List (S33)))).bind fun t262 => (if t262 = true then ((portset_Format.f k (([(⟨1, 2⟩ : S33), (⟨9, 9⟩ : S33)] : List (S33)))).bind fun t266 => (if t266.toList = ([49, 58, 50, 44, 57] : List UInt8) then ((portset_All.f).bind fun t267 => ((intrusionlaw08_same.f k t267 (([(⟨0, 65535⟩ : S33)] : List (S33)))).bind fun t273 => (some t273))) else (some false))) else (some false))) else (some false)) else (some false)) else (some false)) else (some false))))))
theorem intrusionlaw08_awake.mono : ∀ k, LeO (intrusionlaw08_awake.f k ) (intrusionlaw08_awake.f (k + 1) ) := by
  intro  k
  unfold intrusionlaw08_awake.f
  repeat' first
      | (with_reducible exact intrusionlaw08_same.mono _ _ _)
      | (with_reducible exact portset_Eval.mono _ _ _)
      | (with_reducible exact portset_Format.mono _ _)
      | (with_reducible exact portset_Parse.mono _ _)
      | (with_reducible exact LeO.refl _)
      | (with_reducible exact LeO.none _)
      | (with_reducible refine LeO.ite ?_ ?_)
      | (with_reducible refine LeO.bind ?_ (fun _ => ?_))
      | exact intrusionlaw08_same.mono _ _ _
      | exact portset_Eval.mono _ _ _
      | exact portset_Format.mono _ _
      | exact portset_Parse.mono _ _
      | exact LeO.none _
      | refine LeO.ite ?_ ?_
      | refine LeO.bind ?_ (fun _ => ?_)
set_option maxHeartbeats 8000000 in
set_option maxRecDepth 100000 in
theorem intrusionlaw08_awake.calls (k : Nat)  (r : Bool) (w : World) (h : intrusionlaw08_awake.f k  = some r) (hW_ : WOK w) :
 Calls Tryd.prog 9 #[] w fun e w' => e = .returned (.bool r) ∧ Below w.heap.size w w' := by
 have hu33 := Tryd.underlying33
 have HB := Aside0.mk (Below.refl w.heap.size w)
 unfold intrusionlaw08_awake.f at h; have H := h
 clear h
 replace H := Option.bind_eq_some_iff.mp H
 obtain ⟨⟨t237, t238⟩, A10, H⟩ := H
 try dsimp only at H
 have A1 := Aside0.mk A10
 clear A10
 replace H := Option.bind_eq_some_iff.mp H
 obtain ⟨⟨t241, t242⟩, A20, H⟩ := H
 try dsimp only at H
 have A2 := Aside0.mk A20
 clear A20
 replace H := Option.bind_eq_some_iff.mp H
 obtain ⟨⟨t245, t246⟩, A30, H⟩ := H
 try dsimp only at H
 have A3 := Aside0.mk A30
 clear A30
 obtain ⟨y249, hy249⟩ : ∃ y_ : List (S33), y_ = (([(⟨0, 1023⟩ : S33)] : List (S33))) := ⟨_, rfl⟩
 rw [← hy249] at H; try dsimp only [Option.bind_some] at H
 have Ny249 := Aside0.mk hy249
 clear hy249
 replace H := Option.bind_eq_some_iff.mp H
 obtain ⟨t252, A40, H⟩ := H
 try dsimp only at H
 have A4 := Aside0.mk A40
 clear A40
 obtain ⟨y255, hy255⟩ : ∃ y_ : List (S33), y_ = (([(⟨80, 80⟩ : S33), (⟨8000, 8000⟩ : S33), (⟨8002, 8002⟩ : S33)] : List (S33))) := ⟨_, rfl⟩
 rw [← hy255] at H; try dsimp only [Option.bind_some] at H
 have Ny255 := Aside0.mk hy255
 clear hy255
 replace H := Option.bind_eq_some_iff.mp H
 obtain ⟨t258, A50, H⟩ := H
 try dsimp only at H
 have A5 := Aside0.mk A50
 clear A50
 by_cases c6 : t258 = true
 · subst c6
   rw [if_pos rfl] at H
   by_cases c7 : t238 = 0
   · rw [if_pos c7] at H
     have c7b0 : (t238 == 0) = true := beq_iff_eq.mpr c7
     have c7b1 : (t238 != 0) = false := bne_eq_false_iff_eq.mpr c7
     clear c7
     by_cases c8 : t242 = 4
     · rw [if_pos c8] at H
       have c8b0 : (t242 == 4) = true := beq_iff_eq.mpr c8
       have c8b1 : (t242 != 4) = false := bne_eq_false_iff_eq.mpr c8
       clear c8
       by_cases c9 : t246 = 14
       · rw [if_pos c9] at H
         have c9b0 : (t246 == 14) = true := beq_iff_eq.mpr c9
         have c9b1 : (t246 != 14) = false := bne_eq_false_iff_eq.mpr c9
         clear c9
         obtain ⟨y259, hy259⟩ : ∃ y_ : List (S33), y_ = (([(⟨1024, 65535⟩ : S33)] : List (S33))) := ⟨_, rfl⟩
         rw [← hy259] at H; try dsimp only [Option.bind_some] at H
         have Ny259 := Aside0.mk hy259
         clear hy259
         replace H := Option.bind_eq_some_iff.mp H
         obtain ⟨t262, A100, H⟩ := H
         try dsimp only at H
         have A10 := Aside0.mk A100
         clear A100
         by_cases c11 : t262 = true
         · subst c11
           rw [if_pos rfl] at H
           obtain ⟨y263, hy263⟩ : ∃ y_ : List (S33), y_ = (([(⟨1, 2⟩ : S33), (⟨9, 9⟩ : S33)] : List (S33))) := ⟨_, rfl⟩
           rw [← hy263] at H; try dsimp only [Option.bind_some] at H
           have Ny263 := Aside0.mk hy263
           clear hy263
           replace H := Option.bind_eq_some_iff.mp H
           obtain ⟨t266, A120, H⟩ := H
           try dsimp only at H
           have A12 := Aside0.mk A120
           clear A120
           by_cases c13 : t266.toList = ([49, 58, 50, 44, 57] : List UInt8)
           · rw [if_pos c13] at H
             have c13b0 : (t266.toList == ([49, 58, 50, 44, 57] : List UInt8)) = true := beq_iff_eq.mpr c13
             have c13b1 : (t266.toList != ([49, 58, 50, 44, 57] : List UInt8)) = false := bne_eq_false_iff_eq.mpr c13
             clear c13
             replace H := Option.bind_eq_some_iff.mp H
             obtain ⟨t267, A140, H⟩ := H
             try dsimp only at H
             have A14 := Aside0.mk A140
             clear A140
             obtain ⟨y270, hy270⟩ : ∃ y_ : List (S33), y_ = (([(⟨0, 65535⟩ : S33)] : List (S33))) := ⟨_, rfl⟩
             rw [← hy270] at H; try dsimp only [Option.bind_some] at H
             have Ny270 := Aside0.mk hy270
             clear hy270
             replace H := Option.bind_eq_some_iff.mp H
             obtain ⟨t273, A150, H⟩ := H
             try dsimp only at H
             have A15 := Aside0.mk A150
             clear A150
             obtain rfl := Option.some.inj H
             go_enter Tryd.func9, Tryd.ntmps9
             go_wp2_with (first | ((with_reducible refine gate_callee (f := 10) rfl ?_); refine goesL_ (some 9) rfl rfl Tryd.func10 (by kernel_rfl) rfl #[.string (⟨#[56, 48, 44, 56, 48, 48, 48, 58, 56, 48, 48, 50, 44, 33, 56, 48, 48, 49]⟩ : ByteArray)] rfl (by (try simp only [List.map_toArray, List.map_cons, List.map_nil]); first | done | rfl | (simp only [List.length_drop, List.length_take]; rfl)) ?_; (with_reducible refine (portset_Parse.calls k (⟨#[56, 48, 44, 56, 48, 48, 48, 58, 56, 48, 48, 50, 44, 33, 56, 48, 48, 49]⟩ : ByteArray) t237 t238 _ A1.out (WOK.below hW_ (zB HB))).mono ?_); rintro e w16 ⟨v239, rfl, ho0, hb⟩; refine ⟨_, rfl, ?_⟩; have HO240 := Aside0.mk (Kd.R_lower ho0 (below_size (zB HB))); replace HB := Aside0.mk (below_step (zB HB) hb); (try clear hb); (try clear ho0)) | ((with_reducible refine gate_callee (f := 10) rfl ?_); refine goesL_ (some 13) rfl rfl Tryd.func10 (by kernel_rfl) rfl #[.string (⟨#[55, 58, 53]⟩ : ByteArray)] rfl (by (try simp only [List.map_toArray, List.map_cons, List.map_nil]); first | done | rfl | (simp only [List.length_drop, List.length_take]; rfl)) ?_; (with_reducible refine (portset_Parse.calls k (⟨#[55, 58, 53]⟩ : ByteArray) t241 t242 _ A2.out (WOK.below hW_ (zB HB))).mono ?_); rintro e w17 ⟨v243, rfl, ho0, hb⟩; refine ⟨_, rfl, ?_⟩; have HO244 := Aside0.mk (Kd.R_lower (Kd.R_new' ho0 (Kd.R_lt (zR HO240))) (below_size (zB HB))); replace HO240 := Aside0.mk (Kd.R_elder' (zR HO240) (Kd.R_base ho0) hb); replace HB := Aside0.mk (below_step (zB HB) hb); (try clear hb); (try clear ho0)) | ((with_reducible refine gate_callee (f := 10) rfl ?_); refine goesL_ (some 17) rfl rfl Tryd.func10 (by kernel_rfl) rfl #[.string (⟨#[]⟩ : ByteArray)] rfl (by (try simp only [List.map_toArray, List.map_cons, List.map_nil]); first | done | rfl | (simp only [List.length_drop, List.length_take]; rfl)) ?_; (with_reducible refine (portset_Parse.calls k (⟨#[]⟩ : ByteArray) t245 t246 _ A3.out (WOK.below hW_ (zB HB))).mono ?_); rintro e w18 ⟨v247, rfl, ho0, hb⟩; refine ⟨_, rfl, ?_⟩; have HO248 := Aside0.mk (Kd.R_lower (Kd.R_new' (Kd.R_new' ho0 (Kd.R_lt (zR HO240))) (Kd.R_lt (zR HO244))) (below_size (zB HB))); replace HO240 := Aside0.mk (Kd.R_elder' (zR HO240) (Kd.R_base ho0) hb); replace HO244 := Aside0.mk (Kd.R_elder' (zR HO244) (Kd.R_base ho0) hb); replace HB := Aside0.mk (below_step (zB HB) hb); (try clear hb); (try clear ho0)) | ((with_reducible refine gate_dst (N := 21) rfl ?_); (try (refine gate_guard (by rfl) ?_; dsimp only)); refine Kd.R_lit k33 _ 33 ?hg (N := 21) ?hd (xs := ([(⟨0, 1023⟩ : S33)] : List (S33))) (inner := [.int .i64 0, .int .i64 1023]) (ok := fun _ => True) (okp := fun _ => True) ?hr ?hp (fun _ hk => hk) trivial (Below.refl _ _) (Nat.le_refl _) (by simp) ?_; (case hd => rfl); (case hg => rfl); (case hr => first | (go_simp; done) | (go_simp; rfl)); (case hp => exact (Reps.c2 (show Kd.M k33 _ _ _ (⟨0, 1023⟩ : S33) [.int .i64 0, .int .i64 1023] from (k33_mkM _ _ _ (⟨0, 1023⟩ : S33) )) (Reps.none _ _))); intro v250 w19 ho20 hb hg_ hnew_; clear hg_ hnew_; (first | rw [← Ny249.out] at ho20 | (simp only [Int.reduceToNat] at ho20; rw [← Ny249.out] at ho20)); have HO251 := Aside0.mk (Kd.R_lower (Kd.R_new' (Kd.R_new' (Kd.R_new' ho20 (Kd.R_lt (zR HO240))) (Kd.R_lt (zR HO244))) (Kd.R_lt (zR HO248))) (below_size (zB HB))); replace HO240 := Aside0.mk (Kd.R_elder' (zR HO240) (Kd.R_base ho20) hb); replace HO244 := Aside0.mk (Kd.R_elder' (zR HO244) (Kd.R_base ho20) hb); replace HO248 := Aside0.mk (Kd.R_elder' (zR HO248) (Kd.R_base ho20) hb); replace HB := Aside0.mk (below_step (zB HB) hb); clear hb ho20; obtain ⟨Ao21, co21, eo21⟩ := Kd.R_slice HO251.out; subst eo21) | ((with_reducible refine gate_callee (f := 16) rfl ?_); refine goesL_ (some 22) rfl rfl Tryd.func16 (by kernel_rfl) rfl #[.slice none 0 0, .slice Ao21 y249.length co21] rfl (by (try simp only [List.map_toArray, List.map_cons, List.map_nil]); first | done | rfl | (simp only [List.length_drop, List.length_take]; rfl)) ?_; (refine (portset_Eval.calls k _ _ ([] : List (S33)) _ _ y249 t252 _ ?side1 ?side2 ?side3 ?side4 A4.out).mono ?_); (case side1 => exact Kd.C_nil _ _); (case side2 => exact Nat.le_refl _); (case side3 => repeat (first | exact (Kd.R_reads' HO251.out).2.2 | (with_reducible refine Kd.C_alloc ?_ _) | (with_reducible refine Kd.C_drewN ?_ _) | (with_reducible refine Kd.C_drew ?_))); (case side4 => exact (Kd.R_reads' HO251.out).2.1); rintro e w22 ⟨v253, rfl, ho0, hb⟩; refine ⟨_, rfl, ?_⟩; have HO254 := Aside0.mk (Kd.R_lower (Kd.R_new' (Kd.R_new' (Kd.R_new' (Kd.R_new' ho0 (Kd.R_lt (zR HO240))) (Kd.R_lt (zR HO244))) (Kd.R_lt (zR HO248))) (Kd.R_lt (zR HO251))) (below_size (zB HB))); replace HO240 := Aside0.mk (Kd.R_elder' (zR HO240) (Kd.R_base ho0) hb); replace HO244 := Aside0.mk (Kd.R_elder' (zR HO244) (Kd.R_base ho0) hb); replace HO248 := Aside0.mk (Kd.R_elder' (zR HO248) (Kd.R_base ho0) hb); replace HO251 := Aside0.mk (Kd.R_elder' (zR HO251) (Kd.R_base ho0) hb); replace HB := Aside0.mk (below_step (zB HB) hb); (try clear hb); (try clear ho0)) | ((with_reducible refine gate_dst (N := 27) rfl ?_); (try (refine gate_guard (by rfl) ?_; dsimp only)); refine Kd.R_lit k33 _ 33 ?hg (N := 27) ?hd (xs := ([(⟨80, 80⟩ : S33), (⟨8000, 8000⟩ : S33), (⟨8002, 8002⟩ : S33)] : List (S33))) (inner := [.int .i64 80, .int .i64 80, .int .i64 8000, .int .i64 8000, .int .i64 8002, .int .i64 8002]) (ok := fun _ => True) (okp := fun _ => True) ?hr ?hp (fun _ hk => hk) trivial (Below.refl _ _) (Nat.le_refl _) (by simp) ?_; (case hd => rfl); (case hg => rfl); (case hr => first | (go_simp; done) | (go_simp; rfl)); (case hp => exact (Reps.c2 (show Kd.M k33 _ _ _ (⟨80, 80⟩ : S33) [.int .i64 80, .int .i64 80] from (k33_mkM _ _ _ (⟨80, 80⟩ : S33) )) (Reps.c2 (show Kd.M k33 _ _ _ (⟨8000, 8000⟩ : S33) [.int .i64 8000, .int .i64 8000] from (k33_mkM _ _ _ (⟨8000, 8000⟩ : S33) )) (Reps.c2 (show Kd.M k33 _ _ _ (⟨8002, 8002⟩ : S33) [.int .i64 8002, .int .i64 8002] from (k33_mkM _ _ _ (⟨8002, 8002⟩ : S33) )) (Reps.none _ _))))); intro v256 w23 ho24 hb hg_ hnew_; clear hg_ hnew_; (first | rw [← Ny255.out] at ho24 | (simp only [Int.reduceToNat] at ho24; rw [← Ny255.out] at ho24)); have HO257 := Aside0.mk (Kd.R_lower (Kd.R_new' (Kd.R_new' (Kd.R_new' (Kd.R_new' (Kd.R_new' ho24 (Kd.R_lt (zR HO240))) (Kd.R_lt (zR HO244))) (Kd.R_lt (zR HO248))) (Kd.R_lt (zR HO251))) (Kd.R_lt (zR HO254))) (below_size (zB HB))); replace HO240 := Aside0.mk (Kd.R_elder' (zR HO240) (Kd.R_base ho24) hb); replace HO244 := Aside0.mk (Kd.R_elder' (zR HO244) (Kd.R_base ho24) hb); replace HO248 := Aside0.mk (Kd.R_elder' (zR HO248) (Kd.R_base ho24) hb); replace HO251 := Aside0.mk (Kd.R_elder' (zR HO251) (Kd.R_base ho24) hb); replace HO254 := Aside0.mk (Kd.R_elder' (zR HO254) (Kd.R_base ho24) hb); replace HB := Aside0.mk (below_step (zB HB) hb); clear hb ho24; obtain ⟨Ao25, co25, eo25⟩ := Kd.R_slice HO240.out; subst eo25; obtain ⟨Ao26, co26, eo26⟩ := Kd.R_slice HO257.out; subst eo26) | ((with_reducible refine gate_callee (f := 12) rfl ?_); refine goesL_ (some 28) rfl rfl Tryd.func12 (by kernel_rfl) rfl #[.slice Ao25 t237.length co25, .slice Ao26 y255.length co26] rfl (by (try simp only [List.map_toArray, List.map_cons, List.map_nil]); first | done | rfl | (simp only [List.length_drop, List.length_take]; rfl)) ?_; (with_reducible refine (intrusionlaw08_same.calls k _ _ t237 _ _ y255 true _ ?side1 ?side2 ?side3 ?side4 A5.out).mono ?_); (case side1 => repeat (first | exact (Kd.R_reads' HO240.out).2.2 | (with_reducible refine Kd.C_alloc ?_ _) | (with_reducible refine Kd.C_drewN ?_ _) | (with_reducible refine Kd.C_drew ?_))); (case side2 => exact (Kd.R_reads' HO240.out).2.1); (case side3 => repeat (first | exact (Kd.R_reads' HO257.out).2.2 | (with_reducible refine Kd.C_alloc ?_ _) | (with_reducible refine Kd.C_drewN ?_ _) | (with_reducible refine Kd.C_drew ?_))); (case side4 => exact (Kd.R_reads' HO257.out).2.1); rintro e w' ⟨rfl, ⟨nd, rfl⟩⟩; refine ⟨_, rfl, ?_⟩) | ((with_reducible refine gate_dst (N := 44) rfl ?_); (try (refine gate_guard (by rfl) ?_; dsimp only)); refine Kd.R_lit k33 _ 33 ?hg (N := 44) ?hd (xs := ([(⟨1024, 65535⟩ : S33)] : List (S33))) (inner := [.int .i64 1024, .int .i64 65535]) (ok := fun _ => True) (okp := fun _ => True) ?hr ?hp (fun _ hk => hk) trivial (Below.refl _ _) (Nat.le_refl _) (by simp) ?_; (case hd => rfl); (case hg => rfl); (case hr => first | (go_simp; done) | (go_simp; rfl)); (case hp => exact (Reps.c2 (show Kd.M k33 _ _ _ (⟨1024, 65535⟩ : S33) [.int .i64 1024, .int .i64 65535] from (k33_mkM _ _ _ (⟨1024, 65535⟩ : S33) )) (Reps.none _ _))); intro v260 w27 ho28 hb hg_ hnew_; clear hg_ hnew_; (first | rw [← Ny259.out] at ho28 | (simp only [Int.reduceToNat] at ho28; rw [← Ny259.out] at ho28)); have HO261 := Aside0.mk (Kd.R_lower (Kd.R_new' (Kd.R_new' (Kd.R_new' (Kd.R_new' (Kd.R_new' (Kd.R_new' ho28 (Kd.R_lt (zR HO240))) (Kd.R_lt (zR HO244))) (Kd.R_lt (zR HO248))) (Kd.R_lt (zR HO251))) (Kd.R_lt (zR HO254))) (Kd.R_lt (zR HO257))) (below_size (zB HB))); replace HO240 := Aside0.mk (Kd.R_elder' (zR HO240) (Kd.R_base ho28) hb); replace HO244 := Aside0.mk (Kd.R_elder' (zR HO244) (Kd.R_base ho28) hb); replace HO248 := Aside0.mk (Kd.R_elder' (zR HO248) (Kd.R_base ho28) hb); replace HO251 := Aside0.mk (Kd.R_elder' (zR HO251) (Kd.R_base ho28) hb); replace HO254 := Aside0.mk (Kd.R_elder' (zR HO254) (Kd.R_base ho28) hb); replace HO257 := Aside0.mk (Kd.R_elder' (zR HO257) (Kd.R_base ho28) hb); replace HB := Aside0.mk (below_step (zB HB) hb); clear hb ho28; obtain ⟨Ao29, co29, eo29⟩ := Kd.R_slice HO254.out; subst eo29; obtain ⟨Ao30, co30, eo30⟩ := Kd.R_slice HO261.out; subst eo30) | (go_at_call 12; (with_reducible refine (intrusionlaw08_same.calls k _ _ t252 _ _ y259 true _ ?side1 ?side2 ?side3 ?side4 A10.out).mono ?_); (case side1 => repeat (first | exact (Kd.R_reads' HO254.out).2.2 | (with_reducible refine Kd.C_alloc ?_ _) | (with_reducible refine Kd.C_drewN ?_ _) | (with_reducible refine Kd.C_drew ?_))); (case side2 => exact (Kd.R_reads' HO254.out).2.1); (case side3 => repeat (first | exact (Kd.R_reads' HO261.out).2.2 | (with_reducible refine Kd.C_alloc ?_ _) | (with_reducible refine Kd.C_drewN ?_ _) | (with_reducible refine Kd.C_drew ?_))); (case side4 => exact (Kd.R_reads' HO261.out).2.1); rintro e w' ⟨rfl, ⟨nd, rfl⟩⟩) | ((with_reducible refine gate_dst (N := 50) rfl ?_); (try (refine gate_guard (by rfl) ?_; dsimp only)); refine Kd.R_lit k33 _ 33 ?hg (N := 50) ?hd (xs := ([(⟨1, 2⟩ : S33), (⟨9, 9⟩ : S33)] : List (S33))) (inner := [.int .i64 1, .int .i64 2, .int .i64 9, .int .i64 9]) (ok := fun _ => True) (okp := fun _ => True) ?hr ?hp (fun _ hk => hk) trivial (Below.refl _ _) (Nat.le_refl _) (by simp) ?_; (case hd => rfl); (case hg => rfl); (case hr => first | (go_simp; done) | (go_simp; rfl)); (case hp => exact (Reps.c2 (show Kd.M k33 _ _ _ (⟨1, 2⟩ : S33) [.int .i64 1, .int .i64 2] from (k33_mkM _ _ _ (⟨1, 2⟩ : S33) )) (Reps.c2 (show Kd.M k33 _ _ _ (⟨9, 9⟩ : S33) [.int .i64 9, .int .i64 9] from (k33_mkM _ _ _ (⟨9, 9⟩ : S33) )) (Reps.none _ _)))); intro v264 w31 ho32 hb hg_ hnew_; clear hg_ hnew_; (first | rw [← Ny263.out] at ho32 | (simp only [Int.reduceToNat] at ho32; rw [← Ny263.out] at ho32)); have HO265 := Aside0.mk (Kd.R_lower (Kd.R_new' (Kd.R_new' (Kd.R_new' (Kd.R_new' (Kd.R_new' (Kd.R_new' (Kd.R_new' ho32 (Kd.R_lt (zR HO240))) (Kd.R_lt (zR HO244))) (Kd.R_lt (zR HO248))) (Kd.R_lt (zR HO251))) (Kd.R_lt (zR HO254))) (Kd.R_lt (zR HO257))) (Kd.R_lt (zR HO261))) (below_size (zB HB))); replace HO240 := Aside0.mk (Kd.R_elder' (zR HO240) (Kd.R_base ho32) hb); replace HO244 := Aside0.mk (Kd.R_elder' (zR HO244) (Kd.R_base ho32) hb); replace HO248 := Aside0.mk (Kd.R_elder' (zR HO248) (Kd.R_base ho32) hb); replace HO251 := Aside0.mk (Kd.R_elder' (zR HO251) (Kd.R_base ho32) hb); replace HO254 := Aside0.mk (Kd.R_elder' (zR HO254) (Kd.R_base ho32) hb); replace HO257 := Aside0.mk (Kd.R_elder' (zR HO257) (Kd.R_base ho32) hb); replace HO261 := Aside0.mk (Kd.R_elder' (zR HO261) (Kd.R_base ho32) hb); replace HB := Aside0.mk (below_step (zB HB) hb); clear hb ho32; obtain ⟨Ao33, co33, eo33⟩ := Kd.R_slice HO265.out; subst eo33) | (go_at_call 14; (with_reducible refine (portset_Format.calls k _ _ y263 t266 _ ?side1 ?side2 A12.out (WOK.below hW_ (zB HB))).mono ?_); (case side1 => repeat (first | exact (Kd.R_reads' HO265.out).2.2 | (with_reducible refine Kd.C_alloc ?_ _) | (with_reducible refine Kd.C_drewN ?_ _) | (with_reducible refine Kd.C_drew ?_))); (case side2 => exact (Kd.R_reads' HO265.out).2.1); rintro e w34 ⟨rfl, hb⟩; replace HO240 := Aside0.mk (Kd.R_below (zR HO240) hb); replace HO244 := Aside0.mk (Kd.R_below (zR HO244) hb); replace HO248 := Aside0.mk (Kd.R_below (zR HO248) hb); replace HO251 := Aside0.mk (Kd.R_below (zR HO251) hb); replace HO254 := Aside0.mk (Kd.R_below (zR HO254) hb); replace HO257 := Aside0.mk (Kd.R_below (zR HO257) hb); replace HO261 := Aside0.mk (Kd.R_below (zR HO261) hb); replace HO265 := Aside0.mk (Kd.R_below (zR HO265) hb); replace HB := Aside0.mk (below_step (zB HB) hb); (try clear hb)) | (go_at_call 20; (with_reducible refine (portset_All.calls  t267 _ A14.out).mono ?_); rintro e w35 ⟨v268, rfl, ho0, hb⟩; have HO269 := Aside0.mk (Kd.R_lower (Kd.R_new' (Kd.R_new' (Kd.R_new' (Kd.R_new' (Kd.R_new' (Kd.R_new' (Kd.R_new' (Kd.R_new' ho0 (Kd.R_lt (zR HO240))) (Kd.R_lt (zR HO244))) (Kd.R_lt (zR HO248))) (Kd.R_lt (zR HO251))) (Kd.R_lt (zR HO254))) (Kd.R_lt (zR HO257))) (Kd.R_lt (zR HO261))) (Kd.R_lt (zR HO265))) (below_size (zB HB))); replace HO240 := Aside0.mk (Kd.R_elder' (zR HO240) (Kd.R_base ho0) hb); replace HO244 := Aside0.mk (Kd.R_elder' (zR HO244) (Kd.R_base ho0) hb); replace HO248 := Aside0.mk (Kd.R_elder' (zR HO248) (Kd.R_base ho0) hb); replace HO251 := Aside0.mk (Kd.R_elder' (zR HO251) (Kd.R_base ho0) hb); replace HO254 := Aside0.mk (Kd.R_elder' (zR HO254) (Kd.R_base ho0) hb); replace HO257 := Aside0.mk (Kd.R_elder' (zR HO257) (Kd.R_base ho0) hb); replace HO261 := Aside0.mk (Kd.R_elder' (zR HO261) (Kd.R_base ho0) hb); replace HO265 := Aside0.mk (Kd.R_elder' (zR HO265) (Kd.R_base ho0) hb); replace HB := Aside0.mk (below_step (zB HB) hb); (try clear hb); (try clear ho0)) | ((with_reducible refine gate_dst (N := 57) rfl ?_); (try (refine gate_guard (by rfl) ?_; dsimp only)); refine Kd.R_lit k33 _ 33 ?hg (N := 57) ?hd (xs := ([(⟨0, 65535⟩ : S33)] : List (S33))) (inner := [.int .i64 0, .int .i64 65535]) (ok := fun _ => True) (okp := fun _ => True) ?hr ?hp (fun _ hk => hk) trivial (Below.refl _ _) (Nat.le_refl _) (by simp) ?_; (case hd => rfl); (case hg => rfl); (case hr => first | (go_simp; done) | (go_simp; rfl)); (case hp => exact (Reps.c2 (show Kd.M k33 _ _ _ (⟨0, 65535⟩ : S33) [.int .i64 0, .int .i64 65535] from (k33_mkM _ _ _ (⟨0, 65535⟩ : S33) )) (Reps.none _ _))); intro v271 w36 ho37 hb hg_ hnew_; clear hg_ hnew_; (first | rw [← Ny270.out] at ho37 | (simp only [Int.reduceToNat] at ho37; rw [← Ny270.out] at ho37)); have HO272 := Aside0.mk (Kd.R_lower (Kd.R_new' (Kd.R_new' (Kd.R_new' (Kd.R_new' (Kd.R_new' (Kd.R_new' (Kd.R_new' (Kd.R_new' (Kd.R_new' ho37 (Kd.R_lt (zR HO240))) (Kd.R_lt (zR HO244))) (Kd.R_lt (zR HO248))) (Kd.R_lt (zR HO251))) (Kd.R_lt (zR HO254))) (Kd.R_lt (zR HO257))) (Kd.R_lt (zR HO261))) (Kd.R_lt (zR HO265))) (Kd.R_lt (zR HO269))) (below_size (zB HB))); replace HO240 := Aside0.mk (Kd.R_elder' (zR HO240) (Kd.R_base ho37) hb); replace HO244 := Aside0.mk (Kd.R_elder' (zR HO244) (Kd.R_base ho37) hb); replace HO248 := Aside0.mk (Kd.R_elder' (zR HO248) (Kd.R_base ho37) hb); replace HO251 := Aside0.mk (Kd.R_elder' (zR HO251) (Kd.R_base ho37) hb); replace HO254 := Aside0.mk (Kd.R_elder' (zR HO254) (Kd.R_base ho37) hb); replace HO257 := Aside0.mk (Kd.R_elder' (zR HO257) (Kd.R_base ho37) hb); replace HO261 := Aside0.mk (Kd.R_elder' (zR HO261) (Kd.R_base ho37) hb); replace HO265 := Aside0.mk (Kd.R_elder' (zR HO265) (Kd.R_base ho37) hb); replace HO269 := Aside0.mk (Kd.R_elder' (zR HO269) (Kd.R_base ho37) hb); replace HB := Aside0.mk (below_step (zB HB) hb); clear hb ho37; obtain ⟨Ao38, co38, eo38⟩ := Kd.R_slice HO269.out; subst eo38; obtain ⟨Ao39, co39, eo39⟩ := Kd.R_slice HO272.out; subst eo39) | (go_at_call 12; (with_reducible refine (intrusionlaw08_same.calls k _ _ t267 _ _ y270 t273 _ ?side1 ?side2 ?side3 ?side4 A15.out).mono ?_); (case side1 => repeat (first | exact (Kd.R_reads' HO269.out).2.2 | (with_reducible refine Kd.C_alloc ?_ _) | (with_reducible refine Kd.C_drewN ?_ _) | (with_reducible refine Kd.C_drew ?_))); (case side2 => exact (Kd.R_reads' HO269.out).2.1); (case side3 => repeat (first | exact (Kd.R_reads' HO272.out).2.2 | (with_reducible refine Kd.C_alloc ?_ _) | (with_reducible refine Kd.C_drewN ?_ _) | (with_reducible refine Kd.C_drew ?_))); (case side4 => exact (Kd.R_reads' HO272.out).2.1); rintro e w' ⟨rfl, ⟨nd, rfl⟩⟩))
             go_ret
             exact ⟨by first | rfl | (simp [errW_none, errW_some] <;> rfl) | (simp [*, errW_none, errW_some] <;> rfl), by repeat (first | (with_reducible first | exact HB.out | apply below_alloc | apply pw_below_drewN | apply below_drew1) | exact HB.out)⟩
           · rw [if_neg c13] at H
             have c13b0 : (t266.toList == ([49, 58, 50, 44, 57] : List UInt8)) = false := beq_eq_false_iff_ne.mpr c13
             have c13b1 : (t266.toList != ([49, 58, 50, 44, 57] : List UInt8)) = true := bne_iff_ne.mpr c13
             obtain rfl := Option.some.inj H
             go_enter Tryd.func9, Tryd.ntmps9
             go_wp2_with (first | ((with_reducible refine gate_callee (f := 10) rfl ?_); refine goesL_ (some 9) rfl rfl Tryd.func10 (by kernel_rfl) rfl #[.string (⟨#[56, 48, 44, 56, 48, 48, 48, 58, 56, 48, 48, 50, 44, 33, 56, 48, 48, 49]⟩ : ByteArray)] rfl (by (try simp only [List.map_toArray, List.map_cons, List.map_nil]); first | done | rfl | (simp only [List.length_drop, List.length_take]; rfl)) ?_; (with_reducible refine (portset_Parse.calls k (⟨#[56, 48, 44, 56, 48, 48, 48, 58, 56, 48, 48, 50, 44, 33, 56, 48, 48, 49]⟩ : ByteArray) t237 t238 _ A1.out (WOK.below hW_ (zB HB))).mono ?_); rintro e w40 ⟨v239, rfl, ho0, hb⟩; refine ⟨_, rfl, ?_⟩; have HO240 := Aside0.mk (Kd.R_lower ho0 (below_size (zB HB))); replace HB := Aside0.mk (below_step (zB HB) hb); (try clear hb); (try clear ho0)) | ((with_reducible refine gate_callee (f := 10) rfl ?_); refine goesL_ (some 13) rfl rfl Tryd.func10 (by kernel_rfl) rfl #[.string (⟨#[55, 58, 53]⟩ : ByteArray)] rfl (by (try simp only [List.map_toArray, List.map_cons, List.map_nil]); first | done | rfl | (simp only [List.length_drop, List.length_take]; rfl)) ?_; (with_reducible refine (portset_Parse.calls k (⟨#[55, 58, 53]⟩ : ByteArray) t241 t242 _ A2.out (WOK.below hW_ (zB HB))).mono ?_); rintro e w41 ⟨v243, rfl, ho0, hb⟩; refine ⟨_, rfl, ?_⟩; have HO244 := Aside0.mk (Kd.R_lower (Kd.R_new' ho0 (Kd.R_lt (zR HO240))) (below_size (zB HB))); replace HO240 := Aside0.mk (Kd.R_elder' (zR HO240) (Kd.R_base ho0) hb); replace HB := Aside0.mk (below_step (zB HB) hb); (try clear hb); (try clear ho0)) | ((with_reducible refine gate_callee (f := 10) rfl ?_); refine goesL_ (some 17) rfl rfl Tryd.func10 (by kernel_rfl) rfl #[.string (⟨#[]⟩ : ByteArray)] rfl (by (try simp only [List.map_toArray, List.map_cons, List.map_nil]); first | done | rfl | (simp only [List.length_drop, List.length_take]; rfl)) ?_; (with_reducible refine (portset_Parse.calls k (⟨#[]⟩ : ByteArray) t245 t246 _ A3.out (WOK.below hW_ (zB HB))).mono ?_); rintro e w42 ⟨v247, rfl, ho0, hb⟩; refine ⟨_, rfl, ?_⟩; have HO248 := Aside0.mk (Kd.R_lower (Kd.R_new' (Kd.R_new' ho0 (Kd.R_lt (zR HO240))) (Kd.R_lt (zR HO244))) (below_size (zB HB))); replace HO240 := Aside0.mk (Kd.R_elder' (zR HO240) (Kd.R_base ho0) hb); replace HO244 := Aside0.mk (Kd.R_elder' (zR HO244) (Kd.R_base ho0) hb); replace HB := Aside0.mk (below_step (zB HB) hb); (try clear hb); (try clear ho0)) | ((with_reducible refine gate_dst (N := 21) rfl ?_); (try (refine gate_guard (by rfl) ?_; dsimp only)); refine Kd.R_lit k33 _ 33 ?hg (N := 21) ?hd (xs := ([(⟨0, 1023⟩ : S33)] : List (S33))) (inner := [.int .i64 0, .int .i64 1023]) (ok := fun _ => True) (okp := fun _ => True) ?hr ?hp (fun _ hk => hk) trivial (Below.refl _ _) (Nat.le_refl _) (by simp) ?_; (case hd => rfl); (case hg => rfl); (case hr => first | (go_simp; done) | (go_simp; rfl)); (case hp => exact (Reps.c2 (show Kd.M k33 _ _ _ (⟨0, 1023⟩ : S33) [.int .i64 0, .int .i64 1023] from (k33_mkM _ _ _ (⟨0, 1023⟩ : S33) )) (Reps.none _ _))); intro v250 w43 ho44 hb hg_ hnew_; clear hg_ hnew_; (first | rw [← Ny249.out] at ho44 | (simp only [Int.reduceToNat] at ho44; rw [← Ny249.out] at ho44)); have HO251 := Aside0.mk (Kd.R_lower (Kd.R_new' (Kd.R_new' (Kd.R_new' ho44 (Kd.R_lt (zR HO240))) (Kd.R_lt (zR HO244))) (Kd.R_lt (zR HO248))) (below_size (zB HB))); replace HO240 := Aside0.mk (Kd.R_elder' (zR HO240) (Kd.R_base ho44) hb); replace HO244 := Aside0.mk (Kd.R_elder' (zR HO244) (Kd.R_base ho44) hb); replace HO248 := Aside0.mk (Kd.R_elder' (zR HO248) (Kd.R_base ho44) hb); replace HB := Aside0.mk (below_step (zB HB) hb); clear hb ho44; obtain ⟨Ao45, co45, eo45⟩ := Kd.R_slice HO251.out; subst eo45) | ((with_reducible refine gate_callee (f := 16) rfl ?_); refine goesL_ (some 22) rfl rfl Tryd.func16 (by kernel_rfl) rfl #[.slice none 0 0, .slice Ao45 y249.length co45] rfl (by (try simp only [List.map_toArray, List.map_cons, List.map_nil]); first | done | rfl | (simp only [List.length_drop, List.length_take]; rfl)) ?_; (refine (portset_Eval.calls k _ _ ([] : List (S33)) _ _ y249 t252 _ ?side1 ?side2 ?side3 ?side4 A4.out).mono ?_); (case side1 => exact Kd.C_nil _ _); (case side2 => exact Nat.le_refl _); (case side3 => repeat (first | exact (Kd.R_reads' HO251.out).2.2 | (with_reducible refine Kd.C_alloc ?_ _) | (with_reducible refine Kd.C_drewN ?_ _) | (with_reducible refine Kd.C_drew ?_))); (case side4 => exact (Kd.R_reads' HO251.out).2.1); rintro e w46 ⟨v253, rfl, ho0, hb⟩; refine ⟨_, rfl, ?_⟩; have HO254 := Aside0.mk (Kd.R_lower (Kd.R_new' (Kd.R_new' (Kd.R_new' (Kd.R_new' ho0 (Kd.R_lt (zR HO240))) (Kd.R_lt (zR HO244))) (Kd.R_lt (zR HO248))) (Kd.R_lt (zR HO251))) (below_size (zB HB))); replace HO240 := Aside0.mk (Kd.R_elder' (zR HO240) (Kd.R_base ho0) hb); replace HO244 := Aside0.mk (Kd.R_elder' (zR HO244) (Kd.R_base ho0) hb); replace HO248 := Aside0.mk (Kd.R_elder' (zR HO248) (Kd.R_base ho0) hb); replace HO251 := Aside0.mk (Kd.R_elder' (zR HO251) (Kd.R_base ho0) hb); replace HB := Aside0.mk (below_step (zB HB) hb); (try clear hb); (try clear ho0)) | ((with_reducible refine gate_dst (N := 27) rfl ?_); (try (refine gate_guard (by rfl) ?_; dsimp only)); refine Kd.R_lit k33 _ 33 ?hg (N := 27) ?hd (xs := ([(⟨80, 80⟩ : S33), (⟨8000, 8000⟩ : S33), (⟨8002, 8002⟩ : S33)] : List (S33))) (inner := [.int .i64 80, .int .i64 80, .int .i64 8000, .int .i64 8000, .int .i64 8002, .int .i64 8002]) (ok := fun _ => True) (okp := fun _ => True) ?hr ?hp (fun _ hk => hk) trivial (Below.refl _ _) (Nat.le_refl _) (by simp) ?_; (case hd => rfl); (case hg => rfl); (case hr => first | (go_simp; done) | (go_simp; rfl)); (case hp => exact (Reps.c2 (show Kd.M k33 _ _ _ (⟨80, 80⟩ : S33) [.int .i64 80, .int .i64 80] from (k33_mkM _ _ _ (⟨80, 80⟩ : S33) )) (Reps.c2 (show Kd.M k33 _ _ _ (⟨8000, 8000⟩ : S33) [.int .i64 8000, .int .i64 8000] from (k33_mkM _ _ _ (⟨8000, 8000⟩ : S33) )) (Reps.c2 (show Kd.M k33 _ _ _ (⟨8002, 8002⟩ : S33) [.int .i64 8002, .int .i64 8002] from (k33_mkM _ _ _ (⟨8002, 8002⟩ : S33) )) (Reps.none _ _))))); intro v256 w47 ho48 hb hg_ hnew_; clear hg_ hnew_; (first | rw [← Ny255.out] at ho48 | (simp only [Int.reduceToNat] at ho48; rw [← Ny255.out] at ho48)); have HO257 := Aside0.mk (Kd.R_lower (Kd.R_new' (Kd.R_new' (Kd.R_new' (Kd.R_new' (Kd.R_new' ho48 (Kd.R_lt (zR HO240))) (Kd.R_lt (zR HO244))) (Kd.R_lt (zR HO248))) (Kd.R_lt (zR HO251))) (Kd.R_lt (zR HO254))) (below_size (zB HB))); replace HO240 := Aside0.mk (Kd.R_elder' (zR HO240) (Kd.R_base ho48) hb); replace HO244 := Aside0.mk (Kd.R_elder' (zR HO244) (Kd.R_base ho48) hb); replace HO248 := Aside0.mk (Kd.R_elder' (zR HO248) (Kd.R_base ho48) hb); replace HO251 := Aside0.mk (Kd.R_elder' (zR HO251) (Kd.R_base ho48) hb); replace HO254 := Aside0.mk (Kd.R_elder' (zR HO254) (Kd.R_base ho48) hb); replace HB := Aside0.mk (below_step (zB HB) hb); clear hb ho48; obtain ⟨Ao49, co49, eo49⟩ := Kd.R_slice HO240.out; subst eo49; obtain ⟨Ao50, co50, eo50⟩ := Kd.R_slice HO257.out; subst eo50) | ((with_reducible refine gate_callee (f := 12) rfl ?_); refine goesL_ (some 28) rfl rfl Tryd.func12 (by kernel_rfl) rfl #[.slice Ao49 t237.length co49, .slice Ao50 y255.length co50] rfl (by (try simp only [List.map_toArray, List.map_cons, List.map_nil]); first | done | rfl | (simp only [List.length_drop, List.length_take]; rfl)) ?_; (with_reducible refine (intrusionlaw08_same.calls k _ _ t237 _ _ y255 true _ ?side1 ?side2 ?side3 ?side4 A5.out).mono ?_); (case side1 => repeat (first | exact (Kd.R_reads' HO240.out).2.2 | (with_reducible refine Kd.C_alloc ?_ _) | (with_reducible refine Kd.C_drewN ?_ _) | (with_reducible refine Kd.C_drew ?_))); (case side2 => exact (Kd.R_reads' HO240.out).2.1); (case side3 => repeat (first | exact (Kd.R_reads' HO257.out).2.2 | (with_reducible refine Kd.C_alloc ?_ _) | (with_reducible refine Kd.C_drewN ?_ _) | (with_reducible refine Kd.C_drew ?_))); (case side4 => exact (Kd.R_reads' HO257.out).2.1); rintro e w' ⟨rfl, ⟨nd, rfl⟩⟩; refine ⟨_, rfl, ?_⟩) | ((with_reducible refine gate_dst (N := 44) rfl ?_); (try (refine gate_guard (by rfl) ?_; dsimp only)); refine Kd.R_lit k33 _ 33 ?hg (N := 44) ?hd (xs := ([(⟨1024, 65535⟩ : S33)] : List (S33))) (inner := [.int .i64 1024, .int .i64 65535]) (ok := fun _ => True) (okp := fun _ => True) ?hr ?hp (fun _ hk => hk) trivial (Below.refl _ _) (Nat.le_refl _) (by simp) ?_; (case hd => rfl); (case hg => rfl); (case hr => first | (go_simp; done) | (go_simp; rfl)); (case hp => exact (Reps.c2 (show Kd.M k33 _ _ _ (⟨1024, 65535⟩ : S33) [.int .i64 1024, .int .i64 65535] from (k33_mkM _ _ _ (⟨1024, 65535⟩ : S33) )) (Reps.none _ _))); intro v260 w51 ho52 hb hg_ hnew_; clear hg_ hnew_; (first | rw [← Ny259.out] at ho52 | (simp only [Int.reduceToNat] at ho52; rw [← Ny259.out] at ho52)); have HO261 := Aside0.mk (Kd.R_lower (Kd.R_new' (Kd.R_new' (Kd.R_new' (Kd.R_new' (Kd.R_new' (Kd.R_new' ho52 (Kd.R_lt (zR HO240))) (Kd.R_lt (zR HO244))) (Kd.R_lt (zR HO248))) (Kd.R_lt (zR HO251))) (Kd.R_lt (zR HO254))) (Kd.R_lt (zR HO257))) (below_size (zB HB))); replace HO240 := Aside0.mk (Kd.R_elder' (zR HO240) (Kd.R_base ho52) hb); replace HO244 := Aside0.mk (Kd.R_elder' (zR HO244) (Kd.R_base ho52) hb); replace HO248 := Aside0.mk (Kd.R_elder' (zR HO248) (Kd.R_base ho52) hb); replace HO251 := Aside0.mk (Kd.R_elder' (zR HO251) (Kd.R_base ho52) hb); replace HO254 := Aside0.mk (Kd.R_elder' (zR HO254) (Kd.R_base ho52) hb); replace HO257 := Aside0.mk (Kd.R_elder' (zR HO257) (Kd.R_base ho52) hb); replace HB := Aside0.mk (below_step (zB HB) hb); clear hb ho52; obtain ⟨Ao53, co53, eo53⟩ := Kd.R_slice HO254.out; subst eo53; obtain ⟨Ao54, co54, eo54⟩ := Kd.R_slice HO261.out; subst eo54) | (go_at_call 12; (with_reducible refine (intrusionlaw08_same.calls k _ _ t252 _ _ y259 true _ ?side1 ?side2 ?side3 ?side4 A10.out).mono ?_); (case side1 => repeat (first | exact (Kd.R_reads' HO254.out).2.2 | (with_reducible refine Kd.C_alloc ?_ _) | (with_reducible refine Kd.C_drewN ?_ _) | (with_reducible refine Kd.C_drew ?_))); (case side2 => exact (Kd.R_reads' HO254.out).2.1); (case side3 => repeat (first | exact (Kd.R_reads' HO261.out).2.2 | (with_reducible refine Kd.C_alloc ?_ _) | (with_reducible refine Kd.C_drewN ?_ _) | (with_reducible refine Kd.C_drew ?_))); (case side4 => exact (Kd.R_reads' HO261.out).2.1); rintro e w' ⟨rfl, ⟨nd, rfl⟩⟩) | ((with_reducible refine gate_dst (N := 50) rfl ?_); (try (refine gate_guard (by rfl) ?_; dsimp only)); refine Kd.R_lit k33 _ 33 ?hg (N := 50) ?hd (xs := ([(⟨1, 2⟩ : S33), (⟨9, 9⟩ : S33)] : List (S33))) (inner := [.int .i64 1, .int .i64 2, .int .i64 9, .int .i64 9]) (ok := fun _ => True) (okp := fun _ => True) ?hr ?hp (fun _ hk => hk) trivial (Below.refl _ _) (Nat.le_refl _) (by simp) ?_; (case hd => rfl); (case hg => rfl); (case hr => first | (go_simp; done) | (go_simp; rfl)); (case hp => exact (Reps.c2 (show Kd.M k33 _ _ _ (⟨1, 2⟩ : S33) [.int .i64 1, .int .i64 2] from (k33_mkM _ _ _ (⟨1, 2⟩ : S33) )) (Reps.c2 (show Kd.M k33 _ _ _ (⟨9, 9⟩ : S33) [.int .i64 9, .int .i64 9] from (k33_mkM _ _ _ (⟨9, 9⟩ : S33) )) (Reps.none _ _)))); intro v264 w55 ho56 hb hg_ hnew_; clear hg_ hnew_; (first | rw [← Ny263.out] at ho56 | (simp only [Int.reduceToNat] at ho56; rw [← Ny263.out] at ho56)); have HO265 := Aside0.mk (Kd.R_lower (Kd.R_new' (Kd.R_new' (Kd.R_new' (Kd.R_new' (Kd.R_new' (Kd.R_new' (Kd.R_new' ho56 (Kd.R_lt (zR HO240))) (Kd.R_lt (zR HO244))) (Kd.R_lt (zR HO248))) (Kd.R_lt (zR HO251))) (Kd.R_lt (zR HO254))) (Kd.R_lt (zR HO257))) (Kd.R_lt (zR HO261))) (below_size (zB HB))); replace HO240 := Aside0.mk (Kd.R_elder' (zR HO240) (Kd.R_base ho56) hb); replace HO244 := Aside0.mk (Kd.R_elder' (zR HO244) (Kd.R_base ho56) hb); replace HO248 := Aside0.mk (Kd.R_elder' (zR HO248) (Kd.R_base ho56) hb); replace HO251 := Aside0.mk (Kd.R_elder' (zR HO251) (Kd.R_base ho56) hb); replace HO254 := Aside0.mk (Kd.R_elder' (zR HO254) (Kd.R_base ho56) hb); replace HO257 := Aside0.mk (Kd.R_elder' (zR HO257) (Kd.R_base ho56) hb); replace HO261 := Aside0.mk (Kd.R_elder' (zR HO261) (Kd.R_base ho56) hb); replace HB := Aside0.mk (below_step (zB HB) hb); clear hb ho56; obtain ⟨Ao57, co57, eo57⟩ := Kd.R_slice HO265.out; subst eo57) | (go_at_call 14; (with_reducible refine (portset_Format.calls k _ _ y263 t266 _ ?side1 ?side2 A12.out (WOK.below hW_ (zB HB))).mono ?_); (case side1 => repeat (first | exact (Kd.R_reads' HO265.out).2.2 | (with_reducible refine Kd.C_alloc ?_ _) | (with_reducible refine Kd.C_drewN ?_ _) | (with_reducible refine Kd.C_drew ?_))); (case side2 => exact (Kd.R_reads' HO265.out).2.1); rintro e w58 ⟨rfl, hb⟩; replace HO240 := Aside0.mk (Kd.R_below (zR HO240) hb); replace HO244 := Aside0.mk (Kd.R_below (zR HO244) hb); replace HO248 := Aside0.mk (Kd.R_below (zR HO248) hb); replace HO251 := Aside0.mk (Kd.R_below (zR HO251) hb); replace HO254 := Aside0.mk (Kd.R_below (zR HO254) hb); replace HO257 := Aside0.mk (Kd.R_below (zR HO257) hb); replace HO261 := Aside0.mk (Kd.R_below (zR HO261) hb); replace HO265 := Aside0.mk (Kd.R_below (zR HO265) hb); replace HB := Aside0.mk (below_step (zB HB) hb); (try clear hb)))
             go_ret
             exact ⟨by first | rfl | (simp [errW_none, errW_some] <;> rfl) | (simp [*, errW_none, errW_some] <;> rfl), by repeat (first | (with_reducible first | exact HB.out | apply below_alloc | apply pw_below_drewN | apply below_drew1) | exact HB.out)⟩
         · replace c11 := Bool.eq_false_iff.mpr c11
           subst c11
           rw [if_neg zF] at H
           obtain rfl := Option.some.inj H
           go_enter Tryd.func9, Tryd.ntmps9
           go_wp2_with (first | ((with_reducible refine gate_callee (f := 10) rfl ?_); refine goesL_ (some 9) rfl rfl Tryd.func10 (by kernel_rfl) rfl #[.string (⟨#[56, 48, 44, 56, 48, 48, 48, 58, 56, 48, 48, 50, 44, 33, 56, 48, 48, 49]⟩ : ByteArray)] rfl (by (try simp only [List.map_toArray, List.map_cons, List.map_nil]); first | done | rfl | (simp only [List.length_drop, List.length_take]; rfl)) ?_; (with_reducible refine (portset_Parse.calls k (⟨#[56, 48, 44, 56, 48, 48, 48, 58, 56, 48, 48, 50, 44, 33, 56, 48, 48, 49]⟩ : ByteArray) t237 t238 _ A1.out (WOK.below hW_ (zB HB))).mono ?_); rintro e w59 ⟨v239, rfl, ho0, hb⟩; refine ⟨_, rfl, ?_⟩; have HO240 := Aside0.mk (Kd.R_lower ho0 (below_size (zB HB))); replace HB := Aside0.mk (below_step (zB HB) hb); (try clear hb); (try clear ho0)) | ((with_reducible refine gate_callee (f := 10) rfl ?_); refine goesL_ (some 13) rfl rfl Tryd.func10 (by kernel_rfl) rfl #[.string (⟨#[55, 58, 53]⟩ : ByteArray)] rfl (by (try simp only [List.map_toArray, List.map_cons, List.map_nil]); first | done | rfl | (simp only [List.length_drop, List.length_take]; rfl)) ?_; (with_reducible refine (portset_Parse.calls k (⟨#[55, 58, 53]⟩ : ByteArray) t241 t242 _ A2.out (WOK.below hW_ (zB HB))).mono ?_); rintro e w60 ⟨v243, rfl, ho0, hb⟩; refine ⟨_, rfl, ?_⟩; have HO244 := Aside0.mk (Kd.R_lower (Kd.R_new' ho0 (Kd.R_lt (zR HO240))) (below_size (zB HB))); replace HO240 := Aside0.mk (Kd.R_elder' (zR HO240) (Kd.R_base ho0) hb); replace HB := Aside0.mk (below_step (zB HB) hb); (try clear hb); (try clear ho0)) | ((with_reducible refine gate_callee (f := 10) rfl ?_); refine goesL_ (some 17) rfl rfl Tryd.func10 (by kernel_rfl) rfl #[.string (⟨#[]⟩ : ByteArray)] rfl (by (try simp only [List.map_toArray, List.map_cons, List.map_nil]); first | done | rfl | (simp only [List.length_drop, List.length_take]; rfl)) ?_; (with_reducible refine (portset_Parse.calls k (⟨#[]⟩ : ByteArray) t245 t246 _ A3.out (WOK.below hW_ (zB HB))).mono ?_); rintro e w61 ⟨v247, rfl, ho0, hb⟩; refine ⟨_, rfl, ?_⟩; have HO248 := Aside0.mk (Kd.R_lower (Kd.R_new' (Kd.R_new' ho0 (Kd.R_lt (zR HO240))) (Kd.R_lt (zR HO244))) (below_size (zB HB))); replace HO240 := Aside0.mk (Kd.R_elder' (zR HO240) (Kd.R_base ho0) hb); replace HO244 := Aside0.mk (Kd.R_elder' (zR HO244) (Kd.R_base ho0) hb); replace HB := Aside0.mk (below_step (zB HB) hb); (try clear hb); (try clear ho0)) | ((with_reducible refine gate_dst (N := 21) rfl ?_); (try (refine gate_guard (by rfl) ?_; dsimp only)); refine Kd.R_lit k33 _ 33 ?hg (N := 21) ?hd (xs := ([(⟨0, 1023⟩ : S33)] : List (S33))) (inner := [.int .i64 0, .int .i64 1023]) (ok := fun _ => True) (okp := fun _ => True) ?hr ?hp (fun _ hk => hk) trivial (Below.refl _ _) (Nat.le_refl _) (by simp) ?_; (case hd => rfl); (case hg => rfl); (case hr => first | (go_simp; done) | (go_simp; rfl)); (case hp => exact (Reps.c2 (show Kd.M k33 _ _ _ (⟨0, 1023⟩ : S33) [.int .i64 0, .int .i64 1023] from (k33_mkM _ _ _ (⟨0, 1023⟩ : S33) )) (Reps.none _ _))); intro v250 w62 ho63 hb hg_ hnew_; clear hg_ hnew_; (first | rw [← Ny249.out] at ho63 | (simp only [Int.reduceToNat] at ho63; rw [← Ny249.out] at ho63)); have HO251 := Aside0.mk (Kd.R_lower (Kd.R_new' (Kd.R_new' (Kd.R_new' ho63 (Kd.R_lt (zR HO240))) (Kd.R_lt (zR HO244))) (Kd.R_lt (zR HO248))) (below_size (zB HB))); replace HO240 := Aside0.mk (Kd.R_elder' (zR HO240) (Kd.R_base ho63) hb); replace HO244 := Aside0.mk (Kd.R_elder' (zR HO244) (Kd.R_base ho63) hb); replace HO248 := Aside0.mk (Kd.R_elder' (zR HO248) (Kd.R_base ho63) hb); replace HB := Aside0.mk (below_step (zB HB) hb); clear hb ho63; obtain ⟨Ao64, co64, eo64⟩ := Kd.R_slice HO251.out; subst eo64) | ((with_reducible refine gate_callee (f := 16) rfl ?_); refine goesL_ (some 22) rfl rfl Tryd.func16 (by kernel_rfl) rfl #[.slice none 0 0, .slice Ao64 y249.length co64] rfl (by (try simp only [List.map_toArray, List.map_cons, List.map_nil]); first | done | rfl | (simp only [List.length_drop, List.length_take]; rfl)) ?_; (refine (portset_Eval.calls k _ _ ([] : List (S33)) _ _ y249 t252 _ ?side1 ?side2 ?side3 ?side4 A4.out).mono ?_); (case side1 => exact Kd.C_nil _ _); (case side2 => exact Nat.le_refl _); (case side3 => repeat (first | exact (Kd.R_reads' HO251.out).2.2 | (with_reducible refine Kd.C_alloc ?_ _) | (with_reducible refine Kd.C_drewN ?_ _) | (with_reducible refine Kd.C_drew ?_))); (case side4 => exact (Kd.R_reads' HO251.out).2.1); rintro e w65 ⟨v253, rfl, ho0, hb⟩; refine ⟨_, rfl, ?_⟩; have HO254 := Aside0.mk (Kd.R_lower (Kd.R_new' (Kd.R_new' (Kd.R_new' (Kd.R_new' ho0 (Kd.R_lt (zR HO240))) (Kd.R_lt (zR HO244))) (Kd.R_lt (zR HO248))) (Kd.R_lt (zR HO251))) (below_size (zB HB))); replace HO240 := Aside0.mk (Kd.R_elder' (zR HO240) (Kd.R_base ho0) hb); replace HO244 := Aside0.mk (Kd.R_elder' (zR HO244) (Kd.R_base ho0) hb); replace HO248 := Aside0.mk (Kd.R_elder' (zR HO248) (Kd.R_base ho0) hb); replace HO251 := Aside0.mk (Kd.R_elder' (zR HO251) (Kd.R_base ho0) hb); replace HB := Aside0.mk (below_step (zB HB) hb); (try clear hb); (try clear ho0)) | ((with_reducible refine gate_dst (N := 27) rfl ?_); (try (refine gate_guard (by rfl) ?_; dsimp only)); refine Kd.R_lit k33 _ 33 ?hg (N := 27) ?hd (xs := ([(⟨80, 80⟩ : S33), (⟨8000, 8000⟩ : S33), (⟨8002, 8002⟩ : S33)] : List (S33))) (inner := [.int .i64 80, .int .i64 80, .int .i64 8000, .int .i64 8000, .int .i64 8002, .int .i64 8002]) (ok := fun _ => True) (okp := fun _ => True) ?hr ?hp (fun _ hk => hk) trivial (Below.refl _ _) (Nat.le_refl _) (by simp) ?_; (case hd => rfl); (case hg => rfl); (case hr => first | (go_simp; done) | (go_simp; rfl)); (case hp => exact (Reps.c2 (show Kd.M k33 _ _ _ (⟨80, 80⟩ : S33) [.int .i64 80, .int .i64 80] from (k33_mkM _ _ _ (⟨80, 80⟩ : S33) )) (Reps.c2 (show Kd.M k33 _ _ _ (⟨8000, 8000⟩ : S33) [.int .i64 8000, .int .i64 8000] from (k33_mkM _ _ _ (⟨8000, 8000⟩ : S33) )) (Reps.c2 (show Kd.M k33 _ _ _ (⟨8002, 8002⟩ : S33) [.int .i64 8002, .int .i64 8002] from (k33_mkM _ _ _ (⟨8002, 8002⟩ : S33) )) (Reps.none _ _))))); intro v256 w66 ho67 hb hg_ hnew_; clear hg_ hnew_; (first | rw [← Ny255.out] at ho67 | (simp only [Int.reduceToNat] at ho67; rw [← Ny255.out] at ho67)); have HO257 := Aside0.mk (Kd.R_lower (Kd.R_new' (Kd.R_new' (Kd.R_new' (Kd.R_new' (Kd.R_new' ho67 (Kd.R_lt (zR HO240))) (Kd.R_lt (zR HO244))) (Kd.R_lt (zR HO248))) (Kd.R_lt (zR HO251))) (Kd.R_lt (zR HO254))) (below_size (zB HB))); replace HO240 := Aside0.mk (Kd.R_elder' (zR HO240) (Kd.R_base ho67) hb); replace HO244 := Aside0.mk (Kd.R_elder' (zR HO244) (Kd.R_base ho67) hb); replace HO248 := Aside0.mk (Kd.R_elder' (zR HO248) (Kd.R_base ho67) hb); replace HO251 := Aside0.mk (Kd.R_elder' (zR HO251) (Kd.R_base ho67) hb); replace HO254 := Aside0.mk (Kd.R_elder' (zR HO254) (Kd.R_base ho67) hb); replace HB := Aside0.mk (below_step (zB HB) hb); clear hb ho67; obtain ⟨Ao68, co68, eo68⟩ := Kd.R_slice HO240.out; subst eo68; obtain ⟨Ao69, co69, eo69⟩ := Kd.R_slice HO257.out; subst eo69) | ((with_reducible refine gate_callee (f := 12) rfl ?_); refine goesL_ (some 28) rfl rfl Tryd.func12 (by kernel_rfl) rfl #[.slice Ao68 t237.length co68, .slice Ao69 y255.length co69] rfl (by (try simp only [List.map_toArray, List.map_cons, List.map_nil]); first | done | rfl | (simp only [List.length_drop, List.length_take]; rfl)) ?_; (with_reducible refine (intrusionlaw08_same.calls k _ _ t237 _ _ y255 true _ ?side1 ?side2 ?side3 ?side4 A5.out).mono ?_); (case side1 => repeat (first | exact (Kd.R_reads' HO240.out).2.2 | (with_reducible refine Kd.C_alloc ?_ _) | (with_reducible refine Kd.C_drewN ?_ _) | (with_reducible refine Kd.C_drew ?_))); (case side2 => exact (Kd.R_reads' HO240.out).2.1); (case side3 => repeat (first | exact (Kd.R_reads' HO257.out).2.2 | (with_reducible refine Kd.C_alloc ?_ _) | (with_reducible refine Kd.C_drewN ?_ _) | (with_reducible refine Kd.C_drew ?_))); (case side4 => exact (Kd.R_reads' HO257.out).2.1); rintro e w' ⟨rfl, ⟨nd, rfl⟩⟩; refine ⟨_, rfl, ?_⟩) | ((with_reducible refine gate_dst (N := 44) rfl ?_); (try (refine gate_guard (by rfl) ?_; dsimp only)); refine Kd.R_lit k33 _ 33 ?hg (N := 44) ?hd (xs := ([(⟨1024, 65535⟩ : S33)] : List (S33))) (inner := [.int .i64 1024, .int .i64 65535]) (ok := fun _ => True) (okp := fun _ => True) ?hr ?hp (fun _ hk => hk) trivial (Below.refl _ _) (Nat.le_refl _) (by simp) ?_; (case hd => rfl); (case hg => rfl); (case hr => first | (go_simp; done) | (go_simp; rfl)); (case hp => exact (Reps.c2 (show Kd.M k33 _ _ _ (⟨1024, 65535⟩ : S33) [.int .i64 1024, .int .i64 65535] from (k33_mkM _ _ _ (⟨1024, 65535⟩ : S33) )) (Reps.none _ _))); intro v260 w70 ho71 hb hg_ hnew_; clear hg_ hnew_; (first | rw [← Ny259.out] at ho71 | (simp only [Int.reduceToNat] at ho71; rw [← Ny259.out] at ho71)); have HO261 := Aside0.mk (Kd.R_lower (Kd.R_new' (Kd.R_new' (Kd.R_new' (Kd.R_new' (Kd.R_new' (Kd.R_new' ho71 (Kd.R_lt (zR HO240))) (Kd.R_lt (zR HO244))) (Kd.R_lt (zR HO248))) (Kd.R_lt (zR HO251))) (Kd.R_lt (zR HO254))) (Kd.R_lt (zR HO257))) (below_size (zB HB))); replace HO240 := Aside0.mk (Kd.R_elder' (zR HO240) (Kd.R_base ho71) hb); replace HO244 := Aside0.mk (Kd.R_elder' (zR HO244) (Kd.R_base ho71) hb); replace HO248 := Aside0.mk (Kd.R_elder' (zR HO248) (Kd.R_base ho71) hb); replace HO251 := Aside0.mk (Kd.R_elder' (zR HO251) (Kd.R_base ho71) hb); replace HO254 := Aside0.mk (Kd.R_elder' (zR HO254) (Kd.R_base ho71) hb); replace HO257 := Aside0.mk (Kd.R_elder' (zR HO257) (Kd.R_base ho71) hb); replace HB := Aside0.mk (below_step (zB HB) hb); clear hb ho71; obtain ⟨Ao72, co72, eo72⟩ := Kd.R_slice HO254.out; subst eo72; obtain ⟨Ao73, co73, eo73⟩ := Kd.R_slice HO261.out; subst eo73) | (go_at_call 12; (with_reducible refine (intrusionlaw08_same.calls k _ _ t252 _ _ y259 false _ ?side1 ?side2 ?side3 ?side4 A10.out).mono ?_); (case side1 => repeat (first | exact (Kd.R_reads' HO254.out).2.2 | (with_reducible refine Kd.C_alloc ?_ _) | (with_reducible refine Kd.C_drewN ?_ _) | (with_reducible refine Kd.C_drew ?_))); (case side2 => exact (Kd.R_reads' HO254.out).2.1); (case side3 => repeat (first | exact (Kd.R_reads' HO261.out).2.2 | (with_reducible refine Kd.C_alloc ?_ _) | (with_reducible refine Kd.C_drewN ?_ _) | (with_reducible refine Kd.C_drew ?_))); (case side4 => exact (Kd.R_reads' HO261.out).2.1); rintro e w' ⟨rfl, ⟨nd, rfl⟩⟩))
           go_ret
           exact ⟨by first | rfl | (simp [errW_none, errW_some] <;> rfl) | (simp [*, errW_none, errW_some] <;> rfl), by repeat (first | (with_reducible first | exact HB.out | apply below_alloc | apply pw_below_drewN | apply below_drew1) | exact HB.out)⟩
       · rw [if_neg c9] at H
         have c9b0 : (t246 == 14) = false := beq_eq_false_iff_ne.mpr c9
         have c9b1 : (t246 != 14) = true := bne_iff_ne.mpr c9
         obtain rfl := Option.some.inj H
         go_enter Tryd.func9, Tryd.ntmps9
         go_wp2_with (first | ((with_reducible refine gate_callee (f := 10) rfl ?_); refine goesL_ (some 9) rfl rfl Tryd.func10 (by kernel_rfl) rfl #[.string (⟨#[56, 48, 44, 56, 48, 48, 48, 58, 56, 48, 48, 50, 44, 33, 56, 48, 48, 49]⟩ : ByteArray)] rfl (by (try simp only [List.map_toArray, List.map_cons, List.map_nil]); first | done | rfl | (simp only [List.length_drop, List.length_take]; rfl)) ?_; (with_reducible refine (portset_Parse.calls k (⟨#[56, 48, 44, 56, 48, 48, 48, 58, 56, 48, 48, 50, 44, 33, 56, 48, 48, 49]⟩ : ByteArray) t237 t238 _ A1.out (WOK.below hW_ (zB HB))).mono ?_); rintro e w74 ⟨v239, rfl, ho0, hb⟩; refine ⟨_, rfl, ?_⟩; have HO240 := Aside0.mk (Kd.R_lower ho0 (below_size (zB HB))); replace HB := Aside0.mk (below_step (zB HB) hb); (try clear hb); (try clear ho0)) | ((with_reducible refine gate_callee (f := 10) rfl ?_); refine goesL_ (some 13) rfl rfl Tryd.func10 (by kernel_rfl) rfl #[.string (⟨#[55, 58, 53]⟩ : ByteArray)] rfl (by (try simp only [List.map_toArray, List.map_cons, List.map_nil]); first | done | rfl | (simp only [List.length_drop, List.length_take]; rfl)) ?_; (with_reducible refine (portset_Parse.calls k (⟨#[55, 58, 53]⟩ : ByteArray) t241 t242 _ A2.out (WOK.below hW_ (zB HB))).mono ?_); rintro e w75 ⟨v243, rfl, ho0, hb⟩; refine ⟨_, rfl, ?_⟩; have HO244 := Aside0.mk (Kd.R_lower (Kd.R_new' ho0 (Kd.R_lt (zR HO240))) (below_size (zB HB))); replace HO240 := Aside0.mk (Kd.R_elder' (zR HO240) (Kd.R_base ho0) hb); replace HB := Aside0.mk (below_step (zB HB) hb); (try clear hb); (try clear ho0)) | ((with_reducible refine gate_callee (f := 10) rfl ?_); refine goesL_ (some 17) rfl rfl Tryd.func10 (by kernel_rfl) rfl #[.string (⟨#[]⟩ : ByteArray)] rfl (by (try simp only [List.map_toArray, List.map_cons, List.map_nil]); first | done | rfl | (simp only [List.length_drop, List.length_take]; rfl)) ?_; (with_reducible refine (portset_Parse.calls k (⟨#[]⟩ : ByteArray) t245 t246 _ A3.out (WOK.below hW_ (zB HB))).mono ?_); rintro e w76 ⟨v247, rfl, ho0, hb⟩; refine ⟨_, rfl, ?_⟩; have HO248 := Aside0.mk (Kd.R_lower (Kd.R_new' (Kd.R_new' ho0 (Kd.R_lt (zR HO240))) (Kd.R_lt (zR HO244))) (below_size (zB HB))); replace HO240 := Aside0.mk (Kd.R_elder' (zR HO240) (Kd.R_base ho0) hb); replace HO244 := Aside0.mk (Kd.R_elder' (zR HO244) (Kd.R_base ho0) hb); replace HB := Aside0.mk (below_step (zB HB) hb); (try clear hb); (try clear ho0)) | ((with_reducible refine gate_dst (N := 21) rfl ?_); (try (refine gate_guard (by rfl) ?_; dsimp only)); refine Kd.R_lit k33 _ 33 ?hg (N := 21) ?hd (xs := ([(⟨0, 1023⟩ : S33)] : List (S33))) (inner := [.int .i64 0, .int .i64 1023]) (ok := fun _ => True) (okp := fun _ => True) ?hr ?hp (fun _ hk => hk) trivial (Below.refl _ _) (Nat.le_refl _) (by simp) ?_; (case hd => rfl); (case hg => rfl); (case hr => first | (go_simp; done) | (go_simp; rfl)); (case hp => exact (Reps.c2 (show Kd.M k33 _ _ _ (⟨0, 1023⟩ : S33) [.int .i64 0, .int .i64 1023] from (k33_mkM _ _ _ (⟨0, 1023⟩ : S33) )) (Reps.none _ _))); intro v250 w77 ho78 hb hg_ hnew_; clear hg_ hnew_; (first | rw [← Ny249.out] at ho78 | (simp only [Int.reduceToNat] at ho78; rw [← Ny249.out] at ho78)); have HO251 := Aside0.mk (Kd.R_lower (Kd.R_new' (Kd.R_new' (Kd.R_new' ho78 (Kd.R_lt (zR HO240))) (Kd.R_lt (zR HO244))) (Kd.R_lt (zR HO248))) (below_size (zB HB))); replace HO240 := Aside0.mk (Kd.R_elder' (zR HO240) (Kd.R_base ho78) hb); replace HO244 := Aside0.mk (Kd.R_elder' (zR HO244) (Kd.R_base ho78) hb); replace HO248 := Aside0.mk (Kd.R_elder' (zR HO248) (Kd.R_base ho78) hb); replace HB := Aside0.mk (below_step (zB HB) hb); clear hb ho78; obtain ⟨Ao79, co79, eo79⟩ := Kd.R_slice HO251.out; subst eo79) | ((with_reducible refine gate_callee (f := 16) rfl ?_); refine goesL_ (some 22) rfl rfl Tryd.func16 (by kernel_rfl) rfl #[.slice none 0 0, .slice Ao79 y249.length co79] rfl (by (try simp only [List.map_toArray, List.map_cons, List.map_nil]); first | done | rfl | (simp only [List.length_drop, List.length_take]; rfl)) ?_; (refine (portset_Eval.calls k _ _ ([] : List (S33)) _ _ y249 t252 _ ?side1 ?side2 ?side3 ?side4 A4.out).mono ?_); (case side1 => exact Kd.C_nil _ _); (case side2 => exact Nat.le_refl _); (case side3 => repeat (first | exact (Kd.R_reads' HO251.out).2.2 | (with_reducible refine Kd.C_alloc ?_ _) | (with_reducible refine Kd.C_drewN ?_ _) | (with_reducible refine Kd.C_drew ?_))); (case side4 => exact (Kd.R_reads' HO251.out).2.1); rintro e w80 ⟨v253, rfl, ho0, hb⟩; refine ⟨_, rfl, ?_⟩; have HO254 := Aside0.mk (Kd.R_lower (Kd.R_new' (Kd.R_new' (Kd.R_new' (Kd.R_new' ho0 (Kd.R_lt (zR HO240))) (Kd.R_lt (zR HO244))) (Kd.R_lt (zR HO248))) (Kd.R_lt (zR HO251))) (below_size (zB HB))); replace HO240 := Aside0.mk (Kd.R_elder' (zR HO240) (Kd.R_base ho0) hb); replace HO244 := Aside0.mk (Kd.R_elder' (zR HO244) (Kd.R_base ho0) hb); replace HO248 := Aside0.mk (Kd.R_elder' (zR HO248) (Kd.R_base ho0) hb); replace HO251 := Aside0.mk (Kd.R_elder' (zR HO251) (Kd.R_base ho0) hb); replace HB := Aside0.mk (below_step (zB HB) hb); (try clear hb); (try clear ho0)) | ((with_reducible refine gate_dst (N := 27) rfl ?_); (try (refine gate_guard (by rfl) ?_; dsimp only)); refine Kd.R_lit k33 _ 33 ?hg (N := 27) ?hd (xs := ([(⟨80, 80⟩ : S33), (⟨8000, 8000⟩ : S33), (⟨8002, 8002⟩ : S33)] : List (S33))) (inner := [.int .i64 80, .int .i64 80, .int .i64 8000, .int .i64 8000, .int .i64 8002, .int .i64 8002]) (ok := fun _ => True) (okp := fun _ => True) ?hr ?hp (fun _ hk => hk) trivial (Below.refl _ _) (Nat.le_refl _) (by simp) ?_; (case hd => rfl); (case hg => rfl); (case hr => first | (go_simp; done) | (go_simp; rfl)); (case hp => exact (Reps.c2 (show Kd.M k33 _ _ _ (⟨80, 80⟩ : S33) [.int .i64 80, .int .i64 80] from (k33_mkM _ _ _ (⟨80, 80⟩ : S33) )) (Reps.c2 (show Kd.M k33 _ _ _ (⟨8000, 8000⟩ : S33) [.int .i64 8000, .int .i64 8000] from (k33_mkM _ _ _ (⟨8000, 8000⟩ : S33) )) (Reps.c2 (show Kd.M k33 _ _ _ (⟨8002, 8002⟩ : S33) [.int .i64 8002, .int .i64 8002] from (k33_mkM _ _ _ (⟨8002, 8002⟩ : S33) )) (Reps.none _ _))))); intro v256 w81 ho82 hb hg_ hnew_; clear hg_ hnew_; (first | rw [← Ny255.out] at ho82 | (simp only [Int.reduceToNat] at ho82; rw [← Ny255.out] at ho82)); have HO257 := Aside0.mk (Kd.R_lower (Kd.R_new' (Kd.R_new' (Kd.R_new' (Kd.R_new' (Kd.R_new' ho82 (Kd.R_lt (zR HO240))) (Kd.R_lt (zR HO244))) (Kd.R_lt (zR HO248))) (Kd.R_lt (zR HO251))) (Kd.R_lt (zR HO254))) (below_size (zB HB))); replace HO240 := Aside0.mk (Kd.R_elder' (zR HO240) (Kd.R_base ho82) hb); replace HO244 := Aside0.mk (Kd.R_elder' (zR HO244) (Kd.R_base ho82) hb); replace HO248 := Aside0.mk (Kd.R_elder' (zR HO248) (Kd.R_base ho82) hb); replace HO251 := Aside0.mk (Kd.R_elder' (zR HO251) (Kd.R_base ho82) hb); replace HO254 := Aside0.mk (Kd.R_elder' (zR HO254) (Kd.R_base ho82) hb); replace HB := Aside0.mk (below_step (zB HB) hb); clear hb ho82; obtain ⟨Ao83, co83, eo83⟩ := Kd.R_slice HO240.out; subst eo83; obtain ⟨Ao84, co84, eo84⟩ := Kd.R_slice HO257.out; subst eo84) | ((with_reducible refine gate_callee (f := 12) rfl ?_); refine goesL_ (some 28) rfl rfl Tryd.func12 (by kernel_rfl) rfl #[.slice Ao83 t237.length co83, .slice Ao84 y255.length co84] rfl (by (try simp only [List.map_toArray, List.map_cons, List.map_nil]); first | done | rfl | (simp only [List.length_drop, List.length_take]; rfl)) ?_; (with_reducible refine (intrusionlaw08_same.calls k _ _ t237 _ _ y255 true _ ?side1 ?side2 ?side3 ?side4 A5.out).mono ?_); (case side1 => repeat (first | exact (Kd.R_reads' HO240.out).2.2 | (with_reducible refine Kd.C_alloc ?_ _) | (with_reducible refine Kd.C_drewN ?_ _) | (with_reducible refine Kd.C_drew ?_))); (case side2 => exact (Kd.R_reads' HO240.out).2.1); (case side3 => repeat (first | exact (Kd.R_reads' HO257.out).2.2 | (with_reducible refine Kd.C_alloc ?_ _) | (with_reducible refine Kd.C_drewN ?_ _) | (with_reducible refine Kd.C_drew ?_))); (case side4 => exact (Kd.R_reads' HO257.out).2.1); rintro e w' ⟨rfl, ⟨nd, rfl⟩⟩; refine ⟨_, rfl, ?_⟩))
         go_ret
         exact ⟨by first | rfl | (simp [errW_none, errW_some] <;> rfl) | (simp [*, errW_none, errW_some] <;> rfl), by repeat (first | (with_reducible first | exact HB.out | apply below_alloc | apply pw_below_drewN | apply below_drew1) | exact HB.out)⟩
     · rw [if_neg c8] at H
       have c8b0 : (t242 == 4) = false := beq_eq_false_iff_ne.mpr c8
       have c8b1 : (t242 != 4) = true := bne_iff_ne.mpr c8
       obtain rfl := Option.some.inj H
       go_enter Tryd.func9, Tryd.ntmps9
       go_wp2_with (first | ((with_reducible refine gate_callee (f := 10) rfl ?_); refine goesL_ (some 9) rfl rfl Tryd.func10 (by kernel_rfl) rfl #[.string (⟨#[56, 48, 44, 56, 48, 48, 48, 58, 56, 48, 48, 50, 44, 33, 56, 48, 48, 49]⟩ : ByteArray)] rfl (by (try simp only [List.map_toArray, List.map_cons, List.map_nil]); first | done | rfl | (simp only [List.length_drop, List.length_take]; rfl)) ?_; (with_reducible refine (portset_Parse.calls k (⟨#[56, 48, 44, 56, 48, 48, 48, 58, 56, 48, 48, 50, 44, 33, 56, 48, 48, 49]⟩ : ByteArray) t237 t238 _ A1.out (WOK.below hW_ (zB HB))).mono ?_); rintro e w85 ⟨v239, rfl, ho0, hb⟩; refine ⟨_, rfl, ?_⟩; have HO240 := Aside0.mk (Kd.R_lower ho0 (below_size (zB HB))); replace HB := Aside0.mk (below_step (zB HB) hb); (try clear hb); (try clear ho0)) | ((with_reducible refine gate_callee (f := 10) rfl ?_); refine goesL_ (some 13) rfl rfl Tryd.func10 (by kernel_rfl) rfl #[.string (⟨#[55, 58, 53]⟩ : ByteArray)] rfl (by (try simp only [List.map_toArray, List.map_cons, List.map_nil]); first | done | rfl | (simp only [List.length_drop, List.length_take]; rfl)) ?_; (with_reducible refine (portset_Parse.calls k (⟨#[55, 58, 53]⟩ : ByteArray) t241 t242 _ A2.out (WOK.below hW_ (zB HB))).mono ?_); rintro e w86 ⟨v243, rfl, ho0, hb⟩; refine ⟨_, rfl, ?_⟩; have HO244 := Aside0.mk (Kd.R_lower (Kd.R_new' ho0 (Kd.R_lt (zR HO240))) (below_size (zB HB))); replace HO240 := Aside0.mk (Kd.R_elder' (zR HO240) (Kd.R_base ho0) hb); replace HB := Aside0.mk (below_step (zB HB) hb); (try clear hb); (try clear ho0)) | ((with_reducible refine gate_callee (f := 10) rfl ?_); refine goesL_ (some 17) rfl rfl Tryd.func10 (by kernel_rfl) rfl #[.string (⟨#[]⟩ : ByteArray)] rfl (by (try simp only [List.map_toArray, List.map_cons, List.map_nil]); first | done | rfl | (simp only [List.length_drop, List.length_take]; rfl)) ?_; (with_reducible refine (portset_Parse.calls k (⟨#[]⟩ : ByteArray) t245 t246 _ A3.out (WOK.below hW_ (zB HB))).mono ?_); rintro e w87 ⟨v247, rfl, ho0, hb⟩; refine ⟨_, rfl, ?_⟩; have HO248 := Aside0.mk (Kd.R_lower (Kd.R_new' (Kd.R_new' ho0 (Kd.R_lt (zR HO240))) (Kd.R_lt (zR HO244))) (below_size (zB HB))); replace HO240 := Aside0.mk (Kd.R_elder' (zR HO240) (Kd.R_base ho0) hb); replace HO244 := Aside0.mk (Kd.R_elder' (zR HO244) (Kd.R_base ho0) hb); replace HB := Aside0.mk (below_step (zB HB) hb); (try clear hb); (try clear ho0)) | ((with_reducible refine gate_dst (N := 21) rfl ?_); (try (refine gate_guard (by rfl) ?_; dsimp only)); refine Kd.R_lit k33 _ 33 ?hg (N := 21) ?hd (xs := ([(⟨0, 1023⟩ : S33)] : List (S33))) (inner := [.int .i64 0, .int .i64 1023]) (ok := fun _ => True) (okp := fun _ => True) ?hr ?hp (fun _ hk => hk) trivial (Below.refl _ _) (Nat.le_refl _) (by simp) ?_; (case hd => rfl); (case hg => rfl); (case hr => first | (go_simp; done) | (go_simp; rfl)); (case hp => exact (Reps.c2 (show Kd.M k33 _ _ _ (⟨0, 1023⟩ : S33) [.int .i64 0, .int .i64 1023] from (k33_mkM _ _ _ (⟨0, 1023⟩ : S33) )) (Reps.none _ _))); intro v250 w88 ho89 hb hg_ hnew_; clear hg_ hnew_; (first | rw [← Ny249.out] at ho89 | (simp only [Int.reduceToNat] at ho89; rw [← Ny249.out] at ho89)); have HO251 := Aside0.mk (Kd.R_lower (Kd.R_new' (Kd.R_new' (Kd.R_new' ho89 (Kd.R_lt (zR HO240))) (Kd.R_lt (zR HO244))) (Kd.R_lt (zR HO248))) (below_size (zB HB))); replace HO240 := Aside0.mk (Kd.R_elder' (zR HO240) (Kd.R_base ho89) hb); replace HO244 := Aside0.mk (Kd.R_elder' (zR HO244) (Kd.R_base ho89) hb); replace HO248 := Aside0.mk (Kd.R_elder' (zR HO248) (Kd.R_base ho89) hb); replace HB := Aside0.mk (below_step (zB HB) hb); clear hb ho89; obtain ⟨Ao90, co90, eo90⟩ := Kd.R_slice HO251.out; subst eo90) | ((with_reducible refine gate_callee (f := 16) rfl ?_); refine goesL_ (some 22) rfl rfl Tryd.func16 (by kernel_rfl) rfl #[.slice none 0 0, .slice Ao90 y249.length co90] rfl (by (try simp only [List.map_toArray, List.map_cons, List.map_nil]); first | done | rfl | (simp only [List.length_drop, List.length_take]; rfl)) ?_; (refine (portset_Eval.calls k _ _ ([] : List (S33)) _ _ y249 t252 _ ?side1 ?side2 ?side3 ?side4 A4.out).mono ?_); (case side1 => exact Kd.C_nil _ _); (case side2 => exact Nat.le_refl _); (case side3 => repeat (first | exact (Kd.R_reads' HO251.out).2.2 | (with_reducible refine Kd.C_alloc ?_ _) | (with_reducible refine Kd.C_drewN ?_ _) | (with_reducible refine Kd.C_drew ?_))); (case side4 => exact (Kd.R_reads' HO251.out).2.1); rintro e w91 ⟨v253, rfl, ho0, hb⟩; refine ⟨_, rfl, ?_⟩; have HO254 := Aside0.mk (Kd.R_lower (Kd.R_new' (Kd.R_new' (Kd.R_new' (Kd.R_new' ho0 (Kd.R_lt (zR HO240))) (Kd.R_lt (zR HO244))) (Kd.R_lt (zR HO248))) (Kd.R_lt (zR HO251))) (below_size (zB HB))); replace HO240 := Aside0.mk (Kd.R_elder' (zR HO240) (Kd.R_base ho0) hb); replace HO244 := Aside0.mk (Kd.R_elder' (zR HO244) (Kd.R_base ho0) hb); replace HO248 := Aside0.mk (Kd.R_elder' (zR HO248) (Kd.R_base ho0) hb); replace HO251 := Aside0.mk (Kd.R_elder' (zR HO251) (Kd.R_base ho0) hb); replace HB := Aside0.mk (below_step (zB HB) hb); (try clear hb); (try clear ho0)) | ((with_reducible refine gate_dst (N := 27) rfl ?_); (try (refine gate_guard (by rfl) ?_; dsimp only)); refine Kd.R_lit k33 _ 33 ?hg (N := 27) ?hd (xs := ([(⟨80, 80⟩ : S33), (⟨8000, 8000⟩ : S33), (⟨8002, 8002⟩ : S33)] : List (S33))) (inner := [.int .i64 80, .int .i64 80, .int .i64 8000, .int .i64 8000, .int .i64 8002, .int .i64 8002]) (ok := fun _ => True) (okp := fun _ => True) ?hr ?hp (fun _ hk => hk) trivial (Below.refl _ _) (Nat.le_refl _) (by simp) ?_; (case hd => rfl); (case hg => rfl); (case hr => first | (go_simp; done) | (go_simp; rfl)); (case hp => exact (Reps.c2 (show Kd.M k33 _ _ _ (⟨80, 80⟩ : S33) [.int .i64 80, .int .i64 80] from (k33_mkM _ _ _ (⟨80, 80⟩ : S33) )) (Reps.c2 (show Kd.M k33 _ _ _ (⟨8000, 8000⟩ : S33) [.int .i64 8000, .int .i64 8000] from (k33_mkM _ _ _ (⟨8000, 8000⟩ : S33) )) (Reps.c2 (show Kd.M k33 _ _ _ (⟨8002, 8002⟩ : S33) [.int .i64 8002, .int .i64 8002] from (k33_mkM _ _ _ (⟨8002, 8002⟩ : S33) )) (Reps.none _ _))))); intro v256 w92 ho93 hb hg_ hnew_; clear hg_ hnew_; (first | rw [← Ny255.out] at ho93 | (simp only [Int.reduceToNat] at ho93; rw [← Ny255.out] at ho93)); have HO257 := Aside0.mk (Kd.R_lower (Kd.R_new' (Kd.R_new' (Kd.R_new' (Kd.R_new' (Kd.R_new' ho93 (Kd.R_lt (zR HO240))) (Kd.R_lt (zR HO244))) (Kd.R_lt (zR HO248))) (Kd.R_lt (zR HO251))) (Kd.R_lt (zR HO254))) (below_size (zB HB))); replace HO240 := Aside0.mk (Kd.R_elder' (zR HO240) (Kd.R_base ho93) hb); replace HO244 := Aside0.mk (Kd.R_elder' (zR HO244) (Kd.R_base ho93) hb); replace HO248 := Aside0.mk (Kd.R_elder' (zR HO248) (Kd.R_base ho93) hb); replace HO251 := Aside0.mk (Kd.R_elder' (zR HO251) (Kd.R_base ho93) hb); replace HO254 := Aside0.mk (Kd.R_elder' (zR HO254) (Kd.R_base ho93) hb); replace HB := Aside0.mk (below_step (zB HB) hb); clear hb ho93; obtain ⟨Ao94, co94, eo94⟩ := Kd.R_slice HO240.out; subst eo94; obtain ⟨Ao95, co95, eo95⟩ := Kd.R_slice HO257.out; subst eo95) | ((with_reducible refine gate_callee (f := 12) rfl ?_); refine goesL_ (some 28) rfl rfl Tryd.func12 (by kernel_rfl) rfl #[.slice Ao94 t237.length co94, .slice Ao95 y255.length co95] rfl (by (try simp only [List.map_toArray, List.map_cons, List.map_nil]); first | done | rfl | (simp only [List.length_drop, List.length_take]; rfl)) ?_; (with_reducible refine (intrusionlaw08_same.calls k _ _ t237 _ _ y255 true _ ?side1 ?side2 ?side3 ?side4 A5.out).mono ?_); (case side1 => repeat (first | exact (Kd.R_reads' HO240.out).2.2 | (with_reducible refine Kd.C_alloc ?_ _) | (with_reducible refine Kd.C_drewN ?_ _) | (with_reducible refine Kd.C_drew ?_))); (case side2 => exact (Kd.R_reads' HO240.out).2.1); (case side3 => repeat (first | exact (Kd.R_reads' HO257.out).2.2 | (with_reducible refine Kd.C_alloc ?_ _) | (with_reducible refine Kd.C_drewN ?_ _) | (with_reducible refine Kd.C_drew ?_))); (case side4 => exact (Kd.R_reads' HO257.out).2.1); rintro e w' ⟨rfl, ⟨nd, rfl⟩⟩; refine ⟨_, rfl, ?_⟩))
       go_ret
       exact ⟨by first | rfl | (simp [errW_none, errW_some] <;> rfl) | (simp [*, errW_none, errW_some] <;> rfl), by repeat (first | (with_reducible first | exact HB.out | apply below_alloc | apply pw_below_drewN | apply below_drew1) | exact HB.out)⟩
   · rw [if_neg c7] at H
     have c7b0 : (t238 == 0) = false := beq_eq_false_iff_ne.mpr c7
     have c7b1 : (t238 != 0) = true := bne_iff_ne.mpr c7
     obtain rfl := Option.some.inj H
     go_enter Tryd.func9, Tryd.ntmps9
     go_wp2_with (first | ((with_reducible refine gate_callee (f := 10) rfl ?_); refine goesL_ (some 9) rfl rfl Tryd.func10 (by kernel_rfl) rfl #[.string (⟨#[56, 48, 44, 56, 48, 48, 48, 58, 56, 48, 48, 50, 44, 33, 56, 48, 48, 49]⟩ : ByteArray)] rfl (by (try simp only [List.map_toArray, List.map_cons, List.map_nil]); first | done | rfl | (simp only [List.length_drop, List.length_take]; rfl)) ?_; (with_reducible refine (portset_Parse.calls k (⟨#[56, 48, 44, 56, 48, 48, 48, 58, 56, 48, 48, 50, 44, 33, 56, 48, 48, 49]⟩ : ByteArray) t237 t238 _ A1.out (WOK.below hW_ (zB HB))).mono ?_); rintro e w96 ⟨v239, rfl, ho0, hb⟩; refine ⟨_, rfl, ?_⟩; have HO240 := Aside0.mk (Kd.R_lower ho0 (below_size (zB HB))); replace HB := Aside0.mk (below_step (zB HB) hb); (try clear hb); (try clear ho0)) | ((with_reducible refine gate_callee (f := 10) rfl ?_); refine goesL_ (some 13) rfl rfl Tryd.func10 (by kernel_rfl) rfl #[.string (⟨#[55, 58, 53]⟩ : ByteArray)] rfl (by (try simp only [List.map_toArray, List.map_cons, List.map_nil]); first | done | rfl | (simp only [List.length_drop, List.length_take]; rfl)) ?_; (with_reducible refine (portset_Parse.calls k (⟨#[55, 58, 53]⟩ : ByteArray) t241 t242 _ A2.out (WOK.below hW_ (zB HB))).mono ?_); rintro e w97 ⟨v243, rfl, ho0, hb⟩; refine ⟨_, rfl, ?_⟩; have HO244 := Aside0.mk (Kd.R_lower (Kd.R_new' ho0 (Kd.R_lt (zR HO240))) (below_size (zB HB))); replace HO240 := Aside0.mk (Kd.R_elder' (zR HO240) (Kd.R_base ho0) hb); replace HB := Aside0.mk (below_step (zB HB) hb); (try clear hb); (try clear ho0)) | ((with_reducible refine gate_callee (f := 10) rfl ?_); refine goesL_ (some 17) rfl rfl Tryd.func10 (by kernel_rfl) rfl #[.string (⟨#[]⟩ : ByteArray)] rfl (by (try simp only [List.map_toArray, List.map_cons, List.map_nil]); first | done | rfl | (simp only [List.length_drop, List.length_take]; rfl)) ?_; (with_reducible refine (portset_Parse.calls k (⟨#[]⟩ : ByteArray) t245 t246 _ A3.out (WOK.below hW_ (zB HB))).mono ?_); rintro e w98 ⟨v247, rfl, ho0, hb⟩; refine ⟨_, rfl, ?_⟩; have HO248 := Aside0.mk (Kd.R_lower (Kd.R_new' (Kd.R_new' ho0 (Kd.R_lt (zR HO240))) (Kd.R_lt (zR HO244))) (below_size (zB HB))); replace HO240 := Aside0.mk (Kd.R_elder' (zR HO240) (Kd.R_base ho0) hb); replace HO244 := Aside0.mk (Kd.R_elder' (zR HO244) (Kd.R_base ho0) hb); replace HB := Aside0.mk (below_step (zB HB) hb); (try clear hb); (try clear ho0)) | ((with_reducible refine gate_dst (N := 21) rfl ?_); (try (refine gate_guard (by rfl) ?_; dsimp only)); refine Kd.R_lit k33 _ 33 ?hg (N := 21) ?hd (xs := ([(⟨0, 1023⟩ : S33)] : List (S33))) (inner := [.int .i64 0, .int .i64 1023]) (ok := fun _ => True) (okp := fun _ => True) ?hr ?hp (fun _ hk => hk) trivial (Below.refl _ _) (Nat.le_refl _) (by simp) ?_; (case hd => rfl); (case hg => rfl); (case hr => first | (go_simp; done) | (go_simp; rfl)); (case hp => exact (Reps.c2 (show Kd.M k33 _ _ _ (⟨0, 1023⟩ : S33) [.int .i64 0, .int .i64 1023] from (k33_mkM _ _ _ (⟨0, 1023⟩ : S33) )) (Reps.none _ _))); intro v250 w99 ho100 hb hg_ hnew_; clear hg_ hnew_; (first | rw [← Ny249.out] at ho100 | (simp only [Int.reduceToNat] at ho100; rw [← Ny249.out] at ho100)); have HO251 := Aside0.mk (Kd.R_lower (Kd.R_new' (Kd.R_new' (Kd.R_new' ho100 (Kd.R_lt (zR HO240))) (Kd.R_lt (zR HO244))) (Kd.R_lt (zR HO248))) (below_size (zB HB))); replace HO240 := Aside0.mk (Kd.R_elder' (zR HO240) (Kd.R_base ho100) hb); replace HO244 := Aside0.mk (Kd.R_elder' (zR HO244) (Kd.R_base ho100) hb); replace HO248 := Aside0.mk (Kd.R_elder' (zR HO248) (Kd.R_base ho100) hb); replace HB := Aside0.mk (below_step (zB HB) hb); clear hb ho100; obtain ⟨Ao101, co101, eo101⟩ := Kd.R_slice HO251.out; subst eo101) | ((with_reducible refine gate_callee (f := 16) rfl ?_); refine goesL_ (some 22) rfl rfl Tryd.func16 (by kernel_rfl) rfl #[.slice none 0 0, .slice Ao101 y249.length co101] rfl (by (try simp only [List.map_toArray, List.map_cons, List.map_nil]); first | done | rfl | (simp only [List.length_drop, List.length_take]; rfl)) ?_; (refine (portset_Eval.calls k _ _ ([] : List (S33)) _ _ y249 t252 _ ?side1 ?side2 ?side3 ?side4 A4.out).mono ?_); (case side1 => exact Kd.C_nil _ _); (case side2 => exact Nat.le_refl _); (case side3 => repeat (first | exact (Kd.R_reads' HO251.out).2.2 | (with_reducible refine Kd.C_alloc ?_ _) | (with_reducible refine Kd.C_drewN ?_ _) | (with_reducible refine Kd.C_drew ?_))); (case side4 => exact (Kd.R_reads' HO251.out).2.1); rintro e w102 ⟨v253, rfl, ho0, hb⟩; refine ⟨_, rfl, ?_⟩; have HO254 := Aside0.mk (Kd.R_lower (Kd.R_new' (Kd.R_new' (Kd.R_new' (Kd.R_new' ho0 (Kd.R_lt (zR HO240))) (Kd.R_lt (zR HO244))) (Kd.R_lt (zR HO248))) (Kd.R_lt (zR HO251))) (below_size (zB HB))); replace HO240 := Aside0.mk (Kd.R_elder' (zR HO240) (Kd.R_base ho0) hb); replace HO244 := Aside0.mk (Kd.R_elder' (zR HO244) (Kd.R_base ho0) hb); replace HO248 := Aside0.mk (Kd.R_elder' (zR HO248) (Kd.R_base ho0) hb); replace HO251 := Aside0.mk (Kd.R_elder' (zR HO251) (Kd.R_base ho0) hb); replace HB := Aside0.mk (below_step (zB HB) hb); (try clear hb); (try clear ho0)) | ((with_reducible refine gate_dst (N := 27) rfl ?_); (try (refine gate_guard (by rfl) ?_; dsimp only)); refine Kd.R_lit k33 _ 33 ?hg (N := 27) ?hd (xs := ([(⟨80, 80⟩ : S33), (⟨8000, 8000⟩ : S33), (⟨8002, 8002⟩ : S33)] : List (S33))) (inner := [.int .i64 80, .int .i64 80, .int .i64 8000, .int .i64 8000, .int .i64 8002, .int .i64 8002]) (ok := fun _ => True) (okp := fun _ => True) ?hr ?hp (fun _ hk => hk) trivial (Below.refl _ _) (Nat.le_refl _) (by simp) ?_; (case hd => rfl); (case hg => rfl); (case hr => first | (go_simp; done) | (go_simp; rfl)); (case hp => exact (Reps.c2 (show Kd.M k33 _ _ _ (⟨80, 80⟩ : S33) [.int .i64 80, .int .i64 80] from (k33_mkM _ _ _ (⟨80, 80⟩ : S33) )) (Reps.c2 (show Kd.M k33 _ _ _ (⟨8000, 8000⟩ : S33) [.int .i64 8000, .int .i64 8000] from (k33_mkM _ _ _ (⟨8000, 8000⟩ : S33) )) (Reps.c2 (show Kd.M k33 _ _ _ (⟨8002, 8002⟩ : S33) [.int .i64 8002, .int .i64 8002] from (k33_mkM _ _ _ (⟨8002, 8002⟩ : S33) )) (Reps.none _ _))))); intro v256 w103 ho104 hb hg_ hnew_; clear hg_ hnew_; (first | rw [← Ny255.out] at ho104 | (simp only [Int.reduceToNat] at ho104; rw [← Ny255.out] at ho104)); have HO257 := Aside0.mk (Kd.R_lower (Kd.R_new' (Kd.R_new' (Kd.R_new' (Kd.R_new' (Kd.R_new' ho104 (Kd.R_lt (zR HO240))) (Kd.R_lt (zR HO244))) (Kd.R_lt (zR HO248))) (Kd.R_lt (zR HO251))) (Kd.R_lt (zR HO254))) (below_size (zB HB))); replace HO240 := Aside0.mk (Kd.R_elder' (zR HO240) (Kd.R_base ho104) hb); replace HO244 := Aside0.mk (Kd.R_elder' (zR HO244) (Kd.R_base ho104) hb); replace HO248 := Aside0.mk (Kd.R_elder' (zR HO248) (Kd.R_base ho104) hb); replace HO251 := Aside0.mk (Kd.R_elder' (zR HO251) (Kd.R_base ho104) hb); replace HO254 := Aside0.mk (Kd.R_elder' (zR HO254) (Kd.R_base ho104) hb); replace HB := Aside0.mk (below_step (zB HB) hb); clear hb ho104; obtain ⟨Ao105, co105, eo105⟩ := Kd.R_slice HO240.out; subst eo105; obtain ⟨Ao106, co106, eo106⟩ := Kd.R_slice HO257.out; subst eo106) | ((with_reducible refine gate_callee (f := 12) rfl ?_); refine goesL_ (some 28) rfl rfl Tryd.func12 (by kernel_rfl) rfl #[.slice Ao105 t237.length co105, .slice Ao106 y255.length co106] rfl (by (try simp only [List.map_toArray, List.map_cons, List.map_nil]); first | done | rfl | (simp only [List.length_drop, List.length_take]; rfl)) ?_; (with_reducible refine (intrusionlaw08_same.calls k _ _ t237 _ _ y255 true _ ?side1 ?side2 ?side3 ?side4 A5.out).mono ?_); (case side1 => repeat (first | exact (Kd.R_reads' HO240.out).2.2 | (with_reducible refine Kd.C_alloc ?_ _) | (with_reducible refine Kd.C_drewN ?_ _) | (with_reducible refine Kd.C_drew ?_))); (case side2 => exact (Kd.R_reads' HO240.out).2.1); (case side3 => repeat (first | exact (Kd.R_reads' HO257.out).2.2 | (with_reducible refine Kd.C_alloc ?_ _) | (with_reducible refine Kd.C_drewN ?_ _) | (with_reducible refine Kd.C_drew ?_))); (case side4 => exact (Kd.R_reads' HO257.out).2.1); rintro e w' ⟨rfl, ⟨nd, rfl⟩⟩; refine ⟨_, rfl, ?_⟩))
     go_ret
     exact ⟨by first | rfl | (simp [errW_none, errW_some] <;> rfl) | (simp [*, errW_none, errW_some] <;> rfl), by repeat (first | (with_reducible first | exact HB.out | apply below_alloc | apply pw_below_drewN | apply below_drew1) | exact HB.out)⟩
 · replace c6 := Bool.eq_false_iff.mpr c6
   subst c6
   rw [if_neg zF] at H
   obtain rfl := Option.some.inj H
   go_enter Tryd.func9, Tryd.ntmps9
   go_wp2_with (first | ((with_reducible refine gate_callee (f := 10) rfl ?_); refine goesL_ (some 9) rfl rfl Tryd.func10 (by kernel_rfl) rfl #[.string (⟨#[56, 48, 44, 56, 48, 48, 48, 58, 56, 48, 48, 50, 44, 33, 56, 48, 48, 49]⟩ : ByteArray)] rfl (by (try simp only [List.map_toArray, List.map_cons, List.map_nil]); first | done | rfl | (simp only [List.length_drop, List.length_take]; rfl)) ?_; (with_reducible refine (portset_Parse.calls k (⟨#[56, 48, 44, 56, 48, 48, 48, 58, 56, 48, 48, 50, 44, 33, 56, 48, 48, 49]⟩ : ByteArray) t237 t238 _ A1.out (WOK.below hW_ (zB HB))).mono ?_); rintro e w107 ⟨v239, rfl, ho0, hb⟩; refine ⟨_, rfl, ?_⟩; have HO240 := Aside0.mk (Kd.R_lower ho0 (below_size (zB HB))); replace HB := Aside0.mk (below_step (zB HB) hb); (try clear hb); (try clear ho0)) | ((with_reducible refine gate_callee (f := 10) rfl ?_); refine goesL_ (some 13) rfl rfl Tryd.func10 (by kernel_rfl) rfl #[.string (⟨#[55, 58, 53]⟩ : ByteArray)] rfl (by (try simp only [List.map_toArray, List.map_cons, List.map_nil]); first | done | rfl | (simp only [List.length_drop, List.length_take]; rfl)) ?_; (with_reducible refine (portset_Parse.calls k (⟨#[55, 58, 53]⟩ : ByteArray) t241 t242 _ A2.out (WOK.below hW_ (zB HB))).mono ?_); rintro e w108 ⟨v243, rfl, ho0, hb⟩; refine ⟨_, rfl, ?_⟩; have HO244 := Aside0.mk (Kd.R_lower (Kd.R_new' ho0 (Kd.R_lt (zR HO240))) (below_size (zB HB))); replace HO240 := Aside0.mk (Kd.R_elder' (zR HO240) (Kd.R_base ho0) hb); replace HB := Aside0.mk (below_step (zB HB) hb); (try clear hb); (try clear ho0)) | ((with_reducible refine gate_callee (f := 10) rfl ?_); refine goesL_ (some 17) rfl rfl Tryd.func10 (by kernel_rfl) rfl #[.string (⟨#[]⟩ : ByteArray)] rfl (by (try simp only [List.map_toArray, List.map_cons, List.map_nil]); first | done | rfl | (simp only [List.length_drop, List.length_take]; rfl)) ?_; (with_reducible refine (portset_Parse.calls k (⟨#[]⟩ : ByteArray) t245 t246 _ A3.out (WOK.below hW_ (zB HB))).mono ?_); rintro e w109 ⟨v247, rfl, ho0, hb⟩; refine ⟨_, rfl, ?_⟩; have HO248 := Aside0.mk (Kd.R_lower (Kd.R_new' (Kd.R_new' ho0 (Kd.R_lt (zR HO240))) (Kd.R_lt (zR HO244))) (below_size (zB HB))); replace HO240 := Aside0.mk (Kd.R_elder' (zR HO240) (Kd.R_base ho0) hb); replace HO244 := Aside0.mk (Kd.R_elder' (zR HO244) (Kd.R_base ho0) hb); replace HB := Aside0.mk (below_step (zB HB) hb); (try clear hb); (try clear ho0)) | ((with_reducible refine gate_dst (N := 21) rfl ?_); (try (refine gate_guard (by rfl) ?_; dsimp only)); refine Kd.R_lit k33 _ 33 ?hg (N := 21) ?hd (xs := ([(⟨0, 1023⟩ : S33)] : List (S33))) (inner := [.int .i64 0, .int .i64 1023]) (ok := fun _ => True) (okp := fun _ => True) ?hr ?hp (fun _ hk => hk) trivial (Below.refl _ _) (Nat.le_refl _) (by simp) ?_; (case hd => rfl); (case hg => rfl); (case hr => first | (go_simp; done) | (go_simp; rfl)); (case hp => exact (Reps.c2 (show Kd.M k33 _ _ _ (⟨0, 1023⟩ : S33) [.int .i64 0, .int .i64 1023] from (k33_mkM _ _ _ (⟨0, 1023⟩ : S33) )) (Reps.none _ _))); intro v250 w110 ho111 hb hg_ hnew_; clear hg_ hnew_; (first | rw [← Ny249.out] at ho111 | (simp only [Int.reduceToNat] at ho111; rw [← Ny249.out] at ho111)); have HO251 := Aside0.mk (Kd.R_lower (Kd.R_new' (Kd.R_new' (Kd.R_new' ho111 (Kd.R_lt (zR HO240))) (Kd.R_lt (zR HO244))) (Kd.R_lt (zR HO248))) (below_size (zB HB))); replace HO240 := Aside0.mk (Kd.R_elder' (zR HO240) (Kd.R_base ho111) hb); replace HO244 := Aside0.mk (Kd.R_elder' (zR HO244) (Kd.R_base ho111) hb); replace HO248 := Aside0.mk (Kd.R_elder' (zR HO248) (Kd.R_base ho111) hb); replace HB := Aside0.mk (below_step (zB HB) hb); clear hb ho111; obtain ⟨Ao112, co112, eo112⟩ := Kd.R_slice HO251.out; subst eo112) | ((with_reducible refine gate_callee (f := 16) rfl ?_); refine goesL_ (some 22) rfl rfl Tryd.func16 (by kernel_rfl) rfl #[.slice none 0 0, .slice Ao112 y249.length co112] rfl (by (try simp only [List.map_toArray, List.map_cons, List.map_nil]); first | done | rfl | (simp only [List.length_drop, List.length_take]; rfl)) ?_; (refine (portset_Eval.calls k _ _ ([] : List (S33)) _ _ y249 t252 _ ?side1 ?side2 ?side3 ?side4 A4.out).mono ?_); (case side1 => exact Kd.C_nil _ _); (case side2 => exact Nat.le_refl _); (case side3 => repeat (first | exact (Kd.R_reads' HO251.out).2.2 | (with_reducible refine Kd.C_alloc ?_ _) | (with_reducible refine Kd.C_drewN ?_ _) | (with_reducible refine Kd.C_drew ?_))); (case side4 => exact (Kd.R_reads' HO251.out).2.1); rintro e w113 ⟨v253, rfl, ho0, hb⟩; refine ⟨_, rfl, ?_⟩; have HO254 := Aside0.mk (Kd.R_lower (Kd.R_new' (Kd.R_new' (Kd.R_new' (Kd.R_new' ho0 (Kd.R_lt (zR HO240))) (Kd.R_lt (zR HO244))) (Kd.R_lt (zR HO248))) (Kd.R_lt (zR HO251))) (below_size (zB HB))); replace HO240 := Aside0.mk (Kd.R_elder' (zR HO240) (Kd.R_base ho0) hb); replace HO244 := Aside0.mk (Kd.R_elder' (zR HO244) (Kd.R_base ho0) hb); replace HO248 := Aside0.mk (Kd.R_elder' (zR HO248) (Kd.R_base ho0) hb); replace HO251 := Aside0.mk (Kd.R_elder' (zR HO251) (Kd.R_base ho0) hb); replace HB := Aside0.mk (below_step (zB HB) hb); (try clear hb); (try clear ho0)) | ((with_reducible refine gate_dst (N := 27) rfl ?_); (try (refine gate_guard (by rfl) ?_; dsimp only)); refine Kd.R_lit k33 _ 33 ?hg (N := 27) ?hd (xs := ([(⟨80, 80⟩ : S33), (⟨8000, 8000⟩ : S33), (⟨8002, 8002⟩ : S33)] : List (S33))) (inner := [.int .i64 80, .int .i64 80, .int .i64 8000, .int .i64 8000, .int .i64 8002, .int .i64 8002]) (ok := fun _ => True) (okp := fun _ => True) ?hr ?hp (fun _ hk => hk) trivial (Below.refl _ _) (Nat.le_refl _) (by simp) ?_; (case hd => rfl); (case hg => rfl); (case hr => first | (go_simp; done) | (go_simp; rfl)); (case hp => exact (Reps.c2 (show Kd.M k33 _ _ _ (⟨80, 80⟩ : S33) [.int .i64 80, .int .i64 80] from (k33_mkM _ _ _ (⟨80, 80⟩ : S33) )) (Reps.c2 (show Kd.M k33 _ _ _ (⟨8000, 8000⟩ : S33) [.int .i64 8000, .int .i64 8000] from (k33_mkM _ _ _ (⟨8000, 8000⟩ : S33) )) (Reps.c2 (show Kd.M k33 _ _ _ (⟨8002, 8002⟩ : S33) [.int .i64 8002, .int .i64 8002] from (k33_mkM _ _ _ (⟨8002, 8002⟩ : S33) )) (Reps.none _ _))))); intro v256 w114 ho115 hb hg_ hnew_; clear hg_ hnew_; (first | rw [← Ny255.out] at ho115 | (simp only [Int.reduceToNat] at ho115; rw [← Ny255.out] at ho115)); have HO257 := Aside0.mk (Kd.R_lower (Kd.R_new' (Kd.R_new' (Kd.R_new' (Kd.R_new' (Kd.R_new' ho115 (Kd.R_lt (zR HO240))) (Kd.R_lt (zR HO244))) (Kd.R_lt (zR HO248))) (Kd.R_lt (zR HO251))) (Kd.R_lt (zR HO254))) (below_size (zB HB))); replace HO240 := Aside0.mk (Kd.R_elder' (zR HO240) (Kd.R_base ho115) hb); replace HO244 := Aside0.mk (Kd.R_elder' (zR HO244) (Kd.R_base ho115) hb); replace HO248 := Aside0.mk (Kd.R_elder' (zR HO248) (Kd.R_base ho115) hb); replace HO251 := Aside0.mk (Kd.R_elder' (zR HO251) (Kd.R_base ho115) hb); replace HO254 := Aside0.mk (Kd.R_elder' (zR HO254) (Kd.R_base ho115) hb); replace HB := Aside0.mk (below_step (zB HB) hb); clear hb ho115; obtain ⟨Ao116, co116, eo116⟩ := Kd.R_slice HO240.out; subst eo116; obtain ⟨Ao117, co117, eo117⟩ := Kd.R_slice HO257.out; subst eo117) | ((with_reducible refine gate_callee (f := 12) rfl ?_); refine goesL_ (some 28) rfl rfl Tryd.func12 (by kernel_rfl) rfl #[.slice Ao116 t237.length co116, .slice Ao117 y255.length co117] rfl (by (try simp only [List.map_toArray, List.map_cons, List.map_nil]); first | done | rfl | (simp only [List.length_drop, List.length_take]; rfl)) ?_; (with_reducible refine (intrusionlaw08_same.calls k _ _ t237 _ _ y255 false _ ?side1 ?side2 ?side3 ?side4 A5.out).mono ?_); (case side1 => repeat (first | exact (Kd.R_reads' HO240.out).2.2 | (with_reducible refine Kd.C_alloc ?_ _) | (with_reducible refine Kd.C_drewN ?_ _) | (with_reducible refine Kd.C_drew ?_))); (case side2 => exact (Kd.R_reads' HO240.out).2.1); (case side3 => repeat (first | exact (Kd.R_reads' HO257.out).2.2 | (with_reducible refine Kd.C_alloc ?_ _) | (with_reducible refine Kd.C_drewN ?_ _) | (with_reducible refine Kd.C_drew ?_))); (case side4 => exact (Kd.R_reads' HO257.out).2.1); rintro e w' ⟨rfl, ⟨nd, rfl⟩⟩; refine ⟨_, rfl, ?_⟩))
   go_ret
   exact ⟨by first | rfl | (simp [errW_none, errW_some] <;> rfl) | (simp [*, errW_none, errW_some] <;> rfl), by repeat (first | (with_reducible first | exact HB.out | apply below_alloc | apply pw_below_drewN | apply below_drew1) | exact HB.out)⟩
end Go.Proofs.YtbimdjciacnioaaDoor.Q
end

section
namespace Go.Proofs.YtbimdjciacnioaaDoor.Q
open Go.RowKit Go.Proofs.YtbimdjciacnioaaDoorW.PrintWords Go.Proofs.YtbimdjciacnioaaDoorW.PrintLast Go.Proofs.YtbimdjciacnioaaDoorW.PrintMore
attribute [local go_sem] max2_int min2_int max_two min_two max_three min_three max_four min_four
set_option linter.unusedVariables false
set_option linter.unusedSimpArgs false
def interval_Subset.f (k : Nat) (l0 : List (S33)) (l1 : List (S33)) : Option (Bool) := (interval_Minus.f k l0 l1).bind fun t475 => (some ((t475.length : Int) == 0))
theorem interval_Subset.mono : ∀ a0 a1 k, LeO (interval_Subset.f k a0 a1) (interval_Subset.f (k + 1) a0 a1) := by
  intro a0 a1 k
  unfold interval_Subset.f
  repeat' first
      | (with_reducible exact interval_Minus.mono _ _ _)
      | (with_reducible exact LeO.refl _)
      | (with_reducible exact LeO.none _)
      | (with_reducible refine LeO.ite ?_ ?_)
      | (with_reducible refine LeO.bind ?_ (fun _ => ?_))
      | exact interval_Minus.mono _ _ _
      | exact LeO.none _
      | refine LeO.ite ?_ ?_
      | refine LeO.bind ?_ (fun _ => ?_)
set_option maxHeartbeats 8000000 in
set_option maxRecDepth 100000 in
theorem interval_Subset.calls (k : Nat) (A0 : Option Addr) (c0 : Nat) (l0 : List (S33)) (A1 : Option Addr) (c1 : Nat) (l1 : List (S33)) (r : Bool) (w : World) (hr0 : Kd.C k33 w A0 l0.length l0) (hc0 : l0.length ≤ c0) (hr1 : Kd.C k33 w A1 l1.length l1) (hc1 : l1.length ≤ c1) (h : interval_Subset.f k l0 l1 = some r) :
 Calls Tryd.prog 19 #[.slice A0 l0.length c0, .slice A1 l1.length c1] w fun e w' => e = .returned (.bool r) ∧ Below w.heap.size w w' := by
 have HR0 := Aside0.mk hr0
 have HC0 := Aside0.mk hc0
 clear hr0 hc0
 have HR1 := Aside0.mk hr1
 have HC1 := Aside0.mk hc1
 clear hr1 hc1
 have HB := Aside0.mk (Below.refl w.heap.size w)
 unfold interval_Subset.f at h; have H := h
 clear h
 replace H := Option.bind_eq_some_iff.mp H
 obtain ⟨t475, A30, H⟩ := H
 try dsimp only at H
 have A3 := Aside0.mk A30
 clear A30
 obtain rfl := Option.some.inj H
 go_enter Tryd.func19, Tryd.ntmps19
 go_wp2_with (first | ((with_reducible refine gate_callee (f := 18) rfl ?_); refine goesL_ (some 7) rfl rfl Tryd.func18 (by kernel_rfl) rfl #[.slice A0 l0.length c0, .slice A1 l1.length c1] rfl (by (try simp only [List.map_toArray, List.map_cons, List.map_nil]); first | done | rfl | (simp only [List.length_drop, List.length_take]; rfl)) ?_; (with_reducible refine (interval_Minus.calls k _ _ l0 _ _ l1 t475 _ ?side1 ?side2 ?side3 ?side4 A3.out).mono ?_); (case side1 => repeat (first | exact HR0.out | (with_reducible refine Kd.C_alloc ?_ _) | (with_reducible refine Kd.C_drewN ?_ _) | (with_reducible refine Kd.C_drew ?_))); (case side2 => exact HC0.out); (case side3 => repeat (first | exact HR1.out | (with_reducible refine Kd.C_alloc ?_ _) | (with_reducible refine Kd.C_drewN ?_ _) | (with_reducible refine Kd.C_drew ?_))); (case side4 => exact HC1.out); rintro e w4 ⟨v476, rfl, ho0, hb⟩; refine ⟨_, rfl, ?_⟩; have HO477 := Aside0.mk (Kd.R_lower ho0 (below_size (zB HB))); replace HB := Aside0.mk (below_step (zB HB) hb); (try clear hb); (try clear ho0); obtain ⟨Ao5, co5, eo5⟩ := Kd.R_slice HO477.out; subst eo5))
 go_ret
 exact ⟨by first | rfl | (simp [errW_none, errW_some] <;> rfl) | (simp [*, errW_none, errW_some] <;> rfl), by repeat (first | (with_reducible first | exact HB.out | apply below_alloc | apply pw_below_drewN | apply below_drew1) | exact HB.out)⟩
end Go.Proofs.YtbimdjciacnioaaDoor.Q
end

section
namespace Go.Proofs.YtbimdjciacnioaaDoor.Q
open Go.RowKit Go.Proofs.YtbimdjciacnioaaDoorW.PrintWords Go.Proofs.YtbimdjciacnioaaDoorW.PrintLast Go.Proofs.YtbimdjciacnioaaDoorW.PrintMore
attribute [local go_sem] max2_int min2_int max_two min_two max_three min_three max_four min_four
set_option linter.unusedVariables false
set_option linter.unusedSimpArgs false
def intrusionlaw08_PortsetCanonical.f (k : Nat) (a0 : ByteArray) : Option (Bool) := if (a0.size : Int) > 1000 then ((intrusionlaw08_awake.f k).bind fun t478 => (some t478)) else ((portset_Parse.f k a0).bind fun bt479 => (if bt479.2 = 0 then (if a0.size + 3 ≤ 9223372036854775807 then ((portset_Parse.f k (a0 ++ (⟨#[44, 33, 48]⟩ : ByteArray))).bind fun bt484 => (if bt484.2 = 0 then ((interval_Minus.f k bt479.1 (([(⟨0, 0⟩ : S33)] : List (S33)))).bind fun t493 => ((intrusionlaw08_same.f k bt484.1 t493).bind fun t496 => (if t496 = true then ((portset_All.f).bind fun t497 => ((interval_Subset.f k bt479.1 t497).bind fun t500 => (if t500 = true then ((intrusionlaw08_awake.f k).bind fun t501 => (some t501)) else (some false)))) else (some false)))) else (if bt484.2 = 3 then ((intrusionlaw08_awake.f k).bind fun t488 => (some t488)) else (if bt484.2 = 14 then (if a0.toList = ([97, 110, 121] : List UInt8) then ((intrusionlaw08_awake.f k).bind fun t489 => (some t489)) else (some false)) else (some false))))) else (none)) else (if (bt479.1.length : Int) = 0 then ((intrusionlaw08_awake.f k).bind fun t483 => (some t483)) else (some false))))
theorem intrusionlaw08_PortsetCanonical.mono : ∀ a0 k, LeO (intrusionlaw08_PortsetCanonical.f k a0) (intrusionlaw08_PortsetCanonical.f (k + 1) a0) := by
  intro a0 k
  unfold intrusionlaw08_PortsetCanonical.f
  repeat' first
      | (with_reducible exact interval_Minus.mono _ _ _)
      | (with_reducible exact interval_Subset.mono _ _ _)
      | (with_reducible exact intrusionlaw08_awake.mono _)
      | (with_reducible exact intrusionlaw08_same.mono _ _ _)
      | (with_reducible exact portset_Parse.mono _ _)
      | (with_reducible exact LeO.refl _)
      | (with_reducible exact LeO.none _)
      | (with_reducible refine LeO.ite ?_ ?_)
      | (with_reducible refine LeO.bind ?_ (fun _ => ?_))
      | exact interval_Minus.mono _ _ _
      | exact interval_Subset.mono _ _ _
      | exact intrusionlaw08_awake.mono _
      | exact intrusionlaw08_same.mono _ _ _
      | exact portset_Parse.mono _ _
      | exact LeO.none _
      | refine LeO.ite ?_ ?_
      | refine LeO.bind ?_ (fun _ => ?_)
set_option maxHeartbeats 8000000 in
set_option maxRecDepth 100000 in
theorem intrusionlaw08_PortsetCanonical.calls (k : Nat) (a0 : ByteArray) (r : Bool) (w : World) (h : intrusionlaw08_PortsetCanonical.f k a0 = some r) (hW_ : WOK w) :
 Calls Tryd.prog 6 #[.string a0] w fun e w' => e = .returned (.bool r) ∧ Below w.heap.size w w' := by
 have hu33 := Tryd.underlying33
 have HB := Aside0.mk (Below.refl w.heap.size w)
 unfold intrusionlaw08_PortsetCanonical.f at h; have H := h
 clear h
 by_cases c2 : (a0.size : Int) > 1000
 · rw [if_pos c2] at H
   have c2b0 : decide (1000 < (a0.size : Int)) = true := decide_eq_true c2
   have c2b1 : decide (1000 < a0.size) = true := decide_eq_true (by omega)
   clear c2
   replace H := Option.bind_eq_some_iff.mp H
   obtain ⟨t478, A30, H⟩ := H
   try dsimp only at H
   have A3 := Aside0.mk A30
   clear A30
   obtain rfl := Option.some.inj H
   go_enter Tryd.func6, Tryd.ntmps6
   go_wp2_with (first | ((with_reducible refine gate_callee (f := 9) rfl ?_); refine goesL_ (some 10) rfl rfl Tryd.func9 (by kernel_rfl) rfl #[] rfl (by (try simp only [List.map_toArray, List.map_cons, List.map_nil]); first | done | rfl | (simp only [List.length_drop, List.length_take]; rfl)) ?_; (with_reducible refine (intrusionlaw08_awake.calls k  t478 _ A3.out (WOK.below hW_ (zB HB))).mono ?_); rintro e w4 ⟨rfl, hb⟩; refine ⟨_, rfl, ?_⟩; replace HB := Aside0.mk (below_step (zB HB) hb); (try clear hb)))
   go_ret
   exact ⟨by first | rfl | (simp [errW_none, errW_some] <;> rfl) | (simp [*, errW_none, errW_some] <;> rfl), by repeat (first | (with_reducible first | exact HB.out | apply below_alloc | apply pw_below_drewN | apply below_drew1) | exact HB.out)⟩
 · rw [if_neg c2] at H
   have c2b0 : decide (1000 < (a0.size : Int)) = false := decide_eq_false c2
   have c2b1 : decide (1000 < a0.size) = false := decide_eq_false (by omega)
   clear c2
   replace H := Option.bind_eq_some_iff.mp H
   obtain ⟨⟨t479, t480⟩, A50, H⟩ := H
   try dsimp only at H
   have A5 := Aside0.mk A50
   clear A50
   by_cases c6 : t480 = 0
   · rw [if_pos c6] at H
     have c6b0 : (t480 == 0) = true := beq_iff_eq.mpr c6
     have c6b1 : (t480 != 0) = false := bne_eq_false_iff_eq.mpr c6
     clear c6
     by_cases c7 : a0.size + 3 ≤ 9223372036854775807
     · rw [if_pos c7] at H
       have c7b0 := eq_true c7
       have c7b1 : decide (a0.size + 3 ≤ 9223372036854775807) = true := decide_eq_true c7
       try have c7b2 : (9223372036854775807 < a0.size + 3) = False := eq_false (Nat.not_lt.2 c7)
       replace H := Option.bind_eq_some_iff.mp H
       obtain ⟨⟨t484, t485⟩, A80, H⟩ := H
       try dsimp only at H
       have A8 := Aside0.mk A80
       clear A80
       by_cases c9 : t485 = 0
       · rw [if_pos c9] at H
         have c9b0 : (t485 == 0) = true := beq_iff_eq.mpr c9
         have c9b1 : (t485 != 0) = false := bne_eq_false_iff_eq.mpr c9
         clear c9
         obtain ⟨y490, hy490⟩ : ∃ y_ : List (S33), y_ = (([(⟨0, 0⟩ : S33)] : List (S33))) := ⟨_, rfl⟩
         rw [← hy490] at H; try dsimp only [Option.bind_some] at H
         have Ny490 := Aside0.mk hy490
         clear hy490
         replace H := Option.bind_eq_some_iff.mp H
         obtain ⟨t493, A100, H⟩ := H
         try dsimp only at H
         have A10 := Aside0.mk A100
         clear A100
         replace H := Option.bind_eq_some_iff.mp H
         obtain ⟨t496, A110, H⟩ := H
         try dsimp only at H
         have A11 := Aside0.mk A110
         clear A110
         by_cases c12 : t496 = true
         · subst c12
           rw [if_pos rfl] at H
           replace H := Option.bind_eq_some_iff.mp H
           obtain ⟨t497, A130, H⟩ := H
           try dsimp only at H
           have A13 := Aside0.mk A130
           clear A130
           replace H := Option.bind_eq_some_iff.mp H
           obtain ⟨t500, A140, H⟩ := H
           try dsimp only at H
           have A14 := Aside0.mk A140
           clear A140
           by_cases c15 : t500 = true
           · subst c15
             rw [if_pos rfl] at H
             replace H := Option.bind_eq_some_iff.mp H
             obtain ⟨t501, A160, H⟩ := H
             try dsimp only at H
             have A16 := Aside0.mk A160
             clear A160
             obtain rfl := Option.some.inj H
             go_enter Tryd.func6, Tryd.ntmps6
             go_wp2_with (first | ((with_reducible refine gate_callee (f := 10) rfl ?_); refine goesL_ (some 13) rfl rfl Tryd.func10 (by kernel_rfl) rfl #[.string a0] rfl (by (try simp only [List.map_toArray, List.map_cons, List.map_nil]); first | done | rfl | (simp only [List.length_drop, List.length_take]; rfl)) ?_; (with_reducible refine (portset_Parse.calls k a0 t479 t480 _ A5.out (WOK.below hW_ (zB HB))).mono ?_); rintro e w17 ⟨v481, rfl, ho0, hb⟩; refine ⟨_, rfl, ?_⟩; have HO482 := Aside0.mk (Kd.R_lower ho0 (below_size (zB HB))); replace HB := Aside0.mk (below_step (zB HB) hb); (try clear hb); (try clear ho0)) | ((with_reducible refine gate_callee (f := 10) rfl ?_); refine goesL_ (some 27) rfl rfl Tryd.func10 (by kernel_rfl) rfl #[.string (a0 ++ (⟨#[44, 33, 48]⟩ : ByteArray))] rfl (by (try simp only [List.map_toArray, List.map_cons, List.map_nil]); first | done | rfl | (simp only [List.length_drop, List.length_take]; rfl)) ?_; (with_reducible refine (portset_Parse.calls k (a0 ++ (⟨#[44, 33, 48]⟩ : ByteArray)) t484 t485 _ A8.out (WOK.below hW_ (zB HB))).mono ?_); rintro e w18 ⟨v486, rfl, ho0, hb⟩; refine ⟨_, rfl, ?_⟩; have HO487 := Aside0.mk (Kd.R_lower (Kd.R_new' ho0 (Kd.R_lt (zR HO482))) (below_size (zB HB))); replace HO482 := Aside0.mk (Kd.R_elder' (zR HO482) (Kd.R_base ho0) hb); replace HB := Aside0.mk (below_step (zB HB) hb); (try clear hb); (try clear ho0)) | ((with_reducible refine gate_dst (N := 48) rfl ?_); refine Kd.R_lit k33 _ 33 ?hg (N := 48) ?hd (xs := ([(⟨0, 0⟩ : S33)] : List (S33))) (inner := [.int .i64 0, .int .i64 0]) (ok := fun _ => True) (okp := fun _ => True) ?hr ?hp (fun _ hk => hk) trivial (Below.refl _ _) (Nat.le_refl _) (by simp) ?_; (case hd => rfl); (case hg => rfl); (case hr => first | (go_simp; done) | (go_simp; rfl)); (case hp => exact (Reps.c2 (show Kd.M k33 _ _ _ (⟨0, 0⟩ : S33) [.int .i64 0, .int .i64 0] from (k33_mkM _ _ _ (⟨0, 0⟩ : S33) )) (Reps.none _ _))); intro v491 w19 ho20 hb hg_ hnew_; clear hg_ hnew_; (first | rw [← Ny490.out] at ho20 | (simp only [Int.reduceToNat] at ho20; rw [← Ny490.out] at ho20)); have HO492 := Aside0.mk (Kd.R_lower (Kd.R_new' (Kd.R_new' ho20 (Kd.R_lt (zR HO482))) (Kd.R_lt (zR HO487))) (below_size (zB HB))); replace HO482 := Aside0.mk (Kd.R_elder' (zR HO482) (Kd.R_base ho20) hb); replace HO487 := Aside0.mk (Kd.R_elder' (zR HO487) (Kd.R_base ho20) hb); replace HB := Aside0.mk (below_step (zB HB) hb); clear hb ho20; obtain ⟨Ao21, co21, eo21⟩ := Kd.R_slice HO482.out; subst eo21; obtain ⟨Ao22, co22, eo22⟩ := Kd.R_slice HO492.out; subst eo22) | ((with_reducible refine gate_callee (f := 18) rfl ?_); refine goesL_ (some 49) rfl rfl Tryd.func18 (by kernel_rfl) rfl #[.slice Ao21 t479.length co21, .slice Ao22 y490.length co22] rfl (by (try simp only [List.map_toArray, List.map_cons, List.map_nil]); first | done | rfl | (simp only [List.length_drop, List.length_take]; rfl)) ?_; (with_reducible refine (interval_Minus.calls k _ _ t479 _ _ y490 t493 _ ?side1 ?side2 ?side3 ?side4 A10.out).mono ?_); (case side1 => repeat (first | exact (Kd.R_reads' HO482.out).2.2 | (with_reducible refine Kd.C_alloc ?_ _) | (with_reducible refine Kd.C_drewN ?_ _) | (with_reducible refine Kd.C_drew ?_))); (case side2 => exact (Kd.R_reads' HO482.out).2.1); (case side3 => repeat (first | exact (Kd.R_reads' HO492.out).2.2 | (with_reducible refine Kd.C_alloc ?_ _) | (with_reducible refine Kd.C_drewN ?_ _) | (with_reducible refine Kd.C_drew ?_))); (case side4 => exact (Kd.R_reads' HO492.out).2.1); rintro e w23 ⟨v494, rfl, ho0, hb⟩; refine ⟨_, rfl, ?_⟩; have HO495 := Aside0.mk (Kd.R_lower (Kd.R_new' (Kd.R_new' (Kd.R_new' ho0 (Kd.R_lt (zR HO482))) (Kd.R_lt (zR HO487))) (Kd.R_lt (zR HO492))) (below_size (zB HB))); replace HO482 := Aside0.mk (Kd.R_elder' (zR HO482) (Kd.R_base ho0) hb); replace HO487 := Aside0.mk (Kd.R_elder' (zR HO487) (Kd.R_base ho0) hb); replace HO492 := Aside0.mk (Kd.R_elder' (zR HO492) (Kd.R_base ho0) hb); replace HB := Aside0.mk (below_step (zB HB) hb); (try clear hb); (try clear ho0); obtain ⟨Ao24, co24, eo24⟩ := Kd.R_slice HO487.out; subst eo24; obtain ⟨Ao25, co25, eo25⟩ := Kd.R_slice HO495.out; subst eo25) | ((with_reducible refine gate_callee (f := 12) rfl ?_); refine goesL_ (some 50) rfl rfl Tryd.func12 (by kernel_rfl) rfl #[.slice Ao24 t484.length co24, .slice Ao25 t493.length co25] rfl (by (try simp only [List.map_toArray, List.map_cons, List.map_nil]); first | done | rfl | (simp only [List.length_drop, List.length_take]; rfl)) ?_; (with_reducible refine (intrusionlaw08_same.calls k _ _ t484 _ _ t493 true _ ?side1 ?side2 ?side3 ?side4 A11.out).mono ?_); (case side1 => repeat (first | exact (Kd.R_reads' HO487.out).2.2 | (with_reducible refine Kd.C_alloc ?_ _) | (with_reducible refine Kd.C_drewN ?_ _) | (with_reducible refine Kd.C_drew ?_))); (case side2 => exact (Kd.R_reads' HO487.out).2.1); (case side3 => repeat (first | exact (Kd.R_reads' HO495.out).2.2 | (with_reducible refine Kd.C_alloc ?_ _) | (with_reducible refine Kd.C_drewN ?_ _) | (with_reducible refine Kd.C_drew ?_))); (case side4 => exact (Kd.R_reads' HO495.out).2.1); rintro e w' ⟨rfl, ⟨nd, rfl⟩⟩; refine ⟨_, rfl, ?_⟩) | (go_at_call 20; (with_reducible refine (portset_All.calls  t497 _ A13.out).mono ?_); rintro e w26 ⟨v498, rfl, ho0, hb⟩; have HO499 := Aside0.mk (Kd.R_lower (Kd.R_new' (Kd.R_new' (Kd.R_new' (Kd.R_new' ho0 (Kd.R_lt (zR HO482))) (Kd.R_lt (zR HO487))) (Kd.R_lt (zR HO492))) (Kd.R_lt (zR HO495))) (below_size (zB HB))); replace HO482 := Aside0.mk (Kd.R_elder' (zR HO482) (Kd.R_base ho0) hb); replace HO487 := Aside0.mk (Kd.R_elder' (zR HO487) (Kd.R_base ho0) hb); replace HO492 := Aside0.mk (Kd.R_elder' (zR HO492) (Kd.R_base ho0) hb); replace HO495 := Aside0.mk (Kd.R_elder' (zR HO495) (Kd.R_base ho0) hb); replace HB := Aside0.mk (below_step (zB HB) hb); (try clear hb); (try clear ho0); obtain ⟨Ao27, co27, eo27⟩ := Kd.R_slice HO499.out; subst eo27) | (go_at_call 19; (with_reducible refine (interval_Subset.calls k _ _ t479 _ _ t497 true _ ?side1 ?side2 ?side3 ?side4 A14.out).mono ?_); (case side1 => repeat (first | exact (Kd.R_reads' HO482.out).2.2 | (with_reducible refine Kd.C_alloc ?_ _) | (with_reducible refine Kd.C_drewN ?_ _) | (with_reducible refine Kd.C_drew ?_))); (case side2 => exact (Kd.R_reads' HO482.out).2.1); (case side3 => repeat (first | exact (Kd.R_reads' HO499.out).2.2 | (with_reducible refine Kd.C_alloc ?_ _) | (with_reducible refine Kd.C_drewN ?_ _) | (with_reducible refine Kd.C_drew ?_))); (case side4 => exact (Kd.R_reads' HO499.out).2.1); rintro e w28 ⟨rfl, hb⟩; replace HO482 := Aside0.mk (Kd.R_below (zR HO482) hb); replace HO487 := Aside0.mk (Kd.R_below (zR HO487) hb); replace HO492 := Aside0.mk (Kd.R_below (zR HO492) hb); replace HO495 := Aside0.mk (Kd.R_below (zR HO495) hb); replace HO499 := Aside0.mk (Kd.R_below (zR HO499) hb); replace HB := Aside0.mk (below_step (zB HB) hb); (try clear hb)) | (go_at_call 9; (with_reducible refine (intrusionlaw08_awake.calls k  t501 _ A16.out (WOK.below hW_ (zB HB))).mono ?_); rintro e w29 ⟨rfl, hb⟩; replace HO482 := Aside0.mk (Kd.R_below (zR HO482) hb); replace HO487 := Aside0.mk (Kd.R_below (zR HO487) hb); replace HO492 := Aside0.mk (Kd.R_below (zR HO492) hb); replace HO495 := Aside0.mk (Kd.R_below (zR HO495) hb); replace HO499 := Aside0.mk (Kd.R_below (zR HO499) hb); replace HB := Aside0.mk (below_step (zB HB) hb); (try clear hb)))
             go_ret
             exact ⟨by first | rfl | (simp [errW_none, errW_some] <;> rfl) | (simp [*, errW_none, errW_some] <;> rfl), by repeat (first | (with_reducible first | exact HB.out | apply below_alloc | apply pw_below_drewN | apply below_drew1) | exact HB.out)⟩
           · replace c15 := Bool.eq_false_iff.mpr c15
             subst c15
             rw [if_neg zF] at H
             obtain rfl := Option.some.inj H
             go_enter Tryd.func6, Tryd.ntmps6
             go_wp2_with (first | ((with_reducible refine gate_callee (f := 10) rfl ?_); refine goesL_ (some 13) rfl rfl Tryd.func10 (by kernel_rfl) rfl #[.string a0] rfl (by (try simp only [List.map_toArray, List.map_cons, List.map_nil]); first | done | rfl | (simp only [List.length_drop, List.length_take]; rfl)) ?_; (with_reducible refine (portset_Parse.calls k a0 t479 t480 _ A5.out (WOK.below hW_ (zB HB))).mono ?_); rintro e w30 ⟨v481, rfl, ho0, hb⟩; refine ⟨_, rfl, ?_⟩; have HO482 := Aside0.mk (Kd.R_lower ho0 (below_size (zB HB))); replace HB := Aside0.mk (below_step (zB HB) hb); (try clear hb); (try clear ho0)) | ((with_reducible refine gate_callee (f := 10) rfl ?_); refine goesL_ (some 27) rfl rfl Tryd.func10 (by kernel_rfl) rfl #[.string (a0 ++ (⟨#[44, 33, 48]⟩ : ByteArray))] rfl (by (try simp only [List.map_toArray, List.map_cons, List.map_nil]); first | done | rfl | (simp only [List.length_drop, List.length_take]; rfl)) ?_; (with_reducible refine (portset_Parse.calls k (a0 ++ (⟨#[44, 33, 48]⟩ : ByteArray)) t484 t485 _ A8.out (WOK.below hW_ (zB HB))).mono ?_); rintro e w31 ⟨v486, rfl, ho0, hb⟩; refine ⟨_, rfl, ?_⟩; have HO487 := Aside0.mk (Kd.R_lower (Kd.R_new' ho0 (Kd.R_lt (zR HO482))) (below_size (zB HB))); replace HO482 := Aside0.mk (Kd.R_elder' (zR HO482) (Kd.R_base ho0) hb); replace HB := Aside0.mk (below_step (zB HB) hb); (try clear hb); (try clear ho0)) | ((with_reducible refine gate_dst (N := 48) rfl ?_); refine Kd.R_lit k33 _ 33 ?hg (N := 48) ?hd (xs := ([(⟨0, 0⟩ : S33)] : List (S33))) (inner := [.int .i64 0, .int .i64 0]) (ok := fun _ => True) (okp := fun _ => True) ?hr ?hp (fun _ hk => hk) trivial (Below.refl _ _) (Nat.le_refl _) (by simp) ?_; (case hd => rfl); (case hg => rfl); (case hr => first | (go_simp; done) | (go_simp; rfl)); (case hp => exact (Reps.c2 (show Kd.M k33 _ _ _ (⟨0, 0⟩ : S33) [.int .i64 0, .int .i64 0] from (k33_mkM _ _ _ (⟨0, 0⟩ : S33) )) (Reps.none _ _))); intro v491 w32 ho33 hb hg_ hnew_; clear hg_ hnew_; (first | rw [← Ny490.out] at ho33 | (simp only [Int.reduceToNat] at ho33; rw [← Ny490.out] at ho33)); have HO492 := Aside0.mk (Kd.R_lower (Kd.R_new' (Kd.R_new' ho33 (Kd.R_lt (zR HO482))) (Kd.R_lt (zR HO487))) (below_size (zB HB))); replace HO482 := Aside0.mk (Kd.R_elder' (zR HO482) (Kd.R_base ho33) hb); replace HO487 := Aside0.mk (Kd.R_elder' (zR HO487) (Kd.R_base ho33) hb); replace HB := Aside0.mk (below_step (zB HB) hb); clear hb ho33; obtain ⟨Ao34, co34, eo34⟩ := Kd.R_slice HO482.out; subst eo34; obtain ⟨Ao35, co35, eo35⟩ := Kd.R_slice HO492.out; subst eo35) | ((with_reducible refine gate_callee (f := 18) rfl ?_); refine goesL_ (some 49) rfl rfl Tryd.func18 (by kernel_rfl) rfl #[.slice Ao34 t479.length co34, .slice Ao35 y490.length co35] rfl (by (try simp only [List.map_toArray, List.map_cons, List.map_nil]); first | done | rfl | (simp only [List.length_drop, List.length_take]; rfl)) ?_; (with_reducible refine (interval_Minus.calls k _ _ t479 _ _ y490 t493 _ ?side1 ?side2 ?side3 ?side4 A10.out).mono ?_); (case side1 => repeat (first | exact (Kd.R_reads' HO482.out).2.2 | (with_reducible refine Kd.C_alloc ?_ _) | (with_reducible refine Kd.C_drewN ?_ _) | (with_reducible refine Kd.C_drew ?_))); (case side2 => exact (Kd.R_reads' HO482.out).2.1); (case side3 => repeat (first | exact (Kd.R_reads' HO492.out).2.2 | (with_reducible refine Kd.C_alloc ?_ _) | (with_reducible refine Kd.C_drewN ?_ _) | (with_reducible refine Kd.C_drew ?_))); (case side4 => exact (Kd.R_reads' HO492.out).2.1); rintro e w36 ⟨v494, rfl, ho0, hb⟩; refine ⟨_, rfl, ?_⟩; have HO495 := Aside0.mk (Kd.R_lower (Kd.R_new' (Kd.R_new' (Kd.R_new' ho0 (Kd.R_lt (zR HO482))) (Kd.R_lt (zR HO487))) (Kd.R_lt (zR HO492))) (below_size (zB HB))); replace HO482 := Aside0.mk (Kd.R_elder' (zR HO482) (Kd.R_base ho0) hb); replace HO487 := Aside0.mk (Kd.R_elder' (zR HO487) (Kd.R_base ho0) hb); replace HO492 := Aside0.mk (Kd.R_elder' (zR HO492) (Kd.R_base ho0) hb); replace HB := Aside0.mk (below_step (zB HB) hb); (try clear hb); (try clear ho0); obtain ⟨Ao37, co37, eo37⟩ := Kd.R_slice HO487.out; subst eo37; obtain ⟨Ao38, co38, eo38⟩ := Kd.R_slice HO495.out; subst eo38) | ((with_reducible refine gate_callee (f := 12) rfl ?_); refine goesL_ (some 50) rfl rfl Tryd.func12 (by kernel_rfl) rfl #[.slice Ao37 t484.length co37, .slice Ao38 t493.length co38] rfl (by (try simp only [List.map_toArray, List.map_cons, List.map_nil]); first | done | rfl | (simp only [List.length_drop, List.length_take]; rfl)) ?_; (with_reducible refine (intrusionlaw08_same.calls k _ _ t484 _ _ t493 true _ ?side1 ?side2 ?side3 ?side4 A11.out).mono ?_); (case side1 => repeat (first | exact (Kd.R_reads' HO487.out).2.2 | (with_reducible refine Kd.C_alloc ?_ _) | (with_reducible refine Kd.C_drewN ?_ _) | (with_reducible refine Kd.C_drew ?_))); (case side2 => exact (Kd.R_reads' HO487.out).2.1); (case side3 => repeat (first | exact (Kd.R_reads' HO495.out).2.2 | (with_reducible refine Kd.C_alloc ?_ _) | (with_reducible refine Kd.C_drewN ?_ _) | (with_reducible refine Kd.C_drew ?_))); (case side4 => exact (Kd.R_reads' HO495.out).2.1); rintro e w' ⟨rfl, ⟨nd, rfl⟩⟩; refine ⟨_, rfl, ?_⟩) | (go_at_call 20; (with_reducible refine (portset_All.calls  t497 _ A13.out).mono ?_); rintro e w39 ⟨v498, rfl, ho0, hb⟩; have HO499 := Aside0.mk (Kd.R_lower (Kd.R_new' (Kd.R_new' (Kd.R_new' (Kd.R_new' ho0 (Kd.R_lt (zR HO482))) (Kd.R_lt (zR HO487))) (Kd.R_lt (zR HO492))) (Kd.R_lt (zR HO495))) (below_size (zB HB))); replace HO482 := Aside0.mk (Kd.R_elder' (zR HO482) (Kd.R_base ho0) hb); replace HO487 := Aside0.mk (Kd.R_elder' (zR HO487) (Kd.R_base ho0) hb); replace HO492 := Aside0.mk (Kd.R_elder' (zR HO492) (Kd.R_base ho0) hb); replace HO495 := Aside0.mk (Kd.R_elder' (zR HO495) (Kd.R_base ho0) hb); replace HB := Aside0.mk (below_step (zB HB) hb); (try clear hb); (try clear ho0); obtain ⟨Ao40, co40, eo40⟩ := Kd.R_slice HO499.out; subst eo40) | (go_at_call 19; (with_reducible refine (interval_Subset.calls k _ _ t479 _ _ t497 false _ ?side1 ?side2 ?side3 ?side4 A14.out).mono ?_); (case side1 => repeat (first | exact (Kd.R_reads' HO482.out).2.2 | (with_reducible refine Kd.C_alloc ?_ _) | (with_reducible refine Kd.C_drewN ?_ _) | (with_reducible refine Kd.C_drew ?_))); (case side2 => exact (Kd.R_reads' HO482.out).2.1); (case side3 => repeat (first | exact (Kd.R_reads' HO499.out).2.2 | (with_reducible refine Kd.C_alloc ?_ _) | (with_reducible refine Kd.C_drewN ?_ _) | (with_reducible refine Kd.C_drew ?_))); (case side4 => exact (Kd.R_reads' HO499.out).2.1); rintro e w41 ⟨rfl, hb⟩; replace HO482 := Aside0.mk (Kd.R_below (zR HO482) hb); replace HO487 := Aside0.mk (Kd.R_below (zR HO487) hb); replace HO492 := Aside0.mk (Kd.R_below (zR HO492) hb); replace HO495 := Aside0.mk (Kd.R_below (zR HO495) hb); replace HO499 := Aside0.mk (Kd.R_below (zR HO499) hb); replace HB := Aside0.mk (below_step (zB HB) hb); (try clear hb)))
             go_ret
             exact ⟨by first | rfl | (simp [errW_none, errW_some] <;> rfl) | (simp [*, errW_none, errW_some] <;> rfl), by repeat (first | (with_reducible first | exact HB.out | apply below_alloc | apply pw_below_drewN | apply below_drew1) | exact HB.out)⟩
         · replace c12 := Bool.eq_false_iff.mpr c12
           subst c12
           rw [if_neg zF] at H
           obtain rfl := Option.some.inj H
           go_enter Tryd.func6, Tryd.ntmps6
           go_wp2_with (first | ((with_reducible refine gate_callee (f := 10) rfl ?_); refine goesL_ (some 13) rfl rfl Tryd.func10 (by kernel_rfl) rfl #[.string a0] rfl (by (try simp only [List.map_toArray, List.map_cons, List.map_nil]); first | done | rfl | (simp only [List.length_drop, List.length_take]; rfl)) ?_; (with_reducible refine (portset_Parse.calls k a0 t479 t480 _ A5.out (WOK.below hW_ (zB HB))).mono ?_); rintro e w42 ⟨v481, rfl, ho0, hb⟩; refine ⟨_, rfl, ?_⟩; have HO482 := Aside0.mk (Kd.R_lower ho0 (below_size (zB HB))); replace HB := Aside0.mk (below_step (zB HB) hb); (try clear hb); (try clear ho0)) | ((with_reducible refine gate_callee (f := 10) rfl ?_); refine goesL_ (some 27) rfl rfl Tryd.func10 (by kernel_rfl) rfl #[.string (a0 ++ (⟨#[44, 33, 48]⟩ : ByteArray))] rfl (by (try simp only [List.map_toArray, List.map_cons, List.map_nil]); first | done | rfl | (simp only [List.length_drop, List.length_take]; rfl)) ?_; (with_reducible refine (portset_Parse.calls k (a0 ++ (⟨#[44, 33, 48]⟩ : ByteArray)) t484 t485 _ A8.out (WOK.below hW_ (zB HB))).mono ?_); rintro e w43 ⟨v486, rfl, ho0, hb⟩; refine ⟨_, rfl, ?_⟩; have HO487 := Aside0.mk (Kd.R_lower (Kd.R_new' ho0 (Kd.R_lt (zR HO482))) (below_size (zB HB))); replace HO482 := Aside0.mk (Kd.R_elder' (zR HO482) (Kd.R_base ho0) hb); replace HB := Aside0.mk (below_step (zB HB) hb); (try clear hb); (try clear ho0)) | ((with_reducible refine gate_dst (N := 48) rfl ?_); refine Kd.R_lit k33 _ 33 ?hg (N := 48) ?hd (xs := ([(⟨0, 0⟩ : S33)] : List (S33))) (inner := [.int .i64 0, .int .i64 0]) (ok := fun _ => True) (okp := fun _ => True) ?hr ?hp (fun _ hk => hk) trivial (Below.refl _ _) (Nat.le_refl _) (by simp) ?_; (case hd => rfl); (case hg => rfl); (case hr => first | (go_simp; done) | (go_simp; rfl)); (case hp => exact (Reps.c2 (show Kd.M k33 _ _ _ (⟨0, 0⟩ : S33) [.int .i64 0, .int .i64 0] from (k33_mkM _ _ _ (⟨0, 0⟩ : S33) )) (Reps.none _ _))); intro v491 w44 ho45 hb hg_ hnew_; clear hg_ hnew_; (first | rw [← Ny490.out] at ho45 | (simp only [Int.reduceToNat] at ho45; rw [← Ny490.out] at ho45)); have HO492 := Aside0.mk (Kd.R_lower (Kd.R_new' (Kd.R_new' ho45 (Kd.R_lt (zR HO482))) (Kd.R_lt (zR HO487))) (below_size (zB HB))); replace HO482 := Aside0.mk (Kd.R_elder' (zR HO482) (Kd.R_base ho45) hb); replace HO487 := Aside0.mk (Kd.R_elder' (zR HO487) (Kd.R_base ho45) hb); replace HB := Aside0.mk (below_step (zB HB) hb); clear hb ho45; obtain ⟨Ao46, co46, eo46⟩ := Kd.R_slice HO482.out; subst eo46; obtain ⟨Ao47, co47, eo47⟩ := Kd.R_slice HO492.out; subst eo47) | ((with_reducible refine gate_callee (f := 18) rfl ?_); refine goesL_ (some 49) rfl rfl Tryd.func18 (by kernel_rfl) rfl #[.slice Ao46 t479.length co46, .slice Ao47 y490.length co47] rfl (by (try simp only [List.map_toArray, List.map_cons, List.map_nil]); first | done | rfl | (simp only [List.length_drop, List.length_take]; rfl)) ?_; (with_reducible refine (interval_Minus.calls k _ _ t479 _ _ y490 t493 _ ?side1 ?side2 ?side3 ?side4 A10.out).mono ?_); (case side1 => repeat (first | exact (Kd.R_reads' HO482.out).2.2 | (with_reducible refine Kd.C_alloc ?_ _) | (with_reducible refine Kd.C_drewN ?_ _) | (with_reducible refine Kd.C_drew ?_))); (case side2 => exact (Kd.R_reads' HO482.out).2.1); (case side3 => repeat (first | exact (Kd.R_reads' HO492.out).2.2 | (with_reducible refine Kd.C_alloc ?_ _) | (with_reducible refine Kd.C_drewN ?_ _) | (with_reducible refine Kd.C_drew ?_))); (case side4 => exact (Kd.R_reads' HO492.out).2.1); rintro e w48 ⟨v494, rfl, ho0, hb⟩; refine ⟨_, rfl, ?_⟩; have HO495 := Aside0.mk (Kd.R_lower (Kd.R_new' (Kd.R_new' (Kd.R_new' ho0 (Kd.R_lt (zR HO482))) (Kd.R_lt (zR HO487))) (Kd.R_lt (zR HO492))) (below_size (zB HB))); replace HO482 := Aside0.mk (Kd.R_elder' (zR HO482) (Kd.R_base ho0) hb); replace HO487 := Aside0.mk (Kd.R_elder' (zR HO487) (Kd.R_base ho0) hb); replace HO492 := Aside0.mk (Kd.R_elder' (zR HO492) (Kd.R_base ho0) hb); replace HB := Aside0.mk (below_step (zB HB) hb); (try clear hb); (try clear ho0); obtain ⟨Ao49, co49, eo49⟩ := Kd.R_slice HO487.out; subst eo49; obtain ⟨Ao50, co50, eo50⟩ := Kd.R_slice HO495.out; subst eo50) | ((with_reducible refine gate_callee (f := 12) rfl ?_); refine goesL_ (some 50) rfl rfl Tryd.func12 (by kernel_rfl) rfl #[.slice Ao49 t484.length co49, .slice Ao50 t493.length co50] rfl (by (try simp only [List.map_toArray, List.map_cons, List.map_nil]); first | done | rfl | (simp only [List.length_drop, List.length_take]; rfl)) ?_; (with_reducible refine (intrusionlaw08_same.calls k _ _ t484 _ _ t493 false _ ?side1 ?side2 ?side3 ?side4 A11.out).mono ?_); (case side1 => repeat (first | exact (Kd.R_reads' HO487.out).2.2 | (with_reducible refine Kd.C_alloc ?_ _) | (with_reducible refine Kd.C_drewN ?_ _) | (with_reducible refine Kd.C_drew ?_))); (case side2 => exact (Kd.R_reads' HO487.out).2.1); (case side3 => repeat (first | exact (Kd.R_reads' HO495.out).2.2 | (with_reducible refine Kd.C_alloc ?_ _) | (with_reducible refine Kd.C_drewN ?_ _) | (with_reducible refine Kd.C_drew ?_))); (case side4 => exact (Kd.R_reads' HO495.out).2.1); rintro e w' ⟨rfl, ⟨nd, rfl⟩⟩; refine ⟨_, rfl, ?_⟩))
           go_ret
           exact ⟨by first | rfl | (simp [errW_none, errW_some] <;> rfl) | (simp [*, errW_none, errW_some] <;> rfl), by repeat (first | (with_reducible first | exact HB.out | apply below_alloc | apply pw_below_drewN | apply below_drew1) | exact HB.out)⟩
       · rw [if_neg c9] at H
         have c9b0 : (t485 == 0) = false := beq_eq_false_iff_ne.mpr c9
         have c9b1 : (t485 != 0) = true := bne_iff_ne.mpr c9
         by_cases c51 : t485 = 3
         · rw [if_pos c51] at H
           have c51b0 : (t485 == 3) = true := beq_iff_eq.mpr c51
           have c51b1 : (t485 != 3) = false := bne_eq_false_iff_eq.mpr c51
           clear c51
           replace H := Option.bind_eq_some_iff.mp H
           obtain ⟨t488, A520, H⟩ := H
           try dsimp only at H
           have A52 := Aside0.mk A520
           clear A520
           obtain rfl := Option.some.inj H
           go_enter Tryd.func6, Tryd.ntmps6
           go_wp2_with (first | ((with_reducible refine gate_callee (f := 10) rfl ?_); refine goesL_ (some 13) rfl rfl Tryd.func10 (by kernel_rfl) rfl #[.string a0] rfl (by (try simp only [List.map_toArray, List.map_cons, List.map_nil]); first | done | rfl | (simp only [List.length_drop, List.length_take]; rfl)) ?_; (with_reducible refine (portset_Parse.calls k a0 t479 t480 _ A5.out (WOK.below hW_ (zB HB))).mono ?_); rintro e w53 ⟨v481, rfl, ho0, hb⟩; refine ⟨_, rfl, ?_⟩; have HO482 := Aside0.mk (Kd.R_lower ho0 (below_size (zB HB))); replace HB := Aside0.mk (below_step (zB HB) hb); (try clear hb); (try clear ho0)) | ((with_reducible refine gate_callee (f := 10) rfl ?_); refine goesL_ (some 27) rfl rfl Tryd.func10 (by kernel_rfl) rfl #[.string (a0 ++ (⟨#[44, 33, 48]⟩ : ByteArray))] rfl (by (try simp only [List.map_toArray, List.map_cons, List.map_nil]); first | done | rfl | (simp only [List.length_drop, List.length_take]; rfl)) ?_; (with_reducible refine (portset_Parse.calls k (a0 ++ (⟨#[44, 33, 48]⟩ : ByteArray)) t484 t485 _ A8.out (WOK.below hW_ (zB HB))).mono ?_); rintro e w54 ⟨v486, rfl, ho0, hb⟩; refine ⟨_, rfl, ?_⟩; have HO487 := Aside0.mk (Kd.R_lower (Kd.R_new' ho0 (Kd.R_lt (zR HO482))) (below_size (zB HB))); replace HO482 := Aside0.mk (Kd.R_elder' (zR HO482) (Kd.R_base ho0) hb); replace HB := Aside0.mk (below_step (zB HB) hb); (try clear hb); (try clear ho0)) | (go_at_call 9; (with_reducible refine (intrusionlaw08_awake.calls k  t488 _ A52.out (WOK.below hW_ (zB HB))).mono ?_); rintro e w55 ⟨rfl, hb⟩; replace HO482 := Aside0.mk (Kd.R_below (zR HO482) hb); replace HO487 := Aside0.mk (Kd.R_below (zR HO487) hb); replace HB := Aside0.mk (below_step (zB HB) hb); (try clear hb)))
           go_ret
           exact ⟨by first | rfl | (simp [errW_none, errW_some] <;> rfl) | (simp [*, errW_none, errW_some] <;> rfl), by repeat (first | (with_reducible first | exact HB.out | apply below_alloc | apply pw_below_drewN | apply below_drew1) | exact HB.out)⟩
         · rw [if_neg c51] at H
           have c51b0 : (t485 == 3) = false := beq_eq_false_iff_ne.mpr c51
           have c51b1 : (t485 != 3) = true := bne_iff_ne.mpr c51
           by_cases c56 : t485 = 14
           · rw [if_pos c56] at H
             have c56b0 : (t485 == 14) = true := beq_iff_eq.mpr c56
             have c56b1 : (t485 != 14) = false := bne_eq_false_iff_eq.mpr c56
             clear c56
             by_cases c57 : a0.toList = ([97, 110, 121] : List UInt8)
             · rw [if_pos c57] at H
               have c57b0 : (a0.toList == ([97, 110, 121] : List UInt8)) = true := beq_iff_eq.mpr c57
               have c57b1 : (a0.toList != ([97, 110, 121] : List UInt8)) = false := bne_eq_false_iff_eq.mpr c57
               clear c57
               replace H := Option.bind_eq_some_iff.mp H
               obtain ⟨t489, A580, H⟩ := H
               try dsimp only at H
               have A58 := Aside0.mk A580
               clear A580
               obtain rfl := Option.some.inj H
               go_enter Tryd.func6, Tryd.ntmps6
               go_wp2_with (first | ((with_reducible refine gate_callee (f := 10) rfl ?_); refine goesL_ (some 13) rfl rfl Tryd.func10 (by kernel_rfl) rfl #[.string a0] rfl (by (try simp only [List.map_toArray, List.map_cons, List.map_nil]); first | done | rfl | (simp only [List.length_drop, List.length_take]; rfl)) ?_; (with_reducible refine (portset_Parse.calls k a0 t479 t480 _ A5.out (WOK.below hW_ (zB HB))).mono ?_); rintro e w59 ⟨v481, rfl, ho0, hb⟩; refine ⟨_, rfl, ?_⟩; have HO482 := Aside0.mk (Kd.R_lower ho0 (below_size (zB HB))); replace HB := Aside0.mk (below_step (zB HB) hb); (try clear hb); (try clear ho0)) | ((with_reducible refine gate_callee (f := 10) rfl ?_); refine goesL_ (some 27) rfl rfl Tryd.func10 (by kernel_rfl) rfl #[.string (a0 ++ (⟨#[44, 33, 48]⟩ : ByteArray))] rfl (by (try simp only [List.map_toArray, List.map_cons, List.map_nil]); first | done | rfl | (simp only [List.length_drop, List.length_take]; rfl)) ?_; (with_reducible refine (portset_Parse.calls k (a0 ++ (⟨#[44, 33, 48]⟩ : ByteArray)) t484 t485 _ A8.out (WOK.below hW_ (zB HB))).mono ?_); rintro e w60 ⟨v486, rfl, ho0, hb⟩; refine ⟨_, rfl, ?_⟩; have HO487 := Aside0.mk (Kd.R_lower (Kd.R_new' ho0 (Kd.R_lt (zR HO482))) (below_size (zB HB))); replace HO482 := Aside0.mk (Kd.R_elder' (zR HO482) (Kd.R_base ho0) hb); replace HB := Aside0.mk (below_step (zB HB) hb); (try clear hb); (try clear ho0)) | (go_at_call 9; (with_reducible refine (intrusionlaw08_awake.calls k  t489 _ A58.out (WOK.below hW_ (zB HB))).mono ?_); rintro e w61 ⟨rfl, hb⟩; replace HO482 := Aside0.mk (Kd.R_below (zR HO482) hb); replace HO487 := Aside0.mk (Kd.R_below (zR HO487) hb); replace HB := Aside0.mk (below_step (zB HB) hb); (try clear hb)))
               go_ret
               exact ⟨by first | rfl | (simp [errW_none, errW_some] <;> rfl) | (simp [*, errW_none, errW_some] <;> rfl), by repeat (first | (with_reducible first | exact HB.out | apply below_alloc | apply pw_below_drewN | apply below_drew1) | exact HB.out)⟩
             · rw [if_neg c57] at H
               have c57b0 : (a0.toList == ([97, 110, 121] : List UInt8)) = false := beq_eq_false_iff_ne.mpr c57
               have c57b1 : (a0.toList != ([97, 110, 121] : List UInt8)) = true := bne_iff_ne.mpr c57
               obtain rfl := Option.some.inj H
               go_enter Tryd.func6, Tryd.ntmps6
               go_wp2_with (first | ((with_reducible refine gate_callee (f := 10) rfl ?_); refine goesL_ (some 13) rfl rfl Tryd.func10 (by kernel_rfl) rfl #[.string a0] rfl (by (try simp only [List.map_toArray, List.map_cons, List.map_nil]); first | done | rfl | (simp only [List.length_drop, List.length_take]; rfl)) ?_; (with_reducible refine (portset_Parse.calls k a0 t479 t480 _ A5.out (WOK.below hW_ (zB HB))).mono ?_); rintro e w62 ⟨v481, rfl, ho0, hb⟩; refine ⟨_, rfl, ?_⟩; have HO482 := Aside0.mk (Kd.R_lower ho0 (below_size (zB HB))); replace HB := Aside0.mk (below_step (zB HB) hb); (try clear hb); (try clear ho0)) | ((with_reducible refine gate_callee (f := 10) rfl ?_); refine goesL_ (some 27) rfl rfl Tryd.func10 (by kernel_rfl) rfl #[.string (a0 ++ (⟨#[44, 33, 48]⟩ : ByteArray))] rfl (by (try simp only [List.map_toArray, List.map_cons, List.map_nil]); first | done | rfl | (simp only [List.length_drop, List.length_take]; rfl)) ?_; (with_reducible refine (portset_Parse.calls k (a0 ++ (⟨#[44, 33, 48]⟩ : ByteArray)) t484 t485 _ A8.out (WOK.below hW_ (zB HB))).mono ?_); rintro e w63 ⟨v486, rfl, ho0, hb⟩; refine ⟨_, rfl, ?_⟩; have HO487 := Aside0.mk (Kd.R_lower (Kd.R_new' ho0 (Kd.R_lt (zR HO482))) (below_size (zB HB))); replace HO482 := Aside0.mk (Kd.R_elder' (zR HO482) (Kd.R_base ho0) hb); replace HB := Aside0.mk (below_step (zB HB) hb); (try clear hb); (try clear ho0)))
               go_ret
               exact ⟨by first | rfl | (simp [errW_none, errW_some] <;> rfl) | (simp [*, errW_none, errW_some] <;> rfl), by repeat (first | (with_reducible first | exact HB.out | apply below_alloc | apply pw_below_drewN | apply below_drew1) | exact HB.out)⟩
           · rw [if_neg c56] at H
             have c56b0 : (t485 == 14) = false := beq_eq_false_iff_ne.mpr c56
             have c56b1 : (t485 != 14) = true := bne_iff_ne.mpr c56
             obtain rfl := Option.some.inj H
             go_enter Tryd.func6, Tryd.ntmps6
             go_wp2_with (first | ((with_reducible refine gate_callee (f := 10) rfl ?_); refine goesL_ (some 13) rfl rfl Tryd.func10 (by kernel_rfl) rfl #[.string a0] rfl (by (try simp only [List.map_toArray, List.map_cons, List.map_nil]); first | done | rfl | (simp only [List.length_drop, List.length_take]; rfl)) ?_; (with_reducible refine (portset_Parse.calls k a0 t479 t480 _ A5.out (WOK.below hW_ (zB HB))).mono ?_); rintro e w64 ⟨v481, rfl, ho0, hb⟩; refine ⟨_, rfl, ?_⟩; have HO482 := Aside0.mk (Kd.R_lower ho0 (below_size (zB HB))); replace HB := Aside0.mk (below_step (zB HB) hb); (try clear hb); (try clear ho0)) | ((with_reducible refine gate_callee (f := 10) rfl ?_); refine goesL_ (some 27) rfl rfl Tryd.func10 (by kernel_rfl) rfl #[.string (a0 ++ (⟨#[44, 33, 48]⟩ : ByteArray))] rfl (by (try simp only [List.map_toArray, List.map_cons, List.map_nil]); first | done | rfl | (simp only [List.length_drop, List.length_take]; rfl)) ?_; (with_reducible refine (portset_Parse.calls k (a0 ++ (⟨#[44, 33, 48]⟩ : ByteArray)) t484 t485 _ A8.out (WOK.below hW_ (zB HB))).mono ?_); rintro e w65 ⟨v486, rfl, ho0, hb⟩; refine ⟨_, rfl, ?_⟩; have HO487 := Aside0.mk (Kd.R_lower (Kd.R_new' ho0 (Kd.R_lt (zR HO482))) (below_size (zB HB))); replace HO482 := Aside0.mk (Kd.R_elder' (zR HO482) (Kd.R_base ho0) hb); replace HB := Aside0.mk (below_step (zB HB) hb); (try clear hb); (try clear ho0)))
             go_ret
             exact ⟨by first | rfl | (simp [errW_none, errW_some] <;> rfl) | (simp [*, errW_none, errW_some] <;> rfl), by repeat (first | (with_reducible first | exact HB.out | apply below_alloc | apply pw_below_drewN | apply below_drew1) | exact HB.out)⟩
     · rw [if_neg c7] at H
       exact absurd H (by simp)
   · rw [if_neg c6] at H
     have c6b0 : (t480 == 0) = false := beq_eq_false_iff_ne.mpr c6
     have c6b1 : (t480 != 0) = true := bne_iff_ne.mpr c6
     by_cases c66 : (t479.length : Int) = 0
     · rw [if_pos c66] at H
       have c66b0 : ((t479.length : Int) == 0) = true := beq_iff_eq.mpr c66
       have c66b1 : ((t479.length : Int) != 0) = false := bne_eq_false_iff_eq.mpr c66
       clear c66
       replace H := Option.bind_eq_some_iff.mp H
       obtain ⟨t483, A670, H⟩ := H
       try dsimp only at H
       have A67 := Aside0.mk A670
       clear A670
       obtain rfl := Option.some.inj H
       go_enter Tryd.func6, Tryd.ntmps6
       go_wp2_with (first | ((with_reducible refine gate_callee (f := 10) rfl ?_); refine goesL_ (some 13) rfl rfl Tryd.func10 (by kernel_rfl) rfl #[.string a0] rfl (by (try simp only [List.map_toArray, List.map_cons, List.map_nil]); first | done | rfl | (simp only [List.length_drop, List.length_take]; rfl)) ?_; (with_reducible refine (portset_Parse.calls k a0 t479 t480 _ A5.out (WOK.below hW_ (zB HB))).mono ?_); rintro e w68 ⟨v481, rfl, ho0, hb⟩; refine ⟨_, rfl, ?_⟩; have HO482 := Aside0.mk (Kd.R_lower ho0 (below_size (zB HB))); replace HB := Aside0.mk (below_step (zB HB) hb); (try clear hb); (try clear ho0); obtain ⟨Ao69, co69, eo69⟩ := Kd.R_slice HO482.out; subst eo69) | (go_at_call 9; (with_reducible refine (intrusionlaw08_awake.calls k  t483 _ A67.out (WOK.below hW_ (zB HB))).mono ?_); rintro e w70 ⟨rfl, hb⟩; replace HO482 := Aside0.mk (Kd.R_below (zR HO482) hb); replace HB := Aside0.mk (below_step (zB HB) hb); (try clear hb)))
       go_ret
       exact ⟨by first | rfl | (simp [errW_none, errW_some] <;> rfl) | (simp [*, errW_none, errW_some] <;> rfl), by repeat (first | (with_reducible first | exact HB.out | apply below_alloc | apply pw_below_drewN | apply below_drew1) | exact HB.out)⟩
     · rw [if_neg c66] at H
       have c66b0 : ((t479.length : Int) == 0) = false := beq_eq_false_iff_ne.mpr c66
       have c66b1 : ((t479.length : Int) != 0) = true := bne_iff_ne.mpr c66
       have c66b2 : ¬ (t479 = []) := fun h_ => c66 (by rw [h_]; rfl)
       obtain rfl := Option.some.inj H
       go_enter Tryd.func6, Tryd.ntmps6
       go_wp2_with (first | ((with_reducible refine gate_callee (f := 10) rfl ?_); refine goesL_ (some 13) rfl rfl Tryd.func10 (by kernel_rfl) rfl #[.string a0] rfl (by (try simp only [List.map_toArray, List.map_cons, List.map_nil]); first | done | rfl | (simp only [List.length_drop, List.length_take]; rfl)) ?_; (with_reducible refine (portset_Parse.calls k a0 t479 t480 _ A5.out (WOK.below hW_ (zB HB))).mono ?_); rintro e w71 ⟨v481, rfl, ho0, hb⟩; refine ⟨_, rfl, ?_⟩; have HO482 := Aside0.mk (Kd.R_lower ho0 (below_size (zB HB))); replace HB := Aside0.mk (below_step (zB HB) hb); (try clear hb); (try clear ho0); obtain ⟨Ao72, co72, eo72⟩ := Kd.R_slice HO482.out; subst eo72))
       go_ret
       exact ⟨by first | rfl | (simp [errW_none, errW_some] <;> rfl) | (simp [*, errW_none, errW_some] <;> rfl), by repeat (first | (with_reducible first | exact HB.out | apply below_alloc | apply pw_below_drewN | apply below_drew1) | exact HB.out)⟩
end Go.Proofs.YtbimdjciacnioaaDoor.Q
end

section
namespace Go.Proofs.YtbimdjciacnioaaDoor.Q
open Go.RowKit Go.Proofs.YtbimdjciacnioaaDoorW.PrintWords Go.Proofs.YtbimdjciacnioaaDoorW.PrintLast Go.Proofs.YtbimdjciacnioaaDoorW.PrintMore
attribute [local go_sem] max2_int min2_int max_two min_two max_three min_three max_four min_four
set_option linter.unusedVariables false
set_option linter.unusedSimpArgs false
def intrusionref08_split.l0 : Nat → ByteArray → Int → List ByteArray → Int → Int → Option (List ByteArray)
  | 0, _, _, _, _, _ => none
  | k + 1, x0, x1, x5, x6, x7 => if x7 ≤ (x0.size : Int) then (if x7 = (x0.size : Int) then (if 0 ≤ x6 then (if x6 ≤ x7 then (if x5.length < 8796093022208 then (intrusionref08_split.l0 k x0 x1 (x5 ++ [x0.extract (x6 : Int).toNat (x7 : Int).toNat]) (wrap64 (x7 + 1)) (wrap64 (x7 + 1))) else (none)) else (none)) else (none)) else (if 0 ≤ x7 then (if x7 < (x0.size : Int) then (if (bt x0 x7) = x1 then (if 0 ≤ x6 then (if x6 ≤ x7 then (if x5.length < 8796093022208 then (intrusionref08_split.l0 k x0 x1 (x5 ++ [x0.extract (x6 : Int).toNat (x7 : Int).toNat]) (wrap64 (x7 + 1)) (wrap64 (x7 + 1))) else (none)) else (none)) else (none)) else (intrusionref08_split.l0 k x0 x1 x5 x6 (wrap64 (x7 + 1)))) else (none)) else (none))) else (some x5)
def intrusionref08_split.f (k : Nat) (a0 : ByteArray) (a1 : Int) : Option (List ByteArray) := intrusionref08_split.l0 k a0 a1 (([] : List ByteArray)) 0 0
theorem intrusionref08_split.mono_l : ∀ k, (∀ y0 y1 y2 y3 y4, LeO (intrusionref08_split.l0 k y0 y1 y2 y3 y4) (intrusionref08_split.l0 (k + 1) y0 y1 y2 y3 y4))
  | 0 => fun _ _ _ _ _ r h => by simp [intrusionref08_split.l0] at h
  | k + 1 => by
    have ih0 := intrusionref08_split.mono_l k
    · intro y0 y1 y2 y3 y4
      unfold intrusionref08_split.l0
      repeat' first
      | (with_reducible exact ih0 _ _ _ _ _)
      | (with_reducible exact LeO.refl _)
      | (with_reducible exact LeO.none _)
      | (with_reducible refine LeO.ite ?_ ?_)
      | (with_reducible refine LeO.bind ?_ (fun _ => ?_))
      | exact ih0 _ _ _ _ _
      | exact LeO.none _
      | refine LeO.ite ?_ ?_
      | refine LeO.bind ?_ (fun _ => ?_)
theorem intrusionref08_split.mono : ∀ a0 a1 k, LeO (intrusionref08_split.f k a0 a1) (intrusionref08_split.f (k + 1) a0 a1) := by
  intro a0 a1 k
  have ih0 := intrusionref08_split.mono_l k
  unfold intrusionref08_split.f
  repeat' first
      | (with_reducible exact ih0 _ _ _ _ _)
      | (with_reducible exact LeO.refl _)
      | (with_reducible exact LeO.none _)
      | (with_reducible refine LeO.ite ?_ ?_)
      | (with_reducible refine LeO.bind ?_ (fun _ => ?_))
      | exact ih0 _ _ _ _ _
      | exact LeO.none _
      | refine LeO.ite ?_ ?_
      | refine LeO.bind ?_ (fun _ => ?_)
end Go.Proofs.YtbimdjciacnioaaDoor.Q
end

section
namespace Go.Proofs.YtbimdjciacnioaaDoor.Q
open Go.RowKit Go.Proofs.YtbimdjciacnioaaDoorW.PrintWords Go.Proofs.YtbimdjciacnioaaDoorW.PrintLast Go.Proofs.YtbimdjciacnioaaDoorW.PrintMore
attribute [local go_sem] max2_int min2_int max_two min_two max_three min_three max_four min_four
set_option linter.unusedVariables false
set_option linter.unusedSimpArgs false
mutual
def intrusionref08_number.j0 : Nat → ByteArray → Bool → Option (Int × Bool)
  | 0, _, _ => none
  | k + 1, x0, x17 => if x17 = true then (some (0, false)) else (intrusionref08_number.l0 k x0 0 0)
def intrusionref08_number.l0 : Nat → ByteArray → Int → Int → Option (Int × Bool)
  | 0, _, _, _ => none
  | k + 1, x0, x4, x5 => if x5 < (x0.size : Int) then (if 0 ≤ x5 then (if (bt x0 x5) < 48 then (some (0, false)) else (if (bt x0 x5) > 57 then (some (0, false)) else (intrusionref08_number.l0 k x0 (mn (wrap64 ((wrap64 (x4 * 10)) + (((bt x0 x5) - 48) % 256))) 65536) (wrap64 (x5 + 1))))) else (none)) else (some (x4, true))
end
def intrusionref08_number.f (k : Nat) (a0 : ByteArray) : Option (Int × Bool) := if a0.toList = ([] : List UInt8) then (intrusionref08_number.j0 k a0 true) else (if (a0.size : Int) > 1 then (if 0 < (a0.size : Int) then (intrusionref08_number.j0 k a0 ((bt a0 0) == 48)) else (none)) else (intrusionref08_number.j0 k a0 false))
theorem intrusionref08_number.mono_l : ∀ k, (∀ y0 y1, LeO (intrusionref08_number.j0 k y0 y1) (intrusionref08_number.j0 (k + 1) y0 y1)) ∧ (∀ y0 y1 y2, LeO (intrusionref08_number.l0 k y0 y1 y2) (intrusionref08_number.l0 (k + 1) y0 y1 y2))
  | 0 => ⟨fun _ _ r h => by simp [intrusionref08_number.j0] at h, fun _ _ _ r h => by simp [intrusionref08_number.l0] at h⟩
  | k + 1 => by
    obtain ⟨ih0, ih1⟩ := intrusionref08_number.mono_l k
    refine ⟨?_, ?_⟩
    · intro y0 y1
      unfold intrusionref08_number.j0
      repeat' first
      | (with_reducible exact ih0 _ _)
      | (with_reducible exact ih1 _ _ _)
      | (with_reducible exact LeO.refl _)
      | (with_reducible exact LeO.none _)
      | (with_reducible refine LeO.ite ?_ ?_)
      | (with_reducible refine LeO.bind ?_ (fun _ => ?_))
      | exact ih0 _ _
      | exact ih1 _ _ _
      | exact LeO.none _
      | refine LeO.ite ?_ ?_
      | refine LeO.bind ?_ (fun _ => ?_)
    · intro y0 y1 y2
      unfold intrusionref08_number.l0
      repeat' first
      | (with_reducible exact ih0 _ _)
      | (with_reducible exact ih1 _ _ _)
      | (with_reducible exact LeO.refl _)
      | (with_reducible exact LeO.none _)
      | (with_reducible refine LeO.ite ?_ ?_)
      | (with_reducible refine LeO.bind ?_ (fun _ => ?_))
      | exact ih0 _ _
      | exact ih1 _ _ _
      | exact LeO.none _
      | refine LeO.ite ?_ ?_
      | refine LeO.bind ?_ (fun _ => ?_)
theorem intrusionref08_number.mono : ∀ a0 k, LeO (intrusionref08_number.f k a0) (intrusionref08_number.f (k + 1) a0) := by
  intro a0 k
  obtain ⟨ih0, ih1⟩ := intrusionref08_number.mono_l k
  unfold intrusionref08_number.f
  repeat' first
      | (with_reducible exact ih0 _ _)
      | (with_reducible exact ih1 _ _ _)
      | (with_reducible exact LeO.refl _)
      | (with_reducible exact LeO.none _)
      | (with_reducible refine LeO.ite ?_ ?_)
      | (with_reducible refine LeO.bind ?_ (fun _ => ?_))
      | exact ih0 _ _
      | exact ih1 _ _ _
      | exact LeO.none _
      | refine LeO.ite ?_ ?_
      | refine LeO.bind ?_ (fun _ => ?_)
end Go.Proofs.YtbimdjciacnioaaDoor.Q
end

section
namespace Go.Proofs.YtbimdjciacnioaaDoor.Q
open Go.RowKit Go.Proofs.YtbimdjciacnioaaDoorW.PrintWords Go.Proofs.YtbimdjciacnioaaDoorW.PrintLast Go.Proofs.YtbimdjciacnioaaDoorW.PrintMore
attribute [local go_sem] max2_int min2_int max_two min_two max_three min_three max_four min_four
set_option linter.unusedVariables false
set_option linter.unusedSimpArgs false
mutual
def intrusionref08_item.j0 : Nat → List ByteArray → Bool → Option (Int × Int × Int)
  | 0, _, _ => none
  | k + 1, x4, x18 => if x18 = true then (some (0, 0, 14)) else (if 0 < (x4.length : Int) then (if (rdOf ByteArray.empty x4 0).toList = ([] : List UInt8) then (intrusionref08_item.j1 k x4 ((x4.length : Int) == 1) 0 65535) else (intrusionref08_item.j1 k x4 true 0 65535)) else (none))
def intrusionref08_item.j1 : Nat → List ByteArray → Bool → Int → Int → Option (Int × Int × Int)
  | 0, _, _, _, _ => none
  | k + 1, x4, x29, x398000, x398001 => if x29 = true then (if 0 < (x4.length : Int) then ((intrusionref08_number.f k (rdOf ByteArray.empty x4 0)).bind fun bt400 => (if bt400.2 = true then (intrusionref08_item.j2 k x4 bt400.1 x398001) else (some (0, 0, 14)))) else (none)) else (intrusionref08_item.j2 k x4 x398000 x398001)
def intrusionref08_item.j2 : Nat → List ByteArray → Int → Int → Option (Int × Int × Int)
  | 0, _, _, _ => none
  | k + 1, x4, x398000, x398001 => if (x4.length : Int) = 1 then (if x398000 > 65535 then (some (0, 0, 4)) else (if x398000 > x398000 then (some (0, 0, 4)) else (some (x398000, x398000, 0)))) else (if 1 < (x4.length : Int) then (if (rdOf ByteArray.empty x4 1).toList = ([] : List UInt8) then (if x398000 > 65535 then (some (0, 0, 4)) else (if x398001 > 65535 then (some (0, 0, 4)) else (if x398000 > x398001 then (some (0, 0, 4)) else (some (x398000, x398001, 0))))) else ((intrusionref08_number.f k (rdOf ByteArray.empty x4 1)).bind fun bt404 => (if bt404.2 = true then (if x398000 > 65535 then (some (0, 0, 4)) else (if bt404.1 > 65535 then (some (0, 0, 4)) else (if x398000 > bt404.1 then (some (0, 0, 4)) else (some (x398000, bt404.1, 0))))) else (some (0, 0, 14))))) else (none))
end
def intrusionref08_item.f (k : Nat) (a0 : ByteArray) : Option (Int × Int × Int) := (intrusionref08_split.f k a0 58).bind fun t394 => (if (t394.length : Int) > 2 then (intrusionref08_item.j0 k t394 true) else (intrusionref08_item.j0 k t394 (a0.toList == ([58] : List UInt8))))
theorem intrusionref08_item.mono_l : ∀ k, (∀ y0 y1, LeO (intrusionref08_item.j0 k y0 y1) (intrusionref08_item.j0 (k + 1) y0 y1)) ∧ (∀ y0 y1 y2 y3, LeO (intrusionref08_item.j1 k y0 y1 y2 y3) (intrusionref08_item.j1 (k + 1) y0 y1 y2 y3)) ∧ (∀ y0 y1 y2, LeO (intrusionref08_item.j2 k y0 y1 y2) (intrusionref08_item.j2 (k + 1) y0 y1 y2))
  | 0 => ⟨fun _ _ r h => by simp [intrusionref08_item.j0] at h, fun _ _ _ _ r h => by simp [intrusionref08_item.j1] at h, fun _ _ _ r h => by simp [intrusionref08_item.j2] at h⟩
  | k + 1 => by
    obtain ⟨ih0, ih1, ih2⟩ := intrusionref08_item.mono_l k
    refine ⟨?_, ?_, ?_⟩
    · intro y0 y1
      unfold intrusionref08_item.j0
      repeat' first
      | (with_reducible exact ih0 _ _)
      | (with_reducible exact ih1 _ _ _ _)
      | (with_reducible exact ih2 _ _ _)
      | (with_reducible exact intrusionref08_number.mono _ _)
      | (with_reducible exact intrusionref08_split.mono _ _ _)
      | (with_reducible exact LeO.refl _)
      | (with_reducible exact LeO.none _)
      | (with_reducible refine LeO.ite ?_ ?_)
      | (with_reducible refine LeO.bind ?_ (fun _ => ?_))
      | exact ih0 _ _
      | exact ih1 _ _ _ _
      | exact ih2 _ _ _
      | exact intrusionref08_number.mono _ _
      | exact intrusionref08_split.mono _ _ _
      | exact LeO.none _
      | refine LeO.ite ?_ ?_
      | refine LeO.bind ?_ (fun _ => ?_)
    · intro y0 y1 y2 y3
      unfold intrusionref08_item.j1
      repeat' first
      | (with_reducible exact ih0 _ _)
      | (with_reducible exact ih1 _ _ _ _)
      | (with_reducible exact ih2 _ _ _)
      | (with_reducible exact intrusionref08_number.mono _ _)
      | (with_reducible exact intrusionref08_split.mono _ _ _)
      | (with_reducible exact LeO.refl _)
      | (with_reducible exact LeO.none _)
      | (with_reducible refine LeO.ite ?_ ?_)
      | (with_reducible refine LeO.bind ?_ (fun _ => ?_))
      | exact ih0 _ _
      | exact ih1 _ _ _ _
      | exact ih2 _ _ _
      | exact intrusionref08_number.mono _ _
      | exact intrusionref08_split.mono _ _ _
      | exact LeO.none _
      | refine LeO.ite ?_ ?_
      | refine LeO.bind ?_ (fun _ => ?_)
    · intro y0 y1 y2
      unfold intrusionref08_item.j2
      repeat' first
      | (with_reducible exact ih0 _ _)
      | (with_reducible exact ih1 _ _ _ _)
      | (with_reducible exact ih2 _ _ _)
      | (with_reducible exact intrusionref08_number.mono _ _)
      | (with_reducible exact intrusionref08_split.mono _ _ _)
      | (with_reducible exact LeO.refl _)
      | (with_reducible exact LeO.none _)
      | (with_reducible refine LeO.ite ?_ ?_)
      | (with_reducible refine LeO.bind ?_ (fun _ => ?_))
      | exact ih0 _ _
      | exact ih1 _ _ _ _
      | exact ih2 _ _ _
      | exact intrusionref08_number.mono _ _
      | exact intrusionref08_split.mono _ _ _
      | exact LeO.none _
      | refine LeO.ite ?_ ?_
      | refine LeO.bind ?_ (fun _ => ?_)
theorem intrusionref08_item.mono : ∀ a0 k, LeO (intrusionref08_item.f k a0) (intrusionref08_item.f (k + 1) a0) := by
  intro a0 k
  obtain ⟨ih0, ih1, ih2⟩ := intrusionref08_item.mono_l k
  unfold intrusionref08_item.f
  repeat' first
      | (with_reducible exact ih0 _ _)
      | (with_reducible exact ih1 _ _ _ _)
      | (with_reducible exact ih2 _ _ _)
      | (with_reducible exact intrusionref08_number.mono _ _)
      | (with_reducible exact intrusionref08_split.mono _ _ _)
      | (with_reducible exact LeO.refl _)
      | (with_reducible exact LeO.none _)
      | (with_reducible refine LeO.ite ?_ ?_)
      | (with_reducible refine LeO.bind ?_ (fun _ => ?_))
      | exact ih0 _ _
      | exact ih1 _ _ _ _
      | exact ih2 _ _ _
      | exact intrusionref08_number.mono _ _
      | exact intrusionref08_split.mono _ _ _
      | exact LeO.none _
      | refine LeO.ite ?_ ?_
      | refine LeO.bind ?_ (fun _ => ?_)
end Go.Proofs.YtbimdjciacnioaaDoor.Q
end

section
set_option linter.unusedVariables false
set_option linter.unusedSimpArgs false
namespace Go.Proofs.YtbimdjciacnioaaDoor.Q
open Go.RowKit Go.Proofs.YtbimdjciacnioaaDoorW.PrintWords Go.Proofs.YtbimdjciacnioaaDoorW.PrintLast Go.Proofs.YtbimdjciacnioaaDoorW.PrintMore
theorem up_b {i : Nat} (h : i < 1000000) : wrap64 ((i : Int) + 1) = ((i + 1 : Nat) : Int) := by rw [wid (by omega) (by omega)]; omega
def itFin (a b : Int × Bool) : Int × Int × Int := if a.2 = true ∧ b.2 = true then (if a.1 > 65535 then (0, 0, 4) else if b.1 > 65535 then (0, 0, 4) else if a.1 > b.1 then (0, 0, 4) else (a.1, b.1, 0)) else (0, 0, 14)
def itLo (c : List UInt8 × List UInt8 × Bool) : List UInt8 := if c.2.2 = true ∧ c.1 = [] ∧ c.2.1 ≠ [] then [48] else c.1
def itHi (c : List UInt8 × List UInt8 × Bool) : List UInt8 := if c.2.2 = false then c.1 else if c.2.1 = [] ∧ c.1 ≠ [] then Lib.itoa 65535 else c.2.1
def itemV (l : List UInt8) : Int × Int × Int := itFin (pnum (itLo (Lib.cut l [58]))) (pnum (itHi (Lib.cut l [58])))
theorem item_j1 (x y : List UInt8) : Ev (fun k => portset_item.j1 k (mkB x) (mkB y)) (itFin (pnum x) (pnum y)) := by
  refine Ev.step (f := fun k => if (pnum x).2 = true then portset_item.j2 k (pnum x).1 (pnum y).1 (!(pnum y).2) else portset_item.j2 k (pnum x).1 (pnum y).1 true) (fun k => ?_) ?_
  · rw [portset_item.j1]
    unfold portset_number.f
    rw [mkB_list, mkB_list, Option.bind_some, Option.bind_some]
  · unfold itFin
    generalize pnum x = a
    generalize pnum y = b
    obtain ⟨a1, a2⟩ := a
    obtain ⟨b1, b2⟩ := b
    dsimp only
    cases a2
    · rw [if_neg (by simp)]
      simp only [Bool.false_eq_true, if_false]
      refine Ev.step (f := fun _ => some ((0 : Int), (0 : Int), (14 : Int))) (fun k => ?_) (Ev.now _)
      rw [portset_item.j2, if_pos rfl]
    · simp only [if_true]
      cases b2
      · rw [if_neg (by simp)]
        refine Ev.step (f := fun _ => some ((0 : Int), (0 : Int), (14 : Int))) (fun k => ?_) (Ev.now _)
        rw [portset_item.j2, if_pos (by rfl)]
      · rw [if_pos (by simp)]
        refine Ev.step (f := fun _ => some (if a1 > 65535 then ((0 : Int), (0 : Int), (4 : Int)) else if b1 > 65535 then (0, 0, 4) else if a1 > b1 then (0, 0, 4) else (a1, b1, 0))) (fun k => ?_) (Ev.now _)
        rw [portset_item.j2, if_neg (by simp)]
        split
        · rfl
        · split
          · rfl
          · split <;> rfl
theorem item_j0 (x y : List UInt8) : Ev (fun k => portset_item.j0 k (mkB x) (mkB y) false) (itFin (pnum x) (pnum (if y = [] ∧ x ≠ [] then Lib.itoa 65535 else y))) := by
  by_cases hy : y = []
  · by_cases hx : x = []
    · rw [if_neg (fun h => h.2 hx)]
      refine Ev.step (fun k => ?_) (item_j1 x y)
      rw [portset_item.j0, if_neg Bool.false_ne_true, ByteArray.toList_eq, ByteArray.toList_eq, mkB_list, mkB_list, if_pos hy, if_pos hx]
    · rw [if_pos ⟨hy, hx⟩]
      refine Ev.step (fun k => ?_) (item_j1 x _)
      rw [portset_item.j0, if_neg Bool.false_ne_true, ByteArray.toList_eq, ByteArray.toList_eq, mkB_list, mkB_list, if_pos hy, if_neg hx]
      unfold strconv_Itoa.f
      rw [if_pos (by omega), Option.bind_some]
      rfl
  · rw [if_neg (fun h => hy h.1)]
    refine Ev.step (fun k => ?_) (item_j1 x y)
    rw [portset_item.j0, if_neg Bool.false_ne_true, ByteArray.toList_eq, mkB_list, if_neg hy]
theorem item_ev (s : ByteArray) (hs : s.size < 4294967281) : Ev (fun k => portset_item.f k s) (itemV s.data.toList) := by
  refine Ev.congr (fun k => ?_) (f := fun k => if (Lib.cut s.data.toList [58]).2.2 = true then (if (Lib.cut s.data.toList [58]).1 = ([] : List UInt8) then (portset_item.j0 k (mkB (Lib.cut s.data.toList [58]).1) (mkB (Lib.cut s.data.toList [58]).2.1) ((Lib.cut s.data.toList [58]).2.1 != ([] : List UInt8))) else (portset_item.j0 k (mkB (Lib.cut s.data.toList [58]).1) (mkB (Lib.cut s.data.toList [58]).2.1) false)) else (portset_item.j1 k (mkB (Lib.cut s.data.toList [58]).1) (mkB (Lib.cut s.data.toList [58]).1))) ?_
  · unfold portset_item.f
    rw [cut_eq s _ hs, Option.bind_some]
    simp only [ByteArray.toList_eq, mkB_list]
  · unfold itemV
    generalize Lib.cut s.data.toList [58] = c
    obtain ⟨T, D, b⟩ := c
    unfold itLo itHi
    dsimp only
    cases b
    · simp only [Bool.false_eq_true, if_false, false_and, if_true]
      exact item_j1 T T
    · simp only [if_true, true_and, Bool.true_eq_false, if_false]
      by_cases hT : T = []
      · simp only [hT, if_true, true_and, ne_eq, not_true_eq_false, and_false, if_false]
        by_cases hD : D = []
        · subst hD
          simp only [not_true_eq_false, if_false]
          have := item_j0 [] []
          simpa using this
        · rw [if_pos hD]
          refine Ev.step (fun k => ?_) (item_j1 [48] D)
          rw [portset_item.j0, if_pos (bne_iff_ne.2 hD)]
          rfl
      · simp only [hT, if_false, false_and, ne_eq, not_false_eq_true, and_true]
        have := item_j0 T D
        simpa only [hT, ne_eq, not_false_eq_true, and_true] using this
end Go.Proofs.YtbimdjciacnioaaDoor.Q
end

section
namespace Go.Proofs.YtbimdjciacnioaaDoor.Canon
abbrev Sp := Int × Int
def Mem (l : List Sp) (n : Int) : Prop := ∃ x, x ∈ l ∧ x.1 ≤ n ∧ n ≤ x.2
def CanFrom : Int → List Sp → Prop
  | _, [] => True
  | lo, x :: t => lo ≤ x.1 ∧ x.1 ≤ x.2 ∧ CanFrom (x.2 + 2) t
theorem mem_nil (n : Int) : Mem [] n ↔ False := by simp [Mem]
theorem mem_cons (x : Sp) (t : List Sp) (n : Int) : Mem (x :: t) n ↔ (x.1 ≤ n ∧ n ≤ x.2) ∨ Mem t n := by
  simp only [Mem, List.mem_cons]
  constructor
  · rintro ⟨y, rfl | hy, h⟩
    · exact .inl h
    · exact .inr ⟨y, hy, h⟩
  · rintro (h | ⟨y, hy, h⟩)
    · exact ⟨x, .inl rfl, h⟩
    · exact ⟨y, .inr hy, h⟩
theorem mem_append (a b : List Sp) (n : Int) : Mem (a ++ b) n ↔ Mem a n ∨ Mem b n := by
  induction a with
  | nil => simp [mem_nil]
  | cons x t ih => simp only [List.cons_append, mem_cons, ih]; exact or_assoc.symm
theorem CanFrom.mono {lo lo' : Int} {l : List Sp} (h : lo' ≤ lo) (c : CanFrom lo l) : CanFrom lo' l := by
  cases l with
  | nil => trivial
  | cons x t => exact ⟨Int.le_trans h c.1, c.2⟩
theorem CanFrom.ge : ∀ {l : List Sp} {lo n : Int}, CanFrom lo l → Mem l n → lo ≤ n
  | [], _, _, _, h => ((mem_nil _).1 h).elim
  | x :: t, lo, n, c, h => by
    rcases (mem_cons x t n).1 h with h | h
    · have := c.1; omega
    · have := CanFrom.ge c.2.2 h; have := c.1; have := c.2.1; omega
theorem uniq : ∀ (a b : List Sp) (lo : Int), CanFrom lo a → CanFrom lo b → (∀ n, Mem a n ↔ Mem b n) → a = b
  | [], [], _, _, _, _ => rfl
  | [], y :: t, _, _, cb, h => by
    have := (h y.1).2 ((mem_cons y t _).2 (.inl ⟨Int.le_refl _, cb.2.1⟩))
    exact ((mem_nil _).1 this).elim
  | x :: s, [], _, ca, _, h => by
    have := (h x.1).1 ((mem_cons x s _).2 (.inl ⟨Int.le_refl _, ca.2.1⟩))
    exact ((mem_nil _).1 this).elim
  | x :: s, y :: t, lo, ca, cb, h => by
    have hx : ∀ n, Mem (x :: s) n → x.1 ≤ n := fun n hn => CanFrom.ge (lo := x.1) (l := x :: s) ⟨Int.le_refl _, ca.2⟩ hn
    have hy : ∀ n, Mem (y :: t) n → y.1 ≤ n := fun n hn => CanFrom.ge (lo := y.1) (l := y :: t) ⟨Int.le_refl _, cb.2⟩ hn
    have e1 : x.1 = y.1 := by
      have a1 := hy _ ((h x.1).1 ((mem_cons x s _).2 (.inl ⟨Int.le_refl _, ca.2.1⟩)))
      have a2 := hx _ ((h y.1).2 ((mem_cons y t _).2 (.inl ⟨Int.le_refl _, cb.2.1⟩)))
      omega
    have e2 : x.2 = y.2 := by
      have k1 : ¬ x.2 < y.2 := fun hlt => by
        have := (h (x.2 + 1)).2 ((mem_cons y t _).2 (.inl ⟨by have := ca.2.1; omega, by omega⟩))
        rcases (mem_cons x s _).1 this with m | m
        · omega
        · have := ca.2.2.ge m; omega
      have k2 : ¬ y.2 < x.2 := fun hlt => by
        have := (h (y.2 + 1)).1 ((mem_cons x s _).2 (.inl ⟨by have := cb.2.1; omega, by omega⟩))
        rcases (mem_cons y t _).1 this with m | m
        · omega
        · have := cb.2.2.ge m; omega
      omega
    have e : x = y := Prod.ext e1 e2
    subst e
    rw [uniq s t (x.2 + 2) ca.2.2 cb.2.2 (fun n => by
      constructor
      · intro hn
        have g := ca.2.2.ge hn
        rcases (mem_cons x t _).1 ((h n).1 ((mem_cons x s _).2 (.inr hn))) with m | m
        · omega
        · exact m
      · intro hn
        have g := cb.2.2.ge hn
        rcases (mem_cons x s _).1 ((h n).2 ((mem_cons x t _).2 (.inr hn))) with m | m
        · omega
        · exact m)]
theorem can_append : ∀ (a b : List Sp) (lo : Int), CanFrom lo (a ++ b) ↔ CanFrom lo a ∧ (∀ x ∈ a, ∀ y ∈ b, x.2 + 1 < y.1) ∧ (∃ lo', CanFrom lo' b) ∧ (∀ y ∈ b, lo ≤ y.1)
  | [], b, lo => by
    constructor
    · intro c
      refine ⟨trivial, by simp, ⟨lo, c⟩, fun y hy => ?_⟩
      have hm : Mem b y.1 → lo ≤ y.1 := c.ge
      refine hm ⟨y, hy, Int.le_refl _, ?_⟩
      have : ∀ (b : List Sp) (lo : Int), CanFrom lo b → ∀ y ∈ b, y.1 ≤ y.2 := by
        intro b
        induction b with
        | nil => simp
        | cons z t ih =>
          intro lo c y hy
          rcases List.mem_cons.1 hy with rfl | hy
          · exact c.2.1
          · exact ih _ c.2.2 y hy
      exact this b lo c y hy
    · rintro ⟨_, _, ⟨lo', c⟩, h⟩
      cases b with
      | nil => trivial
      | cons z t => exact ⟨h z (List.mem_cons_self ..), c.2⟩
  | x :: a, b, lo => by
    have ih := can_append a b (x.2 + 2)
    constructor
    · rintro ⟨c1, c2, c3⟩
      obtain ⟨i1, i2, i3, i4⟩ := ih.1 c3
      refine ⟨⟨c1, c2, i1⟩, fun z hz y hy => ?_, i3, fun y hy => ?_⟩
      · rcases List.mem_cons.1 hz with rfl | hz
        · have := i4 y hy; omega
        · exact i2 z hz y hy
      · have := i4 y hy; omega
    · rintro ⟨⟨c1, c2, c3⟩, h2, h3, h4⟩
      refine ⟨c1, c2, ih.2 ⟨c3, fun z hz => h2 z (List.mem_cons_of_mem _ hz), h3, fun y hy => ?_⟩⟩
      have := h2 x (List.mem_cons_self ..) y hy
      omega
theorem can_wf : ∀ (b : List Sp) (lo : Int), CanFrom lo b → ∀ y ∈ b, lo ≤ y.1 ∧ y.1 ≤ y.2
  | [], _, _, y, hy => by simp at hy
  | z :: t, lo, c, y, hy => by
    rcases List.mem_cons.1 hy with rfl | hy
    · exact ⟨c.1, c.2.1⟩
    · have := can_wf t _ c.2.2 y hy
      have := c.1; have := c.2.1
      exact ⟨by omega, by omega⟩
end Go.Proofs.YtbimdjciacnioaaDoor.Canon
end

section
namespace Go.Proofs.YtbimdjciacnioaaDoor.Q
open Go.RowKit Go.Proofs.YtbimdjciacnioaaDoorW.PrintWords Go.Proofs.YtbimdjciacnioaaDoorW.PrintLast Go.Proofs.YtbimdjciacnioaaDoorW.PrintMore
attribute [local go_sem] max2_int min2_int max_two min_two max_three min_three max_four min_four
set_option linter.unusedVariables false
set_option linter.unusedSimpArgs false
def intrusionref05_cut.f (a0_0 : Int) (a0_1 : Int) (a1 : Int) (a2 : Int) : Option (Int × Int × Bool) := some (mx a0_0 a1, mn a0_1 a2, decide ((mx a0_0 a1) ≤ (mn a0_1 a2)))
end Go.Proofs.YtbimdjciacnioaaDoor.Q
end

section
namespace Go.Proofs.YtbimdjciacnioaaDoor.Q
open Go.RowKit Go.Proofs.YtbimdjciacnioaaDoorW.PrintWords Go.Proofs.YtbimdjciacnioaaDoorW.PrintLast Go.Proofs.YtbimdjciacnioaaDoorW.PrintMore
attribute [local go_sem] max2_int min2_int max_two min_two max_three min_three max_four min_four
set_option linter.unusedVariables false
set_option linter.unusedSimpArgs false
mutual
def intrusionref05_least.l0 : Nat → List (S33) → Int → Int → Int → Option (Int × Int × (List (S33)))
  | 0, _, _, _, _ => none
  | k + 1, x0, x5, x283000, x283001 => if x5 < (x0.length : Int) then (if 0 ≤ x5 then (if ((rd_T33 x0 x5).f0) < x283000 then (intrusionref05_least.l0 k x0 (wrap64 (x5 + 1)) ((rd_T33 x0 x5).f0) ((rd_T33 x0 x5).f1)) else (intrusionref05_least.l0 k x0 (wrap64 (x5 + 1)) x283000 x283001)) else (none)) else (intrusionref05_least.l1 k x0 true x283000 x283001)
def intrusionref05_least.l1 : Nat → List (S33) → Bool → Int → Int → Option (Int × Int × (List (S33)))
  | 0, _, _, _, _ => none
  | k + 1, x0, x6, x283000, x283001 => if x6 = true then (intrusionref05_least.l2 k x0 false 0 x283000 x283001) else (intrusionref05_least.l3 k x0 (([] : List (S33))) 0 x283000 x283001)
def intrusionref05_least.l2 : Nat → List (S33) → Bool → Int → Int → Int → Option (Int × Int × (List (S33)))
  | 0, _, _, _, _, _ => none
  | k + 1, x0, x6, x7, x283000, x283001 => if x7 < (x0.length : Int) then (if 0 ≤ x7 then (if ((rd_T33 x0 x7).f0) ≤ (wrap64 (x283001 + 1)) then (if ((rd_T33 x0 x7).f1) > x283001 then (intrusionref05_least.l2 k x0 true (wrap64 (x7 + 1)) x283000 ((rd_T33 x0 x7).f1)) else (intrusionref05_least.l2 k x0 x6 (wrap64 (x7 + 1)) x283000 x283001)) else (intrusionref05_least.l2 k x0 x6 (wrap64 (x7 + 1)) x283000 x283001)) else (none)) else (intrusionref05_least.l1 k x0 x6 x283000 x283001)
def intrusionref05_least.l3 : Nat → List (S33) → List (S33) → Int → Int → Int → Option (Int × Int × (List (S33)))
  | 0, _, _, _, _, _ => none
  | k + 1, x0, x8, x9, x283000, x283001 => if x9 < (x0.length : Int) then (if 0 ≤ x9 then (if ((rd_T33 x0 x9).f0) > x283001 then (if x8.length < 8796093022208 then (intrusionref05_least.l3 k x0 (x8 ++ [(⟨(rd_T33 x0 x9).f0, (rd_T33 x0 x9).f1⟩ : S33)]) (wrap64 (x9 + 1)) x283000 x283001) else (none)) else (intrusionref05_least.l3 k x0 x8 (wrap64 (x9 + 1)) x283000 x283001)) else (none)) else (some (x283000, x283001, x8))
end
def intrusionref05_least.f (k : Nat) (l0 : List (S33)) : Option (Int × Int × (List (S33))) := if 0 < (l0.length : Int) then (intrusionref05_least.l0 k l0 0 ((rd_T33 l0 0).f0) ((rd_T33 l0 0).f1)) else (none)
theorem intrusionref05_least.mono_l : ∀ k, (∀ y0 y1 y2 y3, LeO (intrusionref05_least.l0 k y0 y1 y2 y3) (intrusionref05_least.l0 (k + 1) y0 y1 y2 y3)) ∧ (∀ y0 y1 y2 y3, LeO (intrusionref05_least.l1 k y0 y1 y2 y3) (intrusionref05_least.l1 (k + 1) y0 y1 y2 y3)) ∧ (∀ y0 y1 y2 y3 y4, LeO (intrusionref05_least.l2 k y0 y1 y2 y3 y4) (intrusionref05_least.l2 (k + 1) y0 y1 y2 y3 y4)) ∧ (∀ y0 y1 y2 y3 y4, LeO (intrusionref05_least.l3 k y0 y1 y2 y3 y4) (intrusionref05_least.l3 (k + 1) y0 y1 y2 y3 y4))
  | 0 => ⟨fun _ _ _ _ r h => by simp [intrusionref05_least.l0] at h, fun _ _ _ _ r h => by simp [intrusionref05_least.l1] at h, fun _ _ _ _ _ r h => by simp [intrusionref05_least.l2] at h, fun _ _ _ _ _ r h => by simp [intrusionref05_least.l3] at h⟩
  | k + 1 => by
    obtain ⟨ih0, ih1, ih2, ih3⟩ := intrusionref05_least.mono_l k
    refine ⟨?_, ?_, ?_, ?_⟩
    · intro y0 y1 y2 y3
      unfold intrusionref05_least.l0
      repeat' first
      | (with_reducible exact ih0 _ _ _ _)
      | (with_reducible exact ih1 _ _ _ _)
      | (with_reducible exact ih2 _ _ _ _ _)
      | (with_reducible exact ih3 _ _ _ _ _)
      | (with_reducible exact LeO.refl _)
      | (with_reducible exact LeO.none _)
      | (with_reducible refine LeO.ite ?_ ?_)
      | (with_reducible refine LeO.bind ?_ (fun _ => ?_))
      | exact ih0 _ _ _ _
      | exact ih1 _ _ _ _
      | exact ih2 _ _ _ _ _
      | exact ih3 _ _ _ _ _
      | exact LeO.none _
      | refine LeO.ite ?_ ?_
      | refine LeO.bind ?_ (fun _ => ?_)
    · intro y0 y1 y2 y3
      unfold intrusionref05_least.l1
      repeat' first
      | (with_reducible exact ih0 _ _ _ _)
      | (with_reducible exact ih1 _ _ _ _)
      | (with_reducible exact ih2 _ _ _ _ _)
      | (with_reducible exact ih3 _ _ _ _ _)
      | (with_reducible exact LeO.refl _)
      | (with_reducible exact LeO.none _)
      | (with_reducible refine LeO.ite ?_ ?_)
      | (with_reducible refine LeO.bind ?_ (fun _ => ?_))
      | exact ih0 _ _ _ _
      | exact ih1 _ _ _ _
      | exact ih2 _ _ _ _ _
      | exact ih3 _ _ _ _ _
      | exact LeO.none _
      | refine LeO.ite ?_ ?_
      | refine LeO.bind ?_ (fun _ => ?_)
    · intro y0 y1 y2 y3 y4
      unfold intrusionref05_least.l2
      repeat' first
      | (with_reducible exact ih0 _ _ _ _)
      | (with_reducible exact ih1 _ _ _ _)
      | (with_reducible exact ih2 _ _ _ _ _)
      | (with_reducible exact ih3 _ _ _ _ _)
      | (with_reducible exact LeO.refl _)
      | (with_reducible exact LeO.none _)
      | (with_reducible refine LeO.ite ?_ ?_)
      | (with_reducible refine LeO.bind ?_ (fun _ => ?_))
      | exact ih0 _ _ _ _
      | exact ih1 _ _ _ _
      | exact ih2 _ _ _ _ _
      | exact ih3 _ _ _ _ _
      | exact LeO.none _
      | refine LeO.ite ?_ ?_
      | refine LeO.bind ?_ (fun _ => ?_)
    · intro y0 y1 y2 y3 y4
      unfold intrusionref05_least.l3
      repeat' first
      | (with_reducible exact ih0 _ _ _ _)
      | (with_reducible exact ih1 _ _ _ _)
      | (with_reducible exact ih2 _ _ _ _ _)
      | (with_reducible exact ih3 _ _ _ _ _)
      | (with_reducible exact LeO.refl _)
      | (with_reducible exact LeO.none _)
      | (with_reducible refine LeO.ite ?_ ?_)
      | (with_reducible refine LeO.bind ?_ (fun _ => ?_))
      | exact ih0 _ _ _ _
      | exact ih1 _ _ _ _
      | exact ih2 _ _ _ _ _
      | exact ih3 _ _ _ _ _
      | exact LeO.none _
      | refine LeO.ite ?_ ?_
      | refine LeO.bind ?_ (fun _ => ?_)
theorem intrusionref05_least.mono : ∀ a0 k, LeO (intrusionref05_least.f k a0) (intrusionref05_least.f (k + 1) a0) := by
  intro a0 k
  obtain ⟨ih0, ih1, ih2, ih3⟩ := intrusionref05_least.mono_l k
  unfold intrusionref05_least.f
  repeat' first
      | (with_reducible exact ih0 _ _ _ _)
      | (with_reducible exact ih1 _ _ _ _)
      | (with_reducible exact ih2 _ _ _ _ _)
      | (with_reducible exact ih3 _ _ _ _ _)
      | (with_reducible exact LeO.refl _)
      | (with_reducible exact LeO.none _)
      | (with_reducible refine LeO.ite ?_ ?_)
      | (with_reducible refine LeO.bind ?_ (fun _ => ?_))
      | exact ih0 _ _ _ _
      | exact ih1 _ _ _ _
      | exact ih2 _ _ _ _ _
      | exact ih3 _ _ _ _ _
      | exact LeO.none _
      | refine LeO.ite ?_ ?_
      | refine LeO.bind ?_ (fun _ => ?_)
end Go.Proofs.YtbimdjciacnioaaDoor.Q
end

section
namespace Go.Proofs.YtbimdjciacnioaaDoor.Q
open Go.RowKit Go.Proofs.YtbimdjciacnioaaDoorW.PrintWords Go.Proofs.YtbimdjciacnioaaDoorW.PrintLast Go.Proofs.YtbimdjciacnioaaDoorW.PrintMore
attribute [local go_sem] max2_int min2_int max_two min_two max_three min_three max_four min_four
set_option linter.unusedVariables false
set_option linter.unusedSimpArgs false
mutual
def intrusionref05_Normal.l0 : Nat → List (S33) → List (S33) → Int → Option ((List (S33)))
  | 0, _, _, _ => none
  | k + 1, x0, x3, x4 => if x4 < (x0.length : Int) then (if 0 ≤ x4 then ((intrusionref05_cut.f ((rd_T33 x0 x4).f0) ((rd_T33 x0 x4).f1) 0 4294967296).bind fun bt300 => (if bt300.2.2 = true then (if x3.length < 8796093022208 then (intrusionref05_Normal.l0 k x0 (x3 ++ [(⟨bt300.1, bt300.2.1⟩ : S33)]) (wrap64 (x4 + 1))) else (none)) else (intrusionref05_Normal.l0 k x0 x3 (wrap64 (x4 + 1))))) else (none)) else (intrusionref05_Normal.l1 k x3 (([] : List (S33))))
def intrusionref05_Normal.l1 : Nat → List (S33) → List (S33) → Option ((List (S33)))
  | 0, _, _ => none
  | k + 1, x3, x7 => if (x3.length : Int) > 0 then ((intrusionref05_least.f k x3).bind fun bt310 => (if x7.length < 8796093022208 then (intrusionref05_Normal.l1 k bt310.2.2 (x7 ++ [(⟨bt310.1, bt310.2.1⟩ : S33)])) else (none))) else (some x7)
end
def intrusionref05_Normal.f (k : Nat) (l0 : List (S33)) : Option ((List (S33))) := intrusionref05_Normal.l0 k l0 (([] : List (S33))) 0
theorem intrusionref05_Normal.mono_l : ∀ k, (∀ y0 y1 y2, LeO (intrusionref05_Normal.l0 k y0 y1 y2) (intrusionref05_Normal.l0 (k + 1) y0 y1 y2)) ∧ (∀ y0 y1, LeO (intrusionref05_Normal.l1 k y0 y1) (intrusionref05_Normal.l1 (k + 1) y0 y1))
  | 0 => ⟨fun _ _ _ r h => by simp [intrusionref05_Normal.l0] at h, fun _ _ r h => by simp [intrusionref05_Normal.l1] at h⟩
  | k + 1 => by
    obtain ⟨ih0, ih1⟩ := intrusionref05_Normal.mono_l k
    refine ⟨?_, ?_⟩
    · intro y0 y1 y2
      unfold intrusionref05_Normal.l0
      repeat' first
      | (with_reducible exact ih0 _ _ _)
      | (with_reducible exact ih1 _ _)
      | (with_reducible exact intrusionref05_least.mono _ _)
      | (with_reducible exact LeO.refl _)
      | (with_reducible exact LeO.none _)
      | (with_reducible refine LeO.ite ?_ ?_)
      | (with_reducible refine LeO.bind ?_ (fun _ => ?_))
      | exact ih0 _ _ _
      | exact ih1 _ _
      | exact intrusionref05_least.mono _ _
      | exact LeO.none _
      | refine LeO.ite ?_ ?_
      | refine LeO.bind ?_ (fun _ => ?_)
    · intro y0 y1
      unfold intrusionref05_Normal.l1
      repeat' first
      | (with_reducible exact ih0 _ _ _)
      | (with_reducible exact ih1 _ _)
      | (with_reducible exact intrusionref05_least.mono _ _)
      | (with_reducible exact LeO.refl _)
      | (with_reducible exact LeO.none _)
      | (with_reducible refine LeO.ite ?_ ?_)
      | (with_reducible refine LeO.bind ?_ (fun _ => ?_))
      | exact ih0 _ _ _
      | exact ih1 _ _
      | exact intrusionref05_least.mono _ _
      | exact LeO.none _
      | refine LeO.ite ?_ ?_
      | refine LeO.bind ?_ (fun _ => ?_)
theorem intrusionref05_Normal.mono : ∀ a0 k, LeO (intrusionref05_Normal.f k a0) (intrusionref05_Normal.f (k + 1) a0) := by
  intro a0 k
  obtain ⟨ih0, ih1⟩ := intrusionref05_Normal.mono_l k
  unfold intrusionref05_Normal.f
  repeat' first
      | (with_reducible exact ih0 _ _ _)
      | (with_reducible exact ih1 _ _)
      | (with_reducible exact intrusionref05_least.mono _ _)
      | (with_reducible exact LeO.refl _)
      | (with_reducible exact LeO.none _)
      | (with_reducible refine LeO.ite ?_ ?_)
      | (with_reducible refine LeO.bind ?_ (fun _ => ?_))
      | exact ih0 _ _ _
      | exact ih1 _ _
      | exact intrusionref05_least.mono _ _
      | exact LeO.none _
      | refine LeO.ite ?_ ?_
      | refine LeO.bind ?_ (fun _ => ?_)
end Go.Proofs.YtbimdjciacnioaaDoor.Q
end

section
set_option linter.unusedVariables false
set_option linter.unusedSimpArgs false
namespace Go.Proofs.YtbimdjciacnioaaDoor.Q
open Go.RowKit Go.Proofs.YtbimdjciacnioaaDoorW.PrintWords Go.Proofs.YtbimdjciacnioaaDoorW.PrintLast Go.Proofs.YtbimdjciacnioaaDoorW.PrintMore Go.Proofs.YtbimdjciacnioaaDoor.Canon
abbrev Sn := S33
def sp (x : Sn) : Sp := (x.f0, x.f1)
theorem sp_inj {x y : Sn} (h : sp x = sp y) : x = y := by
  cases x; cases y
  simp [sp] at h
  simp [h.1, h.2]
def SM (l : List Sn) (n : Int) : Prop := Mem (l.map sp) n
theorem sm_cons (x : Sn) (t : List Sn) (n : Int) : SM (x :: t) n ↔ (x.f0 ≤ n ∧ n ≤ x.f1) ∨ SM t n := by unfold SM; rw [List.map_cons, mem_cons]; rfl
theorem sm_nil (n : Int) : SM [] n ↔ False := mem_nil n
theorem sm_append (a b : List Sn) (n : Int) : SM (a ++ b) n ↔ SM a n ∨ SM b n := by unfold SM; rw [List.map_append, mem_append]
theorem sm_iff (l : List Sn) (n : Int) : SM l n ↔ ∃ x ∈ l, x.f0 ≤ n ∧ n ≤ x.f1 := by
  unfold SM Mem
  constructor
  · rintro ⟨y, hy, h⟩
    obtain ⟨x, hx, rfl⟩ := List.mem_map.1 hy
    exact ⟨x, hx, h⟩
  · rintro ⟨x, hx, h⟩
    exact ⟨sp x, List.mem_map.2 ⟨x, hx, rfl⟩, h⟩
def Can (P : Int → Prop) (r : List Sn) : Prop := CanFrom 0 (r.map sp) ∧ (∀ x ∈ r, x.f1 ≤ 4294967296) ∧ ∀ n, SM r n ↔ P n
theorem map_sp_inj : ∀ {a b : List Sn}, a.map sp = b.map sp → a = b
  | [], [], _ => rfl
  | [], y :: t, h => by simp at h
  | x :: s, [], h => by simp at h
  | x :: s, y :: t, h => by
    simp only [List.map_cons, List.cons.injEq] at h
    rw [sp_inj h.1, map_sp_inj h.2]
theorem Can.uniq {P : Int → Prop} {a b : List Sn} (ha : Can P a) (hb : Can P b) : a = b :=
  map_sp_inj (Canon.uniq _ _ 0 ha.1 hb.1 (fun n => (ha.2.2 n).trans (hb.2.2 n).symm))
theorem Can.congr {P Q : Int → Prop} {r : List Sn} (h : Can P r) (e : ∀ n, P n ↔ Q n) : Can Q r := ⟨h.1, h.2.1, fun n => (h.2.2 n).trans (e n)⟩
theorem Can.wf {P : Int → Prop} {r : List Sn} (h : Can P r) : ∀ x ∈ r, 0 ≤ x.f0 ∧ x.f0 ≤ x.f1 ∧ x.f1 ≤ 4294967296 := fun x hx => by
  have := can_wf _ _ h.1 (sp x) (List.mem_map.2 ⟨x, hx, rfl⟩)
  exact ⟨this.1, this.2, h.2.1 x hx⟩
theorem Can.range {P : Int → Prop} {r : List Sn} (h : Can P r) (n : Int) (hn : P n) : 0 ≤ n ∧ n ≤ 4294967296 := by
  obtain ⟨x, hx, h1, h2⟩ := (sm_iff r n).1 ((h.2.2 n).2 hn)
  have := h.wf x hx
  omega
theorem rd_at (l : List Sn) (i : Nat) (h : i < l.length) : rd_T33 l (i : Int) = l[i] := by
  simp [rd_T33, List.getD_eq_getElem?_getD, List.getElem?_eq_getElem h]
theorem wrap_id {x : Int} (h0 : -9223372036854775808 ≤ x) (h1 : x ≤ 9223372036854775807) : wrap64 x = x := by unfold wrap64; omega
theorem wrap_succ (i : Nat) (h : i < 9223372036854775807) : wrap64 ((i : Int) + 1) = ((i + 1 : Nat) : Int) := by rw [wrap_id (by omega) (by omega)]; simp
theorem drop_cons {α : Type} (l : List α) (i : Nat) (h : i < l.length) : l.drop i = l[i] :: l.drop (i + 1) := (List.drop_eq_getElem_cons h)
theorem ev_cutp (a b : Int) : interval_cut_1.f a b = some (decide (a ≤ b)) := by unfold interval_cut_1.f; simp
theorem ev_sel (L : List Sn) (hl : L.length < 8796093022208) : ∀ (d i : Nat) (out : List Sn), L.length - i = d → i ≤ L.length → out.length ≤ i → Ev (fun k => interval_selected_at_interval_cut_1.l0 k out L (L.length : Int) (i : Int)) (out ++ (L.drop i).filter (fun x => decide (x.f0 ≤ x.f1))) := by
  intro d
  induction d with
  | zero =>
    intro i out hd hi ho
    have : i = L.length := by omega
    subst this
    refine Ev.step (f := fun _ => some out) (fun k => ?_) ?_
    · simp only [interval_selected_at_interval_cut_1.l0]; rw [if_neg (by omega)]
    · simpa using Ev.now out
  | succ d ih =>
    intro i out hd hi ho
    have hlt : i < L.length := by omega
    rw [drop_cons L i hlt, List.filter_cons]
    by_cases hc : L[i].f0 ≤ L[i].f1
    · rw [if_pos (by simpa using hc)]
      have h2 := ih (i + 1) (out ++ [L[i]]) (by omega) (by omega) (by simp; omega)
      rw [List.append_assoc] at h2
      refine Ev.step (fun k => ?_) h2
      simp only [interval_selected_at_interval_cut_1.l0]
      rw [if_pos (by omega), if_pos (by omega), if_pos (by omega), rd_at L i hlt, ev_cutp]
      simp only [Option.bind_some]
      rw [if_pos (by simpa using hc), if_pos (by omega), wrap_succ i (by omega)]
    · rw [if_neg (by simpa using hc)]
      refine Ev.step (fun k => ?_) (ih (i + 1) out (by omega) (by omega) (by omega))
      simp only [interval_selected_at_interval_cut_1.l0]
      rw [if_pos (by omega), if_pos (by omega), if_pos (by omega), rd_at L i hlt, ev_cutp]
      simp only [Option.bind_some]
      rw [if_neg (by simpa using hc), wrap_succ i (by omega)]
def clip (lo hi : Int) (x : Sn) : Sn := ⟨mx x.f0 lo, mn x.f1 hi⟩
theorem ev_cut0 (L : List Sn) (lo hi : Int) (hl : L.length < 8796093022208) : ∀ (d i : Nat) (out : List Sn), L.length - i = d → i ≤ L.length → out.length = i → Ev (fun k => interval_cut.l0 k lo hi out L (L.length : Int) (i : Int)) ((out ++ (L.drop i).map (clip lo hi)).filter (fun x => decide (x.f0 ≤ x.f1))) := by
  intro d
  induction d with
  | zero =>
    intro i out hd hle ho
    have : i = L.length := by omega
    subst this
    refine Ev.step (f := fun k => (interval_selected_at_interval_cut_1.f k out).bind fun t => some t) (fun k => ?_) ?_
    · simp only [interval_cut.l0]; rw [if_neg (by omega)]
    · refine Ev.bind (a := out.filter (fun x => decide (x.f0 ≤ x.f1))) ?_ ?_
      · have := ev_sel out (by omega) out.length 0 [] (by omega) (by omega) (by simp)
        simpa [interval_selected_at_interval_cut_1.f] using this
      · simpa using Ev.now _
  | succ d ih =>
    intro i out hd hle ho
    have hlt : i < L.length := by omega
    have h2 := ih (i + 1) (out ++ [clip lo hi L[i]]) (by omega) (by omega) (by simp; omega)
    rw [List.append_assoc] at h2
    rw [drop_cons L i hlt, List.map_cons]
    refine Ev.step (fun k => ?_) h2
    simp only [interval_cut.l0]
    rw [if_pos (by omega), if_pos (by omega), if_pos (by omega), rd_at L i hlt, if_pos (by omega), wrap_succ i (by omega)]
    rfl
def clipped (lo hi : Int) (L : List Sn) : List Sn := (L.map (clip lo hi)).filter (fun x => decide (x.f0 ≤ x.f1))
theorem ev_cut (L : List Sn) (lo hi : Int) (hl : L.length < 8796093022208) : Ev (fun k => interval_cut.f k L lo hi) (clipped lo hi L) := by
  have h := ev_cut0 L lo hi hl L.length 0 [] (by omega) (by omega) rfl
  refine Ev.congr (fun k => ?_) h
  unfold interval_cut.f
  rw [if_pos (by omega), if_pos (by omega)]
  rfl
theorem clipped_spec (L : List Sn) : (clipped 0 4294967296 L).length ≤ L.length ∧ (∀ x ∈ clipped 0 4294967296 L, 0 ≤ x.f0 ∧ x.f0 ≤ x.f1 ∧ x.f1 ≤ 4294967296) ∧ ∀ n, SM (clipped 0 4294967296 L) n ↔ SM L n ∧ 0 ≤ n ∧ n ≤ 4294967296 := by
  refine ⟨?_, ?_, ?_⟩
  · unfold clipped
    refine Nat.le_trans (List.length_filter_le _ _) (by simp)
  · intro x hx
    unfold clipped at hx
    obtain ⟨h1, h2⟩ := List.mem_filter.1 hx
    obtain ⟨y, hy, rfl⟩ := List.mem_map.1 h1
    have h3 := of_decide_eq_true h2
    simp only [clip, mx, mn] at h3 ⊢
    refine ⟨?_, h3, ?_⟩
    · split <;> omega
    · split <;> omega
  · intro n
    rw [sm_iff, sm_iff]
    unfold clipped
    constructor
    · rintro ⟨x, hx, h1, h2⟩
      obtain ⟨h3, h4⟩ := List.mem_filter.1 hx
      obtain ⟨y, hy, rfl⟩ := List.mem_map.1 h3
      simp only [clip, mx, mn] at h1 h2
      refine ⟨⟨y, hy, ?_, ?_⟩, ?_, ?_⟩
      · split at h1 <;> omega
      · split at h2 <;> omega
      · split at h1 <;> omega
      · split at h2 <;> omega
    · rintro ⟨⟨y, hy, h1, h2⟩, h3, h4⟩
      refine ⟨clip 0 4294967296 y, List.mem_filter.2 ⟨List.mem_map.2 ⟨y, hy, rfl⟩, ?_⟩, ?_, ?_⟩
      · refine decide_eq_true ?_
        simp only [clip, mx, mn]
        split <;> split <;> omega
      · simp only [clip, mx]
        split <;> omega
      · simp only [clip, mn]
        split <;> omega
def mrg (out : List Sn) (x : Sn) : List Sn :=
  if h : 0 < out.length then (if x.f0 ≤ (out[out.length - 1]'(by omega)).f1 + 1 then out.set (out.length - 1) ⟨(out[out.length - 1]'(by omega)).f0, mx (out[out.length - 1]'(by omega)).f1 x.f1⟩ else out ++ [x]) else out ++ [x]
theorem mrg_nil (x : Sn) : mrg [] x = [x] := by simp [mrg]
theorem mrg_snoc (i : List Sn) (y x : Sn) : mrg (i ++ [y]) x = if x.f0 ≤ y.f1 + 1 then i ++ [(⟨y.f0, mx y.f1 x.f1⟩ : Sn)] else i ++ [y] ++ [x] := by
  have hl : (i ++ [y]).length - 1 = i.length := by simp
  have hg : (i ++ [y])[(i ++ [y]).length - 1]'(by simp) = y := by simp
  unfold mrg
  rw [dif_pos (by simp)]
  rw [hg, hl]
  split
  · simp
  · rfl
theorem mrg_len (out : List Sn) (x : Sn) : out.length ≤ (mrg out x).length ∧ (mrg out x).length ≤ out.length + 1 := by
  unfold mrg
  split
  · split <;> simp
  · simp
theorem fold_len : ∀ (L out : List Sn), (L.foldl mrg out).length ≤ out.length + L.length
  | [], out => by simp
  | x :: t, out => by
    have h1 := fold_len t (mrg out x)
    have h2 := (mrg_len out x).2
    simp only [List.foldl_cons, List.length_cons]
    omega
def WF (x : Sn) : Prop := 0 ≤ x.f0 ∧ x.f0 ≤ x.f1 ∧ x.f1 ≤ 4294967296
theorem ev_nl (L : List Sn) (hl : L.length < 8796093022208) (hL : ∀ x ∈ L, WF x) : ∀ (d i : Nat) (out : List Sn), L.length - i = d → i ≤ L.length → out.length ≤ i → (∀ x ∈ out, WF x) → Ev (fun k => interval_Normal.l0 k out L (L.length : Int) (i : Int)) ((L.drop i).foldl mrg out) := by
  intro d
  induction d with
  | zero =>
    intro i out hd hi ho _
    have : i = L.length := by omega
    subst this
    refine Ev.step (f := fun _ => some out) (fun k => ?_) ?_
    · simp only [interval_Normal.l0]; rw [if_neg (by omega)]
    · simpa using Ev.now out
  | succ d ih =>
    intro i out hd hi ho hw
    have hlt : i < L.length := by omega
    have hx := hL L[i] (List.getElem_mem hlt)
    rw [drop_cons L i hlt, List.foldl_cons]
    have hm : ∀ x ∈ mrg out L[i], WF x := by
      rcases List.eq_nil_or_concat out with rfl | ⟨j, y, rfl⟩
      · rw [mrg_nil]; intro x h; rw [List.mem_singleton.1 h]; exact hx
      · have hy := hw y (by simp)
        rw [List.concat_eq_append, mrg_snoc]
        split
        · intro x h
          rcases List.mem_append.1 h with h | h
          · exact hw x (by simp [h])
          · rw [List.mem_singleton.1 h]
            obtain ⟨y1, y2, y3⟩ := hy
            obtain ⟨x1, x2, x3⟩ := hx
            refine ⟨y1, ?_, ?_⟩ <;> simp only [mx] <;> split <;> omega
        · intro x h
          rcases List.mem_append.1 h with h | h
          · exact hw x (by rw [List.concat_eq_append]; exact h)
          · rw [List.mem_singleton.1 h]; exact hx
    have h2 := ih (i + 1) (mrg out L[i]) (by omega) (by omega) (by have := (mrg_len out L[i]).2; omega) hm
    refine Ev.step (fun k => ?_) h2
    simp only [interval_Normal.l0]
    rw [if_pos (by omega), if_pos (by omega), if_pos (by omega), rd_at L i hlt]
    by_cases h0 : 0 < out.length
    · have hy := hw (out[out.length - 1]'(by omega)) (List.getElem_mem _)
      rw [if_pos (by omega), show wrap64 ((out.length : Int) - 1) = ((out.length - 1 : Nat) : Int) from by rw [wrap_id (by omega) (by omega)]; omega, if_pos (by omega), if_pos (by omega), rd_at out (out.length - 1) (by omega)]
      obtain ⟨y1, y2, y3⟩ := hy
      rw [wrap_id (x := (out[out.length - 1]'(by omega)).f1 + 1) (by omega) (by omega), wrap_succ i (by omega)]
      unfold mrg
      rw [dif_pos h0]
      split
      · rfl
      · rw [if_pos (by omega)]
    · rw [if_neg (by omega), if_pos (by omega), wrap_succ i (by omega)]
      unfold mrg
      rw [dif_neg h0]
theorem mrg_spec : ∀ (L i : List Sn) (y : Sn), (∀ x ∈ L, WF x) → L.Pairwise (fun a b => a.f0 ≤ b.f0) → (∀ x ∈ L, y.f0 ≤ x.f0) → WF y → CanFrom 0 ((i ++ [y]).map sp) → (∀ x ∈ i ++ [y], x.f1 ≤ 4294967296) → Can (fun n => SM (i ++ [y]) n ∨ SM L n) (L.foldl mrg (i ++ [y]))
  | [], i, y, _, _, _, _, hc, hm => by
    refine ⟨hc, hm, fun n => ?_⟩
    simp [sm_nil]
  | x :: t, i, y, hL, hp, hy, hwy, hc, hm => by
    have hx := hL x (List.mem_cons_self ..)
    have ht : ∀ z ∈ t, WF z := fun z hz => hL z (List.mem_cons_of_mem _ hz)
    obtain ⟨p1, p2⟩ := List.pairwise_cons.1 hp
    rw [List.foldl_cons, mrg_snoc]
    have hxy := hy x (List.mem_cons_self ..)
    rw [List.map_append, can_append] at hc
    obtain ⟨c1, c2, _, c4⟩ := hc
    simp only [List.map_cons, List.map_nil, List.mem_singleton, forall_eq] at c2 c4
    obtain ⟨w1, w2, w3⟩ := hwy
    obtain ⟨x1, x2, x3⟩ := hx
    split
    · rename_i hj
      have hmx : y.f1 ≤ mx y.f1 x.f1 ∧ x.f1 ≤ mx y.f1 x.f1 ∧ mx y.f1 x.f1 ≤ 4294967296 ∧ (mx y.f1 x.f1 = y.f1 ∨ mx y.f1 x.f1 = x.f1) := by
        simp only [mx]
        split <;> omega
      generalize mx y.f1 x.f1 = m at hmx
      have h := mrg_spec t i ⟨y.f0, m⟩ ht p2 (fun z hz => Int.le_trans hxy (p1 z hz)) ⟨w1, by simp; omega, hmx.2.2.1⟩ (by
        rw [List.map_append, can_append]
        refine ⟨c1, ?_, ⟨y.f0, by simp [sp, CanFrom]; omega⟩, ?_⟩
        · intro z hz u hu
          simp only [List.map_cons, List.map_nil, List.mem_singleton] at hu
          subst hu
          exact c2 z hz
        · intro u hu
          simp only [List.map_cons, List.map_nil, List.mem_singleton] at hu
          subst hu
          exact c4) (by
        intro z hz
        rcases List.mem_append.1 hz with hz | hz
        · exact hm z (by simp [hz])
        · rw [List.mem_singleton.1 hz]; exact hmx.2.2.1)
      refine h.congr (fun n => ?_)
      rw [sm_append, sm_append, sm_cons, sm_cons, sm_cons, sm_nil]
      simp only [or_false]
      constructor
      · rintro ((h | h) | h)
        · exact .inl (.inl h)
        · by_cases hn : n ≤ y.f1
          · exact .inl (.inr ⟨h.1, hn⟩)
          · exact .inr (.inl ⟨by omega, by have h3 : n ≤ m := h.2; omega⟩)
        · exact .inr (.inr h)
      · rintro ((h | h) | h | h)
        · exact .inl (.inl h)
        · exact .inl (.inr ⟨h.1, show n ≤ m from by omega⟩)
        · exact .inl (.inr ⟨show y.f0 ≤ n from by omega, show n ≤ m from by omega⟩)
        · exact .inr h
    · rename_i hj
      have h := mrg_spec t (i ++ [y]) x ht p2 p1 ⟨x1, x2, x3⟩ (by
        rw [List.map_append, can_append]
        refine ⟨?_, ?_, ⟨x.f0, by simp [sp, CanFrom]; omega⟩, ?_⟩
        · rw [List.map_append, can_append]
          refine ⟨c1, ?_, ⟨y.f0, by simp [sp, CanFrom]; omega⟩, ?_⟩
          · intro z hz u hu
            simp only [List.map_cons, List.map_nil, List.mem_singleton] at hu
            subst hu
            exact c2 z hz
          · intro u hu
            simp only [List.map_cons, List.map_nil, List.mem_singleton] at hu
            subst hu
            exact c4
        · intro z hz u hu
          simp only [List.map_cons, List.map_nil, List.mem_singleton] at hu
          subst hu
          rw [List.map_append] at hz
          rcases List.mem_append.1 hz with hz | hz
          · have := c2 z hz
            simp only [sp] at this ⊢
            omega
          · simp only [List.map_cons, List.map_nil, List.mem_singleton] at hz
            subst hz
            simp only [sp]
            omega
        · intro u hu
          simp only [List.map_cons, List.map_nil, List.mem_singleton] at hu
          subst hu
          exact x1) (by
        intro z hz
        rcases List.mem_append.1 hz with hz | hz
        · exact hm z hz
        · rw [List.mem_singleton.1 hz]; exact x3)
      refine h.congr (fun n => ?_)
      rw [sm_append (i ++ [y]) [x], sm_cons x t, sm_cons x [], sm_nil]
      simp only [or_false, or_assoc]
theorem merge_spec (L : List Sn) (hL : ∀ x ∈ L, WF x) (hp : L.Pairwise (fun a b => a.f0 ≤ b.f0)) : Can (SM L) (L.foldl mrg []) := by
  cases L with
  | nil => exact ⟨trivial, by simp, fun n => Iff.rfl⟩
  | cons x t =>
    obtain ⟨p1, p2⟩ := List.pairwise_cons.1 hp
    have hx := hL x (List.mem_cons_self ..)
    have h := mrg_spec t [] x (fun z hz => hL z (List.mem_cons_of_mem _ hz)) p2 p1 hx ⟨hx.1, hx.2.1, trivial⟩ (by simp; exact hx.2.2)
    rw [List.foldl_cons, mrg_nil]
    refine h.congr (fun n => ?_)
    rw [List.nil_append, sm_cons, sm_cons, sm_nil, or_false]
theorem normal_spec (l : List Sn) (hl : l.length < 8796093022208) : ∃ r, Ev (fun k => interval_Normal.f k l) r ∧ Can (fun n => SM l n ∧ 0 ≤ n ∧ n ≤ 4294967296) r ∧ r.length ≤ l.length := by
  obtain ⟨c1, c2, c3⟩ := clipped_spec l
  obtain ⟨s1, s2, s3⟩ := sortSpans_spec (clipped 0 4294967296 l)
  have hw : ∀ x ∈ sortSpans (clipped 0 4294967296 l), WF x := fun x hx => c2 x (s2.mem_iff.1 hx)
  refine ⟨(sortSpans (clipped 0 4294967296 l)).foldl mrg [], ?_, ?_, ?_⟩
  · refine Ev.congr (fun k => by unfold interval_Normal.f; rfl) (Ev.bind (ev_cut l 0 4294967296 hl) (Ev.bind (g := fun _ => sort_Span.f (clipped 0 4294967296 l)) (a := sortSpans (clipped 0 4294967296 l)) ?_ ?_))
    · refine Ev.congr (fun k => ?_) (Ev.now _)
      unfold sort_Span.f
      rw [if_pos (by omega)]
    · have h := ev_nl (sortSpans (clipped 0 4294967296 l)) (by omega) hw _ 0 [] rfl (Nat.zero_le _) (Nat.le_refl _) (by simp)
      rw [s1] at h
      simpa using h
  · refine (merge_spec _ hw s3).congr (fun n => ?_)
    rw [← c3 n, sm_iff, sm_iff]
    constructor
    · rintro ⟨x, hx, h⟩
      exact ⟨x, s2.mem_iff.1 hx, h⟩
    · rintro ⟨x, hx, h⟩
      exact ⟨x, s2.mem_iff.2 hx, h⟩
  · have := fold_len (sortSpans (clipped 0 4294967296 l)) []
    simp at this
    omega
end Go.Proofs.YtbimdjciacnioaaDoor.Q
end

section
set_option linter.unusedVariables false
set_option linter.unusedSimpArgs false
namespace Go.Proofs.YtbimdjciacnioaaDoor.Q
open Go.RowKit Go.Proofs.YtbimdjciacnioaaDoorW.PrintWords Go.Proofs.YtbimdjciacnioaaDoorW.PrintLast Go.Proofs.YtbimdjciacnioaaDoorW.PrintMore Go.Proofs.YtbimdjciacnioaaDoor.Canon
def minS (c x : Sn) : Sn := if x.f0 < c.f0 then x else c
theorem min_spec (W : List Sn) : ∀ (T : List Sn) (c : Sn), (∀ x ∈ T, x ∈ W) → c ∈ W → (T.foldl minS c) ∈ W ∧ (T.foldl minS c).f0 ≤ c.f0 ∧ ∀ x ∈ T, (T.foldl minS c).f0 ≤ x.f0
  | [], c, _, hc => ⟨hc, Int.le_refl _, by simp⟩
  | x :: t, c, hT, hc => by
    have hm : minS c x ∈ W := by
      unfold minS
      split
      · exact hT x (List.mem_cons_self ..)
      · exact hc
    obtain ⟨h1, h2, h3⟩ := min_spec W t (minS c x) (fun z hz => hT z (List.mem_cons_of_mem _ hz)) hm
    have h4 : (minS c x).f0 ≤ c.f0 ∧ (minS c x).f0 ≤ x.f0 := by unfold minS; split <;> constructor <;> omega
    refine ⟨h1, Int.le_trans h2 h4.1, fun z hz => ?_⟩
    rcases List.mem_cons.1 hz with rfl | hz
    · exact Int.le_trans h2 h4.2
    · exact h3 z hz
theorem ev_min {r : Int × Int × List Sn} (W : List Sn) (hl : W.length < 8796093022208) : ∀ (d i : Nat) (c : Sn), W.length - i = d → i ≤ W.length → Ev (fun k => intrusionref05_least.l1 k W true ((W.drop i).foldl minS c).f0 ((W.drop i).foldl minS c).f1) r → Ev (fun k => intrusionref05_least.l0 k W (i : Int) c.f0 c.f1) r := by
  intro d
  induction d with
  | zero =>
    intro i c hd hi h
    have : i = W.length := by omega
    subst this
    refine Ev.step (fun k => ?_) h
    simp only [intrusionref05_least.l0]
    rw [if_neg (by omega)]
    simp
  | succ d ih =>
    intro i c hd hi h
    have hlt : i < W.length := by omega
    rw [drop_cons W i hlt, List.foldl_cons] at h
    refine Ev.step (fun k => ?_) (ih (i + 1) (minS c W[i]) (by omega) (by omega) h)
    simp only [intrusionref05_least.l0]
    rw [if_pos (by omega), if_pos (by omega), rd_at W i hlt, wrap_succ i (by omega)]
    unfold minS
    split <;> rfl
def pass (s : Int × Bool) (x : Sn) : Int × Bool := if x.f0 ≤ s.1 + 1 ∧ x.f1 > s.1 then (x.f1, true) else s
theorem pass_spec (a : Int) (W : List Sn) (hW : ∀ x ∈ W, WF x) : ∀ (T : List Sn) (s : Int × Bool), (∀ x ∈ T, x ∈ W) → 0 ≤ s.1 → s.1 ≤ 4294967296 → (∀ n, a ≤ n → n ≤ s.1 → SM W n) →
    s.1 ≤ (T.foldl pass s).1 ∧ (T.foldl pass s).1 ≤ 4294967296 ∧ (∀ n, a ≤ n → n ≤ (T.foldl pass s).1 → SM W n) ∧ ((T.foldl pass s).2 = false → (T.foldl pass s).1 = s.1 ∧ ∀ x ∈ T, ¬ (x.f0 ≤ s.1 + 1 ∧ x.f1 > s.1)) ∧
    ((T.foldl pass s).1 = s.1 ∨ ∃ x ∈ T, x.f1 = (T.foldl pass s).1) ∧ ((T.foldl pass s).2 = true → s.2 = true ∨ s.1 < (T.foldl pass s).1) ∧ ((T.foldl pass s).2 = false → s.2 = false)
  | [], s, _, h0, h1, hc => ⟨Int.le_refl _, h1, hc, fun _ => ⟨rfl, by simp⟩, .inl rfl, fun h => .inl h, fun h => h⟩
  | x :: t, s, hT, h0, h1, hc => by
    have hx := hT x (List.mem_cons_self ..)
    have wx := hW x hx
    have ht := fun z hz => hT z (List.mem_cons_of_mem _ hz)
    rw [List.foldl_cons]
    by_cases hp : x.f0 ≤ s.1 + 1 ∧ x.f1 > s.1
    · have e : pass s x = (x.f1, true) := by unfold pass; rw [if_pos hp]
      rw [e]
      obtain ⟨i1, i2, i3, i4, i5, i6, i7⟩ := pass_spec a W hW t (x.f1, true) ht (by have := wx.1; have := wx.2.1; simp; omega) wx.2.2 (fun n n1 n2 => by
        by_cases hn : n ≤ s.1
        · exact hc n n1 hn
        · exact (sm_iff W n).2 ⟨x, hx, by omega, n2⟩)
      simp only at i1 i2 i3 i4 i5 i6 i7
      refine ⟨by omega, i2, i3, fun h => ?_, ?_, fun _ => .inr (by omega), fun h => by simpa using i7 h⟩
      · have := i7 h
        simp at this
      · rcases i5 with e5 | ⟨z, hz, e5⟩
        · exact .inr ⟨x, List.mem_cons_self .., e5.symm⟩
        · exact .inr ⟨z, List.mem_cons_of_mem _ hz, e5⟩
    · have e : pass s x = s := by unfold pass; rw [if_neg hp]
      rw [e]
      obtain ⟨i1, i2, i3, i4, i5, i6, i7⟩ := pass_spec a W hW t s ht h0 h1 hc
      refine ⟨i1, i2, i3, fun h => ⟨(i4 h).1, fun z hz => ?_⟩, ?_, i6, i7⟩
      · rcases List.mem_cons.1 hz with rfl | hz
        · exact hp
        · exact (i4 h).2 z hz
      · rcases i5 with e5 | ⟨z, hz, e5⟩
        · exact .inl e5
        · exact .inr ⟨z, List.mem_cons_of_mem _ hz, e5⟩
theorem ev_pass {r : Int × Int × List Sn} (a : Int) (W : List Sn) (hl : W.length < 8796093022208) (hW : ∀ x ∈ W, WF x) : ∀ (d i : Nat) (s : Int × Bool), W.length - i = d → i ≤ W.length → 0 ≤ s.1 → s.1 ≤ 4294967296 →
    Ev (fun k => intrusionref05_least.l1 k W ((W.drop i).foldl pass s).2 a ((W.drop i).foldl pass s).1) r → Ev (fun k => intrusionref05_least.l2 k W s.2 (i : Int) a s.1) r := by
  intro d
  induction d with
  | zero =>
    intro i s hd hi h0 h1 h
    have : i = W.length := by omega
    subst this
    refine Ev.step (fun k => ?_) h
    simp only [intrusionref05_least.l2]
    rw [if_neg (by omega)]
    simp
  | succ d ih =>
    intro i s hd hi h0 h1 h
    have hlt : i < W.length := by omega
    have wx := hW W[i] (List.getElem_mem hlt)
    rw [drop_cons W i hlt, List.foldl_cons] at h
    have hr : 0 ≤ (pass s W[i]).1 ∧ (pass s W[i]).1 ≤ 4294967296 := by
      unfold pass
      split
      · exact ⟨by have := wx.1; have := wx.2.1; simp; omega, wx.2.2⟩
      · exact ⟨h0, h1⟩
    refine Ev.step (fun k => ?_) (ih (i + 1) (pass s W[i]) (by omega) (by omega) hr.1 hr.2 h)
    simp only [intrusionref05_least.l2]
    rw [if_pos (by omega), if_pos (by omega), rd_at W i hlt, wrap_succ i (by omega), wrap_id (by omega) (by omega)]
    unfold pass
    by_cases c1 : W[i].f0 ≤ s.1 + 1
    · by_cases c2 : W[i].f1 > s.1
      · rw [if_pos c1, if_pos c2, if_pos ⟨c1, c2⟩]
      · rw [if_pos c1, if_neg c2, if_neg (fun h => c2 h.2)]
    · rw [if_neg c1, if_neg (fun h => c1 h.1)]
theorem ev_rest (a b : Int) (W : List Sn) (hl : W.length < 8796093022208) : ∀ (d i : Nat) (out : List Sn), W.length - i = d → i ≤ W.length → out.length ≤ i → Ev (fun k => intrusionref05_least.l3 k W out (i : Int) a b) (a, b, out ++ (W.drop i).filter (fun x => decide (b < x.f0))) := by
  intro d
  induction d with
  | zero =>
    intro i out hd hi ho
    have : i = W.length := by omega
    subst this
    refine Ev.step (f := fun _ => some (a, b, out)) (fun k => ?_) ?_
    · simp only [intrusionref05_least.l3]; rw [if_neg (by omega)]
    · simpa using Ev.now (a, b, out)
  | succ d ih =>
    intro i out hd hi ho
    have hlt : i < W.length := by omega
    rw [drop_cons W i hlt, List.filter_cons]
    by_cases hc : b < W[i].f0
    · rw [if_pos (by simpa using hc)]
      have h2 := ih (i + 1) (out ++ [W[i]]) (by omega) (by omega) (by simp; omega)
      rw [List.append_assoc] at h2
      refine Ev.step (fun k => ?_) h2
      simp only [intrusionref05_least.l3]
      rw [if_pos (by omega), if_pos (by omega), rd_at W i hlt, if_pos (by omega), if_pos (by omega), wrap_succ i (by omega)]
    · rw [if_neg (by simpa using hc)]
      refine Ev.step (fun k => ?_) (ih (i + 1) out (by omega) (by omega) (by omega))
      simp only [intrusionref05_least.l3]
      rw [if_pos (by omega), if_pos (by omega), rd_at W i hlt, if_neg (by omega), wrap_succ i (by omega)]
theorem count_lt {h h' : Int} (hlt : h < h') : ∀ (W : List Sn), (∃ x ∈ W, x.f1 = h') → (W.countP fun x => decide (h' < x.f1)) < (W.countP fun x => decide (h < x.f1))
  | [], hx => by simp at hx
  | y :: t, hx => by
    have hle : ∀ T : List Sn, (T.countP fun x => decide (h' < x.f1)) ≤ (T.countP fun x => decide (h < x.f1)) := fun T => List.countP_mono_left (fun x _ hp => by simp at hp ⊢; omega)
    rw [List.countP_cons, List.countP_cons]
    obtain ⟨x, hx, e⟩ := hx
    rcases List.mem_cons.1 hx with rfl | hx
    · have := hle t
      rw [if_neg (by simp; omega), if_pos (by simp; omega)]
      omega
    · have h1 := count_lt hlt t ⟨x, hx, e⟩
      by_cases c : h' < y.f1
      · rw [if_pos (by simpa using c), if_pos (by simp; omega)]
        omega
      · rw [if_neg (by simpa using c)]
        omega
theorem fix_spec (a : Int) (W : List Sn) (hl : W.length < 8796093022208) (hW : ∀ x ∈ W, WF x) : ∀ (c : Nat) (hi : Int), (W.countP fun x => decide (hi < x.f1)) = c → 0 ≤ hi → hi ≤ 4294967296 → (∀ n, a ≤ n → n ≤ hi → SM W n) →
    ∃ b, hi ≤ b ∧ b ≤ 4294967296 ∧ Ev (fun k => intrusionref05_least.l1 k W true a hi) (a, b, W.filter (fun x => decide (b < x.f0))) ∧ (∀ n, a ≤ n → n ≤ b → SM W n) ∧ ∀ x ∈ W, x.f0 ≤ b + 1 → x.f1 ≤ b := by
  intro c
  induction c using Nat.strongRecOn with
  | _ c ih =>
    intro hi hc h0 h1 hcov
    obtain ⟨p1, p2, p3, p4, p5, p6, p7⟩ := pass_spec a W hW W (hi, false) (fun _ h => h) h0 h1 hcov
    simp only at p1 p2 p3 p4 p5 p6 p7
    have hgo : ∀ {r : Int × Int × List Sn}, Ev (fun k => intrusionref05_least.l1 k W (W.foldl pass (hi, false)).2 a (W.foldl pass (hi, false)).1) r → Ev (fun k => intrusionref05_least.l1 k W true a hi) r := by
      intro r h
      have h2 := ev_pass a W hl hW W.length 0 (hi, false) (by omega) (by omega) h0 h1 (by simpa using h)
      refine Ev.step (fun k => ?_) h2
      simp only [intrusionref05_least.l1]
      rfl
    cases hb : (W.foldl pass (hi, false)).2 with
    | true =>
      have hlt : hi < (W.foldl pass (hi, false)).1 := by
        rcases p6 hb with h | h
        · simp at h
        · exact h
      have hex : ∃ x ∈ W, x.f1 = (W.foldl pass (hi, false)).1 := by
        rcases p5 with h | h
        · omega
        · exact h
      obtain ⟨b, b1, b2, b3, b4, b5⟩ := ih _ (by rw [← hc]; exact count_lt hlt W hex) (W.foldl pass (hi, false)).1 rfl (by omega) p2 p3
      refine ⟨b, by omega, b2, hgo ?_, b4, b5⟩
      rw [hb]
      exact b3
    | false =>
      obtain ⟨e1, e2⟩ := p4 hb
      refine ⟨hi, Int.le_refl _, h1, hgo ?_, hcov, fun x hx hle => ?_⟩
      · rw [hb, e1]
        have h3 := ev_rest a hi W hl W.length 0 [] (by omega) (by omega) (by simp)
        refine Ev.step (fun k => ?_) (by simpa using h3)
        simp only [intrusionref05_least.l1]
        rfl
      · have := e2 x hx
        omega
theorem least_spec (W : List Sn) (hl : W.length < 8796093022208) (hW : ∀ x ∈ W, WF x) (hne : 0 < W.length) :
    ∃ a b, (∃ x ∈ W, x.f0 = a) ∧ a ≤ b ∧ b ≤ 4294967296 ∧ Ev (fun k => intrusionref05_least.f k W) (a, b, W.filter (fun x => decide (b < x.f0))) ∧ (∀ n, a ≤ n → n ≤ b → SM W n) ∧ (∀ x ∈ W, a ≤ x.f0) ∧ ∀ x ∈ W, x.f0 ≤ b + 1 → x.f1 ≤ b := by
  obtain ⟨m1, m2, m3⟩ := min_spec W W W[0] (fun _ h => h) (List.getElem_mem hne)
  have wm := hW _ m1
  obtain ⟨b, b1, b2, b3, b4, b5⟩ := fix_spec (W.foldl minS W[0]).f0 W hl hW _ (W.foldl minS W[0]).f1 rfl (by have := wm.1; have := wm.2.1; omega) wm.2.2 (fun n n1 n2 => (sm_iff W n).2 ⟨_, m1, n1, n2⟩)
  refine ⟨(W.foldl minS W[0]).f0, b, ⟨_, m1, rfl⟩, by have := wm.2.1; omega, b2, ?_, b4, m3, b5⟩
  have h := ev_min W hl W.length 0 W[0] (by omega) (by omega) (by simpa using b3)
  refine Ev.congr (fun k => ?_) h
  unfold intrusionref05_least.f
  rw [if_pos (by omega), show rd_T33 W 0 = W[0] from rd_at W 0 hne]
  rfl
theorem rn_spec : ∀ (m : Nat) (W : List Sn), W.length = m → m < 8796093022208 → (∀ x ∈ W, WF x) →
    ∃ r : List Sn, (∀ out : List Sn, out.length + m < 8796093022208 → Ev (fun k => intrusionref05_Normal.l1 k W out) (out ++ r)) ∧ r.length ≤ m ∧ (∀ p, (∀ x ∈ W, p ≤ x.f0) → CanFrom p (r.map sp)) ∧ (∀ x ∈ r, x.f1 ≤ 4294967296) ∧ ∀ n, SM r n ↔ SM W n := by
  intro m
  induction m using Nat.strongRecOn with
  | _ m ih =>
    intro W hm hl hW
    by_cases hne : 0 < W.length
    · obtain ⟨a, b, ⟨x0, hx0, e0⟩, hab, hb, hev, hcov, hmin, hclo⟩ := least_spec W (by omega) hW hne
      have hlen : (W.filter (fun x => decide (b < x.f0))).length < W.length := by
        refine Nat.lt_of_le_of_ne (List.length_filter_le _ _) (fun e => ?_)
        have := List.length_filter_eq_length_iff.1 e x0 hx0
        simp at this
        omega
      obtain ⟨r, r1, r2, r3, r4, r5⟩ := ih _ (by omega) (W.filter (fun x => decide (b < x.f0))) rfl (by omega) (fun x hx => hW x ((List.mem_filter.1 hx).1))
      have hrest : ∀ x ∈ W.filter (fun x => decide (b < x.f0)), b + 2 ≤ x.f0 := by
        intro x hx
        obtain ⟨h1, h2⟩ := List.mem_filter.1 hx
        simp at h2
        have := (hW x h1).2.1
        have := hclo x h1
        omega
      refine ⟨(⟨a, b⟩ : Sn) :: r, fun out ho => ?_, by simp; omega, fun p hp => ⟨?_, hab, r3 (b + 2) hrest⟩, ?_, fun n => ?_⟩
      · have h2 := r1 (out ++ [(⟨a, b⟩ : Sn)]) (by simp; omega)
        rw [List.append_assoc] at h2
        refine Ev.step (f := fun k => (intrusionref05_least.f k W).bind fun bt => if out.length < 8796093022208 then intrusionref05_Normal.l1 k bt.2.2 (out ++ [(⟨bt.1, bt.2.1⟩ : Sn)]) else none) (fun k => ?_) (Ev.bind hev ?_)
        · simp only [intrusionref05_Normal.l1]
          rw [if_pos (by omega)]
        · refine Ev.congr (fun k => ?_) h2
          rw [if_pos (by omega)]
      · rw [← e0]; exact hp x0 hx0
      · intro x hx
        rcases List.mem_cons.1 hx with rfl | hx
        · exact hb
        · exact r4 x hx
      · rw [sm_cons, r5 n]
        constructor
        · rintro (h | h)
          · exact hcov n h.1 h.2
          · obtain ⟨x, hx, h⟩ := (sm_iff _ n).1 h
            exact (sm_iff _ n).2 ⟨x, (List.mem_filter.1 hx).1, h⟩
        · intro h
          obtain ⟨x, hx, h1, h2⟩ := (sm_iff _ n).1 h
          by_cases hc : x.f0 ≤ b + 1
          · exact .inl ⟨by have := hmin x hx; simp; omega, by have := hclo x hx hc; simp; omega⟩
          · exact .inr ((sm_iff _ n).2 ⟨x, List.mem_filter.2 ⟨hx, by simp; omega⟩, h1, h2⟩)
    · have h0 : W = [] := List.eq_nil_of_length_eq_zero (by omega)
      subst h0
      refine ⟨[], fun out ho => ?_, by simp, fun p hp => trivial, by simp, fun n => Iff.rfl⟩
      rw [List.append_nil]
      refine Ev.step (f := fun _ => some out) (fun k => ?_) (Ev.now _)
      simp only [intrusionref05_Normal.l1]
      rw [if_neg (by simp)]
theorem ev_rn0 {r : List Sn} (L : List Sn) (hl : L.length < 8796093022208) : ∀ (d i : Nat) (out : List Sn), L.length - i = d → i ≤ L.length → out.length ≤ i → Ev (fun k => intrusionref05_Normal.l1 k (out ++ clipped 0 4294967296 (L.drop i)) []) r → Ev (fun k => intrusionref05_Normal.l0 k L out (i : Int)) r := by
  intro d
  induction d with
  | zero =>
    intro i out hd hi ho h
    have : i = L.length := by omega
    subst this
    refine Ev.step (fun k => ?_) h
    simp only [intrusionref05_Normal.l0]
    rw [if_neg (by omega)]
    simp [clipped]
  | succ d ih =>
    intro i out hd hi ho h
    have hlt : i < L.length := by omega
    rw [drop_cons L i hlt] at h
    unfold clipped at h
    rw [List.map_cons, List.filter_cons] at h
    by_cases hc : (clip 0 4294967296 L[i]).f0 ≤ (clip 0 4294967296 L[i]).f1
    · rw [if_pos (by simpa using hc)] at h
      refine Ev.step (fun k => ?_) (ih (i + 1) (out ++ [clip 0 4294967296 L[i]]) (by omega) (by omega) (by simp; omega) (by rw [List.append_assoc]; exact h))
      simp only [intrusionref05_Normal.l0]
      rw [if_pos (by omega), if_pos (by omega), rd_at L i hlt]
      unfold intrusionref05_cut.f
      simp only [Option.bind_some]
      rw [if_pos (show decide (mx L[i].f0 0 ≤ mn L[i].f1 4294967296) = true from decide_eq_true hc), if_pos (by omega), wrap_succ i (by omega)]
      rfl
    · rw [if_neg (by simpa using hc)] at h
      refine Ev.step (fun k => ?_) (ih (i + 1) out (by omega) (by omega) (by omega) h)
      simp only [intrusionref05_Normal.l0]
      rw [if_pos (by omega), if_pos (by omega), rd_at L i hlt]
      unfold intrusionref05_cut.f
      simp only [Option.bind_some]
      rw [if_neg (show ¬ decide (mx L[i].f0 0 ≤ mn L[i].f1 4294967296) = true from fun h => hc (of_decide_eq_true h)), wrap_succ i (by omega)]
theorem rnormal_spec (l : List Sn) (hl : l.length < 8796093022208) : ∃ r, Ev (fun k => intrusionref05_Normal.f k l) r ∧ Can (fun n => SM l n ∧ 0 ≤ n ∧ n ≤ 4294967296) r ∧ r.length ≤ l.length := by
  obtain ⟨c1, c2, c3⟩ := clipped_spec l
  obtain ⟨r, r1, r2, r3, r4, r5⟩ := rn_spec _ (clipped 0 4294967296 l) rfl (by omega) c2
  refine ⟨r, ?_, ⟨r3 0 (fun x hx => (c2 x hx).1), r4, fun n => (r5 n).trans (c3 n)⟩, by omega⟩
  have h := ev_rn0 l hl l.length 0 [] (by omega) (by omega) (by simp) (by simpa using r1 [] (by simp; omega))
  exact Ev.congr (fun k => rfl) h
end Go.Proofs.YtbimdjciacnioaaDoor.Q
end

section
set_option linter.unusedVariables false
set_option linter.unusedSimpArgs false
namespace Go.Proofs.YtbimdjciacnioaaDoor.Q
open Go.RowKit Go.Proofs.YtbimdjciacnioaaDoorW.PrintWords Go.Proofs.YtbimdjciacnioaaDoorW.PrintLast Go.Proofs.YtbimdjciacnioaaDoorW.PrintMore
def inSpan (n : Int) (x : S33) : Bool := decide (x.f0 ≤ n) && decide (n ≤ x.f1)
def interval_Contains.f (l0 : List S33) (a1 : Int) : Option Bool := some (decide (0 ≤ a1) && (decide (a1 ≤ 4294967296) && l0.any (inSpan a1)))
end Go.Proofs.YtbimdjciacnioaaDoor.Q
end

section
namespace Go.Proofs.YtbimdjciacnioaaDoor.Q
open Go.RowKit Go.Proofs.YtbimdjciacnioaaDoorW.PrintWords Go.Proofs.YtbimdjciacnioaaDoorW.PrintLast Go.Proofs.YtbimdjciacnioaaDoorW.PrintMore
attribute [local go_sem] max2_int min2_int max_two min_two max_three min_three max_four min_four
set_option linter.unusedVariables false
set_option linter.unusedSimpArgs false
def interval_Valid.l0 : Nat → List (S33) → List (S33) → Int → Int → Option (Bool)
  | 0, _, _, _, _ => none
  | k + 1, x0, x5, x6, x7 => if x7 < x6 then (if 0 ≤ x7 then (if x7 < (x5.length : Int) then (if ((rd_T33 x5 x7).f0) < 0 then (some false) else (if ((rd_T33 x5 x7).f0) > ((rd_T33 x5 x7).f1) then (some false) else (if ((rd_T33 x5 x7).f1) > 4294967296 then (some false) else (if x7 > 0 then (if 0 ≤ (wrap64 (x7 - 1)) then (if (wrap64 (x7 - 1)) < (x0.length : Int) then (if (wrap64 (((rd_T33 x5 x7).f0) - 1)) ≤ ((rd_T33 x0 (wrap64 (x7 - 1))).f1) then (some false) else (interval_Valid.l0 k x0 x5 x6 (wrap64 (x7 + 1)))) else (none)) else (none)) else (interval_Valid.l0 k x0 x5 x6 (wrap64 (x7 + 1))))))) else (none)) else (none)) else (some true)
def interval_Valid.f (k : Nat) (l0 : List (S33)) : Option (Bool) := interval_Valid.l0 k l0 l0 (l0.length : Int) 0
theorem interval_Valid.mono_l : ∀ k, (∀ y0 y1 y2 y3, LeO (interval_Valid.l0 k y0 y1 y2 y3) (interval_Valid.l0 (k + 1) y0 y1 y2 y3))
  | 0 => fun _ _ _ _ r h => by simp [interval_Valid.l0] at h
  | k + 1 => by
    have ih0 := interval_Valid.mono_l k
    · intro y0 y1 y2 y3
      unfold interval_Valid.l0
      repeat' first
      | (with_reducible exact ih0 _ _ _ _)
      | (with_reducible exact LeO.refl _)
      | (with_reducible exact LeO.none _)
      | (with_reducible refine LeO.ite ?_ ?_)
      | (with_reducible refine LeO.bind ?_ (fun _ => ?_))
      | exact ih0 _ _ _ _
      | exact LeO.none _
      | refine LeO.ite ?_ ?_
      | refine LeO.bind ?_ (fun _ => ?_)
theorem interval_Valid.mono : ∀ a0 k, LeO (interval_Valid.f k a0) (interval_Valid.f (k + 1) a0) := by
  intro a0 k
  have ih0 := interval_Valid.mono_l k
  unfold interval_Valid.f
  repeat' first
      | (with_reducible exact ih0 _ _ _ _)
      | (with_reducible exact LeO.refl _)
      | (with_reducible exact LeO.none _)
      | (with_reducible refine LeO.ite ?_ ?_)
      | (with_reducible refine LeO.bind ?_ (fun _ => ?_))
      | exact ih0 _ _ _ _
      | exact LeO.none _
      | refine LeO.ite ?_ ?_
      | refine LeO.bind ?_ (fun _ => ?_)
end Go.Proofs.YtbimdjciacnioaaDoor.Q
end

section
namespace Go.Proofs.YtbimdjciacnioaaDoor.Q
open Go.RowKit Go.Proofs.YtbimdjciacnioaaDoorW.PrintWords Go.Proofs.YtbimdjciacnioaaDoorW.PrintLast Go.Proofs.YtbimdjciacnioaaDoorW.PrintMore
attribute [local go_sem] max2_int min2_int max_two min_two max_three min_three max_four min_four
set_option linter.unusedVariables false
set_option linter.unusedSimpArgs false
mutual
def intrusionref05_Complement.l0 : Nat → Int → Int → List (S33) → List (S33) → Int → Option ((List (S33)))
  | 0, _, _, _, _, _ => none
  | k + 1, x1, x2, x7, x8, x9 => if x9 < (x7.length : Int) then (intrusionref05_Complement.j1 k x1 x2 x7 x8 x9 (decide (x1 ≤ x2))) else (intrusionref05_Complement.j1 k x1 x2 x7 x8 x9 false)
def intrusionref05_Complement.j1 : Nat → Int → Int → List (S33) → List (S33) → Int → Bool → Option ((List (S33)))
  | 0, _, _, _, _, _, _ => none
  | k + 1, x1, x2, x7, x8, x9, x26 => if x26 = true then (if 0 ≤ x9 then (if x9 < (x7.length : Int) then (if x1 ≤ (mn x2 (wrap64 (((rd_T33 x7 x9).f0) - 1))) then (if x8.length < 8796093022208 then (intrusionref05_Complement.l0 k (mx x1 (wrap64 (((rd_T33 x7 x9).f1) + 1))) x2 x7 (x8 ++ [(⟨x1, mn x2 (wrap64 (((rd_T33 x7 x9).f0) - 1))⟩ : S33)]) (wrap64 (x9 + 1))) else (none)) else (intrusionref05_Complement.l0 k (mx x1 (wrap64 (((rd_T33 x7 x9).f1) + 1))) x2 x7 x8 (wrap64 (x9 + 1)))) else (none)) else (none)) else (if x1 ≤ x2 then (if x8.length < 8796093022208 then (some (x8 ++ [(⟨x1, x2⟩ : S33)])) else (none)) else (some x8))
end
def intrusionref05_Complement.f (k : Nat) (l0 : List (S33)) (a1 : Int) (a2 : Int) : Option ((List (S33))) := (intrusionref05_Normal.f k l0).bind fun t347 => (intrusionref05_Complement.l0 k (mx a1 0) (mn a2 4294967296) t347 (([] : List (S33))) 0)
theorem intrusionref05_Complement.mono_l : ∀ k, (∀ y0 y1 y2 y3 y4, LeO (intrusionref05_Complement.l0 k y0 y1 y2 y3 y4) (intrusionref05_Complement.l0 (k + 1) y0 y1 y2 y3 y4)) ∧ (∀ y0 y1 y2 y3 y4 y5, LeO (intrusionref05_Complement.j1 k y0 y1 y2 y3 y4 y5) (intrusionref05_Complement.j1 (k + 1) y0 y1 y2 y3 y4 y5))
  | 0 => ⟨fun _ _ _ _ _ r h => by simp [intrusionref05_Complement.l0] at h, fun _ _ _ _ _ _ r h => by simp [intrusionref05_Complement.j1] at h⟩
  | k + 1 => by
    obtain ⟨ih0, ih1⟩ := intrusionref05_Complement.mono_l k
    refine ⟨?_, ?_⟩
    · intro y0 y1 y2 y3 y4
      unfold intrusionref05_Complement.l0
      repeat' first
      | (with_reducible exact ih0 _ _ _ _ _)
      | (with_reducible exact ih1 _ _ _ _ _ _)
      | (with_reducible exact intrusionref05_Normal.mono _ _)
      | (with_reducible exact LeO.refl _)
      | (with_reducible exact LeO.none _)
      | (with_reducible refine LeO.ite ?_ ?_)
      | (with_reducible refine LeO.bind ?_ (fun _ => ?_))
      | exact ih0 _ _ _ _ _
      | exact ih1 _ _ _ _ _ _
      | exact intrusionref05_Normal.mono _ _
      | exact LeO.none _
      | refine LeO.ite ?_ ?_
      | refine LeO.bind ?_ (fun _ => ?_)
    · intro y0 y1 y2 y3 y4 y5
      unfold intrusionref05_Complement.j1
      repeat' first
      | (with_reducible exact ih0 _ _ _ _ _)
      | (with_reducible exact ih1 _ _ _ _ _ _)
      | (with_reducible exact intrusionref05_Normal.mono _ _)
      | (with_reducible exact LeO.refl _)
      | (with_reducible exact LeO.none _)
      | (with_reducible refine LeO.ite ?_ ?_)
      | (with_reducible refine LeO.bind ?_ (fun _ => ?_))
      | exact ih0 _ _ _ _ _
      | exact ih1 _ _ _ _ _ _
      | exact intrusionref05_Normal.mono _ _
      | exact LeO.none _
      | refine LeO.ite ?_ ?_
      | refine LeO.bind ?_ (fun _ => ?_)
theorem intrusionref05_Complement.mono : ∀ a0 a1 a2 k, LeO (intrusionref05_Complement.f k a0 a1 a2) (intrusionref05_Complement.f (k + 1) a0 a1 a2) := by
  intro a0 a1 a2 k
  obtain ⟨ih0, ih1⟩ := intrusionref05_Complement.mono_l k
  unfold intrusionref05_Complement.f
  repeat' first
      | (with_reducible exact ih0 _ _ _ _ _)
      | (with_reducible exact ih1 _ _ _ _ _ _)
      | (with_reducible exact intrusionref05_Normal.mono _ _)
      | (with_reducible exact LeO.refl _)
      | (with_reducible exact LeO.none _)
      | (with_reducible refine LeO.ite ?_ ?_)
      | (with_reducible refine LeO.bind ?_ (fun _ => ?_))
      | exact ih0 _ _ _ _ _
      | exact ih1 _ _ _ _ _ _
      | exact intrusionref05_Normal.mono _ _
      | exact LeO.none _
      | refine LeO.ite ?_ ?_
      | refine LeO.bind ?_ (fun _ => ?_)
end Go.Proofs.YtbimdjciacnioaaDoor.Q
end

section
namespace Go.Proofs.YtbimdjciacnioaaDoor.Q
open Go.RowKit Go.Proofs.YtbimdjciacnioaaDoorW.PrintWords Go.Proofs.YtbimdjciacnioaaDoorW.PrintLast Go.Proofs.YtbimdjciacnioaaDoorW.PrintMore
attribute [local go_sem] max2_int min2_int max_two min_two max_three min_three max_four min_four
set_option linter.unusedVariables false
set_option linter.unusedSimpArgs false
mutual
def intrusionref05_Intersect.l0 : Nat → List (S33) → List (S33) → List (S33) → Int → Option ((List (S33)))
  | 0, _, _, _, _ => none
  | k + 1, x5, x6, x7, x8 => if x8 < (x5.length : Int) then (intrusionref05_Intersect.l1 k x5 x6 x7 x8 0) else ((intrusionref05_Normal.f k x7).bind fun t328 => (some t328))
def intrusionref05_Intersect.l1 : Nat → List (S33) → List (S33) → List (S33) → Int → Int → Option ((List (S33)))
  | 0, _, _, _, _, _ => none
  | k + 1, x5, x6, x7, x8, x9 => if x9 < (x6.length : Int) then (if 0 ≤ x8 then (if x8 < (x5.length : Int) then (if 0 ≤ x9 then ((intrusionref05_cut.f ((rd_T33 x5 x8).f0) ((rd_T33 x5 x8).f1) ((rd_T33 x6 x9).f0) ((rd_T33 x6 x9).f1)).bind fun bt334 => (if bt334.2.2 = true then (if x7.length < 8796093022208 then (intrusionref05_Intersect.l1 k x5 x6 (x7 ++ [(⟨bt334.1, bt334.2.1⟩ : S33)]) x8 (wrap64 (x9 + 1))) else (none)) else (intrusionref05_Intersect.l1 k x5 x6 x7 x8 (wrap64 (x9 + 1))))) else (none)) else (none)) else (none)) else (intrusionref05_Intersect.l0 k x5 x6 x7 (wrap64 (x8 + 1)))
end
def intrusionref05_Intersect.f (k : Nat) (l0 : List (S33)) (l1 : List (S33)) : Option ((List (S33))) := (intrusionref05_Normal.f k l0).bind fun t319 => ((intrusionref05_Normal.f k l1).bind fun t322 => (intrusionref05_Intersect.l0 k t319 t322 (([] : List (S33))) 0))
theorem intrusionref05_Intersect.mono_l : ∀ k, (∀ y0 y1 y2 y3, LeO (intrusionref05_Intersect.l0 k y0 y1 y2 y3) (intrusionref05_Intersect.l0 (k + 1) y0 y1 y2 y3)) ∧ (∀ y0 y1 y2 y3 y4, LeO (intrusionref05_Intersect.l1 k y0 y1 y2 y3 y4) (intrusionref05_Intersect.l1 (k + 1) y0 y1 y2 y3 y4))
  | 0 => ⟨fun _ _ _ _ r h => by simp [intrusionref05_Intersect.l0] at h, fun _ _ _ _ _ r h => by simp [intrusionref05_Intersect.l1] at h⟩
  | k + 1 => by
    obtain ⟨ih0, ih1⟩ := intrusionref05_Intersect.mono_l k
    refine ⟨?_, ?_⟩
    · intro y0 y1 y2 y3
      unfold intrusionref05_Intersect.l0
      repeat' first
      | (with_reducible exact ih0 _ _ _ _)
      | (with_reducible exact ih1 _ _ _ _ _)
      | (with_reducible exact intrusionref05_Normal.mono _ _)
      | (with_reducible exact LeO.refl _)
      | (with_reducible exact LeO.none _)
      | (with_reducible refine LeO.ite ?_ ?_)
      | (with_reducible refine LeO.bind ?_ (fun _ => ?_))
      | exact ih0 _ _ _ _
      | exact ih1 _ _ _ _ _
      | exact intrusionref05_Normal.mono _ _
      | exact LeO.none _
      | refine LeO.ite ?_ ?_
      | refine LeO.bind ?_ (fun _ => ?_)
    · intro y0 y1 y2 y3 y4
      unfold intrusionref05_Intersect.l1
      repeat' first
      | (with_reducible exact ih0 _ _ _ _)
      | (with_reducible exact ih1 _ _ _ _ _)
      | (with_reducible exact intrusionref05_Normal.mono _ _)
      | (with_reducible exact LeO.refl _)
      | (with_reducible exact LeO.none _)
      | (with_reducible refine LeO.ite ?_ ?_)
      | (with_reducible refine LeO.bind ?_ (fun _ => ?_))
      | exact ih0 _ _ _ _
      | exact ih1 _ _ _ _ _
      | exact intrusionref05_Normal.mono _ _
      | exact LeO.none _
      | refine LeO.ite ?_ ?_
      | refine LeO.bind ?_ (fun _ => ?_)
theorem intrusionref05_Intersect.mono : ∀ a0 a1 k, LeO (intrusionref05_Intersect.f k a0 a1) (intrusionref05_Intersect.f (k + 1) a0 a1) := by
  intro a0 a1 k
  obtain ⟨ih0, ih1⟩ := intrusionref05_Intersect.mono_l k
  unfold intrusionref05_Intersect.f
  repeat' first
      | (with_reducible exact ih0 _ _ _ _)
      | (with_reducible exact ih1 _ _ _ _ _)
      | (with_reducible exact intrusionref05_Normal.mono _ _)
      | (with_reducible exact LeO.refl _)
      | (with_reducible exact LeO.none _)
      | (with_reducible refine LeO.ite ?_ ?_)
      | (with_reducible refine LeO.bind ?_ (fun _ => ?_))
      | exact ih0 _ _ _ _
      | exact ih1 _ _ _ _ _
      | exact intrusionref05_Normal.mono _ _
      | exact LeO.none _
      | refine LeO.ite ?_ ?_
      | refine LeO.bind ?_ (fun _ => ?_)
end Go.Proofs.YtbimdjciacnioaaDoor.Q
end

section
set_option linter.unusedVariables false
set_option linter.unusedSimpArgs false
namespace Go.Proofs.YtbimdjciacnioaaDoor.Q
open Go.RowKit Go.Proofs.YtbimdjciacnioaaDoorW.PrintWords Go.Proofs.YtbimdjciacnioaaDoorW.PrintLast Go.Proofs.YtbimdjciacnioaaDoorW.PrintMore Go.Proofs.YtbimdjciacnioaaDoor.Canon
def total : List Sn → Int
  | [] => 0
  | x :: t => (x.f1 - x.f0 + 1) + total t
theorem total_le : ∀ (l : List Sn) (lo : Int), CanFrom lo (l.map sp) → (∀ x ∈ l, x.f1 ≤ 4294967296) → 0 ≤ total l ∧ (l = [] ∨ total l ≤ 4294967297 - lo)
  | [], _, _, _ => ⟨Int.le_refl _, .inl rfl⟩
  | x :: t, lo, c, h => by
    obtain ⟨c1, c2, c3⟩ := c
    have hx := h x (List.mem_cons_self ..)
    obtain ⟨i1, i2⟩ := total_le t _ c3 (fun z hz => h z (List.mem_cons_of_mem _ hz))
    simp only [sp] at c1 c2 i2
    refine ⟨by simp only [total]; omega, .inr ?_⟩
    rcases i2 with rfl | i2
    · simp only [total]; omega
    · simp only [total]; omega
theorem Can.total {P : Int → Prop} {r : List Sn} (h : Can P r) : 0 ≤ total r ∧ total r ≤ 4294967297 := by
  obtain ⟨h1, h2⟩ := total_le r 0 h.1 h.2.1
  rcases h2 with rfl | h2
  · exact ⟨h1, by simp [Q.total]⟩
  · exact ⟨h1, by omega⟩
end Go.Proofs.YtbimdjciacnioaaDoor.Q
end

section
set_option linter.unusedVariables false
set_option linter.unusedSimpArgs false
namespace Go.Proofs.YtbimdjciacnioaaDoor.Q
open Go.RowKit Go.Proofs.YtbimdjciacnioaaDoorW.PrintWords Go.Proofs.YtbimdjciacnioaaDoorW.PrintLast Go.Proofs.YtbimdjciacnioaaDoorW.PrintMore Go.Proofs.YtbimdjciacnioaaDoor.Canon
theorem sm_ge {l : List Sn} {lo n : Int} (c : CanFrom lo (l.map sp)) (h : SM l n) : lo ≤ n := c.ge h
theorem mx_spec (a b : Int) : a ≤ mx a b ∧ b ≤ mx a b ∧ (mx a b = a ∨ mx a b = b) := by unfold mx; split <;> omega
theorem mn_spec (a b : Int) : mn a b ≤ a ∧ mn a b ≤ b ∧ (mn a b = a ∨ mn a b = b) := by unfold mn; split <;> omega
theorem compl_fold (lo hi : Int) (hlo : 0 ≤ lo) (hhi : hi ≤ 4294967296) : ∀ (t : List Sn) (p nx : Int) (out : List Sn), CanFrom p (t.map sp) → 0 ≤ p → (∀ x ∈ t, x.f1 ≤ 4294967296) → lo ≤ nx → (nx = lo ∨ nx ≤ p) →
    ∃ r, (let s := t.foldl (complStep lo hi) (nx, out); addTo s.2 s.1 hi) = out ++ r ∧ CanFrom nx (r.map sp) ∧ (∀ x ∈ r, x.f1 ≤ 4294967296) ∧ r.length ≤ t.length + 1 ∧ ∀ n, SM r n ↔ nx ≤ n ∧ n ≤ hi ∧ ¬ SM t n
  | [], p, nx, out, _, _, _, _, _ => by
    by_cases h : nx ≤ hi
    · refine ⟨[(⟨nx, hi⟩ : Sn)], by simp [addTo, h], ⟨Int.le_refl _, h, trivial⟩, by simpa using hhi, by simp, fun n => ?_⟩
      rw [sm_cons, sm_nil]
      simp [sm_nil]
    · refine ⟨[], by simp [addTo, h], trivial, by simp, by simp, fun n => ?_⟩
      rw [sm_nil]
      constructor
      · exact False.elim
      · rintro ⟨h1, h2, _⟩; omega
  | x :: t, p, nx, out, c, hp, hm, hnx, hor => by
    obtain ⟨c1, c2, c3⟩ := c
    simp only [sp] at c1 c2 c3
    have hx := hm x (List.mem_cons_self ..)
    have ht := fun z hz => hm z (List.mem_cons_of_mem x hz)
    have hge : ∀ n, SM t n → x.f1 + 2 ≤ n := fun n h => sm_ge c3 h
    rw [List.foldl_cons]
    by_cases k1 : x.f1 < lo
    · have e : complStep lo hi (nx, out) x = (nx, out) := by unfold complStep; rw [if_pos k1]
      rw [e]
      obtain ⟨r, r1, r2, r3, r4, r5⟩ := compl_fold lo hi hlo hhi t (x.f1 + 2) nx out c3 (by omega) ht hnx (by
        rcases hor with h | h
        · exact .inl h
        · by_cases h2 : nx = lo
          · exact .inl h2
          · exact .inr (by omega))
      refine ⟨r, r1, r2, r3, by simp; omega, fun n => (r5 n).trans ?_⟩
      rw [sm_cons]
      constructor
      · rintro ⟨h1, h2, h3⟩
        exact ⟨h1, h2, fun h => h.elim (fun h => by omega) h3⟩
      · rintro ⟨h1, h2, h3⟩
        exact ⟨h1, h2, fun h => h3 (.inr h)⟩
    · by_cases k2 : x.f0 > hi
      · have e : complStep lo hi (nx, out) x = (nx, out) := by unfold complStep; rw [if_neg k1, if_pos k2]
        rw [e]
        obtain ⟨r, r1, r2, r3, r4, r5⟩ := compl_fold lo hi hlo hhi t (x.f1 + 2) nx out c3 (by omega) ht hnx (by
          rcases hor with h | h
          · exact .inl h
          · exact .inr (by omega))
        refine ⟨r, r1, r2, r3, by simp; omega, fun n => (r5 n).trans ?_⟩
        rw [sm_cons]
        constructor
        · rintro ⟨h1, h2, h3⟩
          exact ⟨h1, h2, fun h => h.elim (fun h => by omega) h3⟩
        · rintro ⟨h1, h2, h3⟩
          exact ⟨h1, h2, fun h => h3 (.inr h)⟩
      · have e : complStep lo hi (nx, out) x = (x.f1 + 1, addTo out nx (x.f0 - 1)) := by
          unfold complStep
          rw [if_neg k1, if_neg k2, wrap_id (by omega) (by omega), wrap_id (by omega) (by omega)]
        rw [e]
        obtain ⟨r, r1, r2, r3, r4, r5⟩ := compl_fold lo hi hlo hhi t (x.f1 + 2) (x.f1 + 1) (addTo out nx (x.f0 - 1)) c3 (by omega) ht (by omega) (.inr (by omega))
        have hnx2 : nx ≤ x.f1 + 1 := by rcases hor with h | h <;> omega
        by_cases k3 : nx ≤ x.f0 - 1
        · refine ⟨(⟨nx, x.f0 - 1⟩ : Sn) :: r, by rw [r1]; simp [addTo, k3], ⟨Int.le_refl _, k3, r2.mono (by simp [sp]; omega)⟩, ?_, by simp; omega, fun n => ?_⟩
          · intro z hz
            rcases List.mem_cons.1 hz with rfl | hz
            · show x.f0 - 1 ≤ 4294967296; omega
            · exact r3 z hz
          · rw [sm_cons, r5 n, sm_cons]
            constructor
            · rintro (⟨h1, h2⟩ | ⟨h1, h2, h3⟩)
              · have h2 : n ≤ x.f0 - 1 := h2
                refine ⟨h1, by omega, fun h => ?_⟩
                rcases h with h | h
                · omega
                · have := hge n h; omega
              · exact ⟨by omega, h2, fun h => h.elim (fun h => by omega) h3⟩
            · rintro ⟨h1, h2, h3⟩
              by_cases hn : n ≤ x.f0 - 1
              · exact .inl ⟨h1, hn⟩
              · refine .inr ⟨?_, h2, fun h => h3 (.inr h)⟩
                apply Classical.byContradiction
                intro hc
                exact h3 (.inl ⟨by omega, by omega⟩)
        · refine ⟨r, by rw [r1]; simp [addTo, k3], r2.mono hnx2, r3, by simp; omega, fun n => ?_⟩
          rw [r5 n, sm_cons]
          constructor
          · rintro ⟨h1, h2, h3⟩
            exact ⟨by omega, h2, fun h => h.elim (fun h => by omega) h3⟩
          · rintro ⟨h1, h2, h3⟩
            refine ⟨?_, h2, fun h => h3 (.inr h)⟩
            apply Classical.byContradiction
            intro hc
            exact h3 (.inl ⟨by omega, by omega⟩)
def ComplP (l : List Sn) (a1 a2 n : Int) : Prop := a1 ≤ n ∧ 0 ≤ n ∧ n ≤ a2 ∧ n ≤ 4294967296 ∧ ¬ SM l n
theorem compl_spec (l : List Sn) (a1 a2 : Int) (hl : l.length < 8796093022207) : ∃ r, Ev (fun k => interval_Complement.f k l a1 a2) r ∧ Can (ComplP l a1 a2) r ∧ r.length ≤ l.length + 1 := by
  obtain ⟨S, h1, h2, h3⟩ := normal_spec l (by omega)
  obtain ⟨m1, m2, m3⟩ := mx_spec a1 0
  obtain ⟨n1, n2, n3⟩ := mn_spec a2 4294967296
  obtain ⟨r, r1, r2, r3, r4, r5⟩ := compl_fold (mx a1 0) (mn a2 4294967296) m2 n2 S 0 (mx a1 0) [] h2.1 (Int.le_refl _) h2.2.1 (Int.le_refl _) (.inl rfl)
  refine ⟨r, ?_, ⟨r2.mono m2, r3, fun n => ?_⟩, by omega⟩
  · refine Ev.congr (fun k => rfl) (Ev.bind h1 (Ev.congr (fun k => ?_) (Ev.now r)))
    rw [if_pos (by omega)]
    exact congrArg some r1
  · rw [r5 n, h2.2.2 n]
    unfold ComplP
    constructor
    · rintro ⟨e1, e2, e3⟩
      exact ⟨by omega, by omega, by omega, by omega, fun h => e3 ⟨h, by omega, by omega⟩⟩
    · rintro ⟨e1, e2, e3, e4, e5⟩
      refine ⟨by omega, by omega, fun h => e5 h.1⟩
end Go.Proofs.YtbimdjciacnioaaDoor.Q
end

section
set_option linter.unusedVariables false
set_option linter.unusedSimpArgs false
namespace Go.Proofs.YtbimdjciacnioaaDoor.Q
open Go.RowKit Go.Proofs.YtbimdjciacnioaaDoorW.PrintWords Go.Proofs.YtbimdjciacnioaaDoorW.PrintLast Go.Proofs.YtbimdjciacnioaaDoorW.PrintMore Go.Proofs.YtbimdjciacnioaaDoor.Canon
def interP (x y : Sn) : List Sn := if mx x.f0 y.f0 ≤ mn x.f1 y.f1 then [(⟨mx x.f0 y.f0, mn x.f1 y.f1⟩ : Sn)] else []
theorem ev_inter (X Y : List Sn) (hX : X.length < 4000000000000) (hY : Y.length < 4000000000000) : ∀ (d i j : Nat) (p q : Int) (out : List Sn), X.length - i + (Y.length - j) = d → i ≤ X.length → j ≤ Y.length → out.length ≤ i + j → CanFrom p ((X.drop i).map sp) → CanFrom q ((Y.drop j).map sp) →
    ∃ r, Ev (fun k => interval_Intersect.l0 k X Y out (i : Int) (j : Int)) (out ++ r) ∧ CanFrom (max p q) (r.map sp) ∧ r.length ≤ d ∧ (∀ n, SM r n ↔ SM (X.drop i) n ∧ SM (Y.drop j) n) ∧ ∀ z ∈ r, ∃ x ∈ X.drop i, z.f1 ≤ x.f1 := by
  intro d
  induction d using Nat.strongRecOn with
  | _ d ih =>
    intro i j p q out hd hi hj ho cX cY
    by_cases hiX : i < X.length
    · by_cases hjY : j < Y.length
      · rw [drop_cons X i hiX, List.map_cons] at cX
        rw [drop_cons Y j hjY, List.map_cons] at cY
        obtain ⟨a1, a2, a3⟩ := cX
        obtain ⟨b1, b2, b3⟩ := cY
        simp only [sp] at a1 a2 a3 b1 b2 b3
        obtain ⟨m1, m2, m3⟩ := mx_spec X[i].f0 Y[j].f0
        obtain ⟨n1, n2, n3⟩ := mn_spec X[i].f1 Y[j].f1
        have gX : ∀ n, SM (X.drop (i + 1)) n → X[i].f1 + 2 ≤ n := fun n h => sm_ge a3 h
        have gY : ∀ n, SM (Y.drop (j + 1)) n → Y[j].f1 + 2 ≤ n := fun n h => sm_ge b3 h
        have hstep : ∀ k, interval_Intersect.l0 (k + 2) X Y out (i : Int) (j : Int) = if X[i].f1 < Y[j].f1 then interval_Intersect.l0 k X Y (out ++ interP X[i] Y[j]) ((i + 1 : Nat) : Int) (j : Int) else interval_Intersect.l0 k X Y (out ++ interP X[i] Y[j]) (i : Int) ((j + 1 : Nat) : Int) := by
          intro k
          simp only [interval_Intersect.l0, interval_Intersect.j1]
          rw [if_pos (by omega), if_pos (decide_eq_true (by omega)), if_pos (by omega), if_pos (by omega), if_pos (by omega), if_pos (by omega), rd_at X i hiX, rd_at Y j hjY, wrap_succ i (by omega), wrap_succ j (by omega)]
          unfold interP
          by_cases hc : mx X[i].f0 Y[j].f0 ≤ mn X[i].f1 Y[j].f1
          · rw [if_pos hc, if_pos hc, if_pos (by omega)]
            rfl
          · rw [if_neg hc, if_neg hc, List.append_nil]
        have ev2 : ∀ {g : Nat → Option (List Sn)} {r : List Sn}, (∀ k, interval_Intersect.l0 (k + 2) X Y out (i : Int) (j : Int) = g k) → Ev g r → Ev (fun k => interval_Intersect.l0 k X Y out (i : Int) (j : Int)) r := by
          intro g r hg h
          obtain ⟨K, h⟩ := h
          refine ⟨K + 2, fun k hk => ?_⟩
          obtain ⟨m, rfl⟩ : ∃ m, k = m + 2 := ⟨k - 2, by omega⟩
          show interval_Intersect.l0 (m + 2) X Y out (i : Int) (j : Int) = some r
          rw [hg m]
          exact h m (by omega)
        have hlen : (interP X[i] Y[j]).length ≤ 1 := by unfold interP; split <;> simp
        have hpm : ∀ n, SM (interP X[i] Y[j]) n ↔ (X[i].f0 ≤ n ∧ n ≤ X[i].f1) ∧ (Y[j].f0 ≤ n ∧ n ≤ Y[j].f1) := by
          intro n
          unfold interP
          split
          · rw [sm_cons, sm_nil, or_false]
            show mx X[i].f0 Y[j].f0 ≤ n ∧ n ≤ mn X[i].f1 Y[j].f1 ↔ _
            constructor
            · rintro ⟨h1, h2⟩; exact ⟨⟨by omega, by omega⟩, by omega, by omega⟩
            · rintro ⟨⟨h1, h2⟩, h3, h4⟩; exact ⟨by omega, by omega⟩
          · rw [sm_nil]
            constructor
            · exact False.elim
            · rintro ⟨⟨h1, h2⟩, h3, h4⟩; omega
        have hcan : ∀ (r : List Sn) (s : Int), CanFrom s (r.map sp) → max p q ≤ s → mn X[i].f1 Y[j].f1 + 2 ≤ s → CanFrom (max p q) ((interP X[i] Y[j] ++ r).map sp) := by
          intro r s hr h1 h2
          unfold interP
          split
          · rename_i hc
            exact ⟨by show max p q ≤ mx X[i].f0 Y[j].f0; omega, hc, hr.mono (by show mn X[i].f1 Y[j].f1 + 2 ≤ s; exact h2)⟩
          · exact hr.mono h1
        by_cases hlt : X[i].f1 < Y[j].f1
        · obtain ⟨r, r1, r2, r3, r4, r5⟩ := ih (d - 1) (by omega) (i + 1) j (X[i].f1 + 2) Y[j].f0 (out ++ interP X[i] Y[j]) (by omega) (by omega) hj (by rw [List.length_append]; omega) a3 (by rw [drop_cons Y j hjY, List.map_cons]; exact ⟨Int.le_refl _, b2, b3⟩)
          refine ⟨interP X[i] Y[j] ++ r, ev2 (g := fun k => interval_Intersect.l0 k X Y (out ++ interP X[i] Y[j]) ((i + 1 : Nat) : Int) (j : Int)) (fun k => by rw [hstep, if_pos hlt]) (by rw [← List.append_assoc]; exact r1), hcan r _ r2 (by omega) (by omega), by rw [List.length_append]; omega, fun n => ?_, ?_⟩
          · rw [sm_append, hpm, r4 n, drop_cons X i hiX, drop_cons Y j hjY, sm_cons, sm_cons]
            constructor
            · rintro (⟨h1, h2⟩ | ⟨h1, h2⟩)
              · exact ⟨.inl h1, .inl h2⟩
              · exact ⟨.inr h1, h2⟩
            · rintro ⟨h1 | h1, h2⟩
              · rcases h2 with h2 | h2
                · exact .inl ⟨h1, h2⟩
                · have := gY n h2; omega
              · exact .inr ⟨h1, h2⟩
          · intro z hz
            rw [drop_cons X i hiX]
            rcases List.mem_append.1 hz with hz | hz
            · unfold interP at hz
              split at hz
              · rw [List.mem_singleton.1 hz]; exact ⟨X[i], List.mem_cons_self .., by show mn X[i].f1 Y[j].f1 ≤ _; omega⟩
              · simp at hz
            · obtain ⟨x, hx, h⟩ := r5 z hz
              exact ⟨x, List.mem_cons_of_mem _ hx, h⟩
        · obtain ⟨r, r1, r2, r3, r4, r5⟩ := ih (d - 1) (by omega) i (j + 1) X[i].f0 (Y[j].f1 + 2) (out ++ interP X[i] Y[j]) (by omega) hi (by omega) (by rw [List.length_append]; omega) (by rw [drop_cons X i hiX, List.map_cons]; exact ⟨Int.le_refl _, a2, a3⟩) b3
          refine ⟨interP X[i] Y[j] ++ r, ev2 (g := fun k => interval_Intersect.l0 k X Y (out ++ interP X[i] Y[j]) (i : Int) ((j + 1 : Nat) : Int)) (fun k => by rw [hstep, if_neg hlt]) (by rw [← List.append_assoc]; exact r1), hcan r _ r2 (by omega) (by omega), by rw [List.length_append]; omega, fun n => ?_, ?_⟩
          · rw [sm_append, hpm, r4 n, drop_cons X i hiX, drop_cons Y j hjY, sm_cons, sm_cons]
            constructor
            · rintro (⟨h1, h2⟩ | ⟨h1, h2⟩)
              · exact ⟨.inl h1, .inl h2⟩
              · exact ⟨h1, .inr h2⟩
            · rintro ⟨h1, h2 | h2⟩
              · rcases h1 with h1 | h1
                · exact .inl ⟨h1, h2⟩
                · have := gX n h1; omega
              · exact .inr ⟨h1, h2⟩
          · intro z hz
            rw [drop_cons X i hiX]
            rcases List.mem_append.1 hz with hz | hz
            · unfold interP at hz
              split at hz
              · rw [List.mem_singleton.1 hz]; exact ⟨X[i], List.mem_cons_self .., by show mn X[i].f1 Y[j].f1 ≤ _; omega⟩
              · simp at hz
            · obtain ⟨x, hx, h⟩ := r5 z hz
              rw [drop_cons X i hiX] at hx
              exact ⟨x, hx, h⟩
      · have : j = Y.length := by omega
        subst this
        refine ⟨[], ⟨2, fun k hk => ?_⟩, trivial, by simp, fun n => ?_, by simp⟩
        · obtain ⟨m, rfl⟩ : ∃ m, k = m + 2 := ⟨k - 2, by omega⟩
          show interval_Intersect.l0 (m + 2) X Y out (i : Int) (Y.length : Int) = _
          simp only [interval_Intersect.l0, interval_Intersect.j1]
          rw [if_pos (by omega), if_neg (by simp), List.append_nil]
        · rw [List.drop_eq_nil_of_le (Nat.le_refl Y.length)]
          simp [sm_nil]
    · have : i = X.length := by omega
      subst this
      refine ⟨[], ⟨2, fun k hk => ?_⟩, trivial, by simp, fun n => ?_, by simp⟩
      · obtain ⟨m, rfl⟩ : ∃ m, k = m + 2 := ⟨k - 2, by omega⟩
        show interval_Intersect.l0 (m + 2) X Y out (X.length : Int) (j : Int) = _
        simp only [interval_Intersect.l0, interval_Intersect.j1]
        rw [if_neg (by omega), if_neg (by simp), List.append_nil]
      · rw [List.drop_eq_nil_of_le (Nat.le_refl X.length)]
        simp [sm_nil]
def InterP (a b : List Sn) (n : Int) : Prop := SM a n ∧ SM b n ∧ 0 ≤ n ∧ n ≤ 4294967296
theorem inter_spec (a b : List Sn) (ha : a.length < 4000000000000) (hb : b.length < 4000000000000) : ∃ r, Ev (fun k => interval_Intersect.f k a b) r ∧ Can (InterP a b) r ∧ r.length ≤ a.length + b.length := by
  obtain ⟨X, x1, x2, x3⟩ := normal_spec a (by omega)
  obtain ⟨Y, y1, y2, y3⟩ := normal_spec b (by omega)
  obtain ⟨r, r1, r2, r3, r4, r5⟩ := ev_inter X Y (by omega) (by omega) _ 0 0 0 0 [] rfl (by omega) (by omega) (by simp) x2.1 y2.1
  refine ⟨r, Ev.congr (fun k => rfl) (Ev.bind x1 (Ev.bind y1 (by simpa using r1))), ⟨r2, fun z hz => ?_, fun n => ?_⟩, by omega⟩
  · obtain ⟨x, hx, h⟩ := r5 z hz
    have := x2.2.1 x hx
    omega
  · rw [r4 n, List.drop_zero, List.drop_zero, x2.2.2 n, y2.2.2 n]
    unfold InterP
    constructor
    · rintro ⟨⟨h1, h2, h3⟩, h4, _, _⟩; exact ⟨h1, h4, h2, h3⟩
    · rintro ⟨h1, h2, h3, h4⟩; exact ⟨⟨h1, h3, h4⟩, h2, h3, h4⟩
theorem ev_rinter1 (X Y : List Sn) (hX : X.length < 1000000) (hY : Y.length < 1000000) {r : List Sn} (i : Nat) (hi : i < X.length) : ∀ (d j : Nat) (out : List Sn), Y.length - j = d → j ≤ Y.length → out.length ≤ i * Y.length + j →
    Ev (fun k => intrusionref05_Intersect.l0 k X Y (out ++ (Y.drop j).flatMap (interP X[i])) ((i + 1 : Nat) : Int)) r → Ev (fun k => intrusionref05_Intersect.l1 k X Y out (i : Int) (j : Int)) r := by
  intro d
  induction d with
  | zero =>
    intro j out hd hj ho h
    have : j = Y.length := by omega
    subst this
    refine Ev.step (fun k => ?_) h
    simp only [intrusionref05_Intersect.l1]
    rw [if_neg (by omega), wrap_succ i (by omega)]
    simp
  | succ d ih =>
    intro j out hd hj ho h
    have hlt : j < Y.length := by omega
    have hb : i * Y.length + Y.length ≤ 1000000 * 1000000 := by
      have h1 : i * Y.length ≤ 999999 * 1000000 := Nat.mul_le_mul (by omega) (by omega)
      omega
    rw [drop_cons Y j hlt, List.flatMap_cons, ← List.append_assoc] at h
    have hlen : (interP X[i] Y[j]).length ≤ 1 := by unfold interP; split <;> simp
    have h2 := ih (j + 1) (out ++ interP X[i] Y[j]) (by omega) (by omega) (by rw [List.length_append]; omega) h
    refine Ev.step (fun k => ?_) h2
    simp only [intrusionref05_Intersect.l1]
    rw [if_pos (by omega), if_pos (by omega), if_pos (by omega), if_pos (by omega), rd_at X i hi, rd_at Y j hlt]
    unfold intrusionref05_cut.f interP
    simp only [Option.bind_some]
    by_cases hc : mx X[i].f0 Y[j].f0 ≤ mn X[i].f1 Y[j].f1
    · rw [if_pos (decide_eq_true hc), if_pos (by omega), if_pos hc, wrap_succ j (by omega)]
    · rw [if_neg (fun h => hc (of_decide_eq_true h)), if_neg hc, wrap_succ j (by omega), List.append_nil]
theorem ev_rinter (X Y : List Sn) (hX : X.length < 1000000) (hY : Y.length < 1000000) {r : List Sn} : ∀ (d i : Nat) (out : List Sn), X.length - i = d → i ≤ X.length → out.length ≤ i * Y.length →
    Ev (fun k => intrusionref05_Normal.f k (out ++ (X.drop i).flatMap (fun x => Y.flatMap (interP x)))) r → Ev (fun k => intrusionref05_Intersect.l0 k X Y out (i : Int)) r := by
  intro d
  induction d with
  | zero =>
    intro i out hd hi ho h
    have : i = X.length := by omega
    subst this
    rw [List.drop_eq_nil_of_le (Nat.le_refl _), List.flatMap_nil, List.append_nil] at h
    refine Ev.step (f := fun k => (intrusionref05_Normal.f k out).bind fun t => some t) (fun k => ?_) (Ev.bind h (Ev.now _))
    simp only [intrusionref05_Intersect.l0]
    rw [if_neg (by omega)]
  | succ d ih =>
    intro i out hd hi ho h
    have hlt : i < X.length := by omega
    rw [drop_cons X i hlt, List.flatMap_cons, ← List.append_assoc] at h
    have hfl : ∀ (T : List Sn) (x : Sn), (T.flatMap (interP x)).length ≤ T.length := by
      intro T x
      induction T with
      | nil => simp
      | cons y t ih2 =>
        rw [List.flatMap_cons, List.length_append, List.length_cons]
        have : (interP x y).length ≤ 1 := by unfold interP; split <;> simp
        omega
    have h2 := ih (i + 1) (out ++ Y.flatMap (interP X[i])) (by omega) (by omega) (by rw [List.length_append, Nat.succ_mul]; have := hfl Y X[i]; omega) h
    have h3 := ev_rinter1 X Y hX hY i hlt Y.length 0 out (by omega) (by omega) (by omega) (by simpa using h2)
    refine Ev.step (fun k => ?_) h3
    simp only [intrusionref05_Intersect.l0]
    rw [if_pos (by omega)]
    rfl
theorem rinter_spec (a b : List Sn) (ha : a.length < 1000) (hb : b.length < 1000) : ∃ r, Ev (fun k => intrusionref05_Intersect.f k a b) r ∧ Can (InterP a b) r := by
  obtain ⟨X, x1, x2, x3⟩ := rnormal_spec a (by omega)
  obtain ⟨Y, y1, y2, y3⟩ := rnormal_spec b (by omega)
  have hlen : (X.flatMap (fun x => Y.flatMap (interP x))).length < 8796093022208 := by
    have h1 : ∀ (T : List Sn) (x : Sn), (T.flatMap (interP x)).length ≤ T.length := by
      intro T x
      induction T with
      | nil => simp
      | cons y t ih2 =>
        rw [List.flatMap_cons, List.length_append, List.length_cons]
        have : (interP x y).length ≤ 1 := by unfold interP; split <;> simp
        omega
    have h2 : ∀ T : List Sn, (T.flatMap (fun x => Y.flatMap (interP x))).length ≤ T.length * Y.length := by
      intro T
      induction T with
      | nil => simp
      | cons y t ih2 =>
        rw [List.flatMap_cons, List.length_append, List.length_cons, Nat.succ_mul]
        have := h1 Y y
        omega
    have h3 := h2 X
    have h4 : X.length * Y.length ≤ 1000 * 1000 := Nat.mul_le_mul (by omega) (by omega)
    omega
  obtain ⟨r, r1, r2, r3⟩ := rnormal_spec (X.flatMap (fun x => Y.flatMap (interP x))) hlen
  refine ⟨r, Ev.congr (fun k => rfl) (Ev.bind x1 (Ev.bind y1 (ev_rinter X Y (by omega) (by omega) X.length 0 [] (by omega) (by omega) (by simp) (by simpa using r1)))), r2.congr (fun n => ?_)⟩
  have hm : SM (X.flatMap (fun x => Y.flatMap (interP x))) n ↔ SM X n ∧ SM Y n := by
    rw [sm_iff, sm_iff, sm_iff]
    constructor
    · rintro ⟨z, hz, h1, h2⟩
      obtain ⟨x, hx, hz⟩ := List.mem_flatMap.1 hz
      obtain ⟨y, hy, hz⟩ := List.mem_flatMap.1 hz
      unfold interP at hz
      split at hz
      · have := List.mem_singleton.1 hz
        subst this
        have h1 : mx x.f0 y.f0 ≤ n := h1
        have h2 : n ≤ mn x.f1 y.f1 := h2
        obtain ⟨m1, m2, _⟩ := mx_spec x.f0 y.f0
        obtain ⟨n1, n2, _⟩ := mn_spec x.f1 y.f1
        exact ⟨⟨x, hx, by omega, by omega⟩, y, hy, by omega, by omega⟩
      · simp at hz
    · rintro ⟨⟨x, hx, h1, h2⟩, y, hy, h3, h4⟩
      obtain ⟨m1, m2, m3⟩ := mx_spec x.f0 y.f0
      obtain ⟨n1, n2, n3⟩ := mn_spec x.f1 y.f1
      have hc : mx x.f0 y.f0 ≤ mn x.f1 y.f1 := by omega
      refine ⟨⟨mx x.f0 y.f0, mn x.f1 y.f1⟩, List.mem_flatMap.2 ⟨x, hx, List.mem_flatMap.2 ⟨y, hy, ?_⟩⟩, show mx x.f0 y.f0 ≤ n from by omega, show n ≤ mn x.f1 y.f1 from by omega⟩
      unfold interP
      rw [if_pos hc]
      exact List.mem_singleton.2 rfl
  rw [hm, x2.2.2 n, y2.2.2 n]
  unfold InterP
  constructor
  · rintro ⟨⟨⟨h1, h2, h3⟩, h4, _, _⟩, _⟩; exact ⟨h1, h4, h2, h3⟩
  · rintro ⟨h1, h2, h3, h4⟩; exact ⟨⟨⟨h1, h3, h4⟩, h2, h3, h4⟩, h3, h4⟩
end Go.Proofs.YtbimdjciacnioaaDoor.Q
end

section
namespace Go.Proofs.YtbimdjciacnioaaDoor.Q
open Go.RowKit Go.Proofs.YtbimdjciacnioaaDoorW.PrintWords Go.Proofs.YtbimdjciacnioaaDoorW.PrintLast Go.Proofs.YtbimdjciacnioaaDoorW.PrintMore
attribute [local go_sem] max2_int min2_int max_two min_two max_three min_three max_four min_four
set_option linter.unusedVariables false
set_option linter.unusedSimpArgs false
def intrusionref05_Minus.f (k : Nat) (l0 : List (S33)) (l1 : List (S33)) : Option ((List (S33))) := (intrusionref05_Complement.f k l1 0 4294967296).bind fun t363 => ((intrusionref05_Intersect.f k l0 t363).bind fun t366 => (some t366))
theorem intrusionref05_Minus.mono : ∀ a0 a1 k, LeO (intrusionref05_Minus.f k a0 a1) (intrusionref05_Minus.f (k + 1) a0 a1) := by
  intro a0 a1 k
  unfold intrusionref05_Minus.f
  repeat' first
      | (with_reducible exact intrusionref05_Complement.mono _ _ _ _)
      | (with_reducible exact intrusionref05_Intersect.mono _ _ _)
      | (with_reducible exact LeO.refl _)
      | (with_reducible exact LeO.none _)
      | (with_reducible refine LeO.ite ?_ ?_)
      | (with_reducible refine LeO.bind ?_ (fun _ => ?_))
      | exact intrusionref05_Complement.mono _ _ _ _
      | exact intrusionref05_Intersect.mono _ _ _
      | exact LeO.none _
      | refine LeO.ite ?_ ?_
      | refine LeO.bind ?_ (fun _ => ?_)
end Go.Proofs.YtbimdjciacnioaaDoor.Q
end

section
set_option linter.unusedVariables false
set_option linter.unusedSimpArgs false
namespace Go.Proofs.YtbimdjciacnioaaDoor.Q
open Go.RowKit Go.Proofs.YtbimdjciacnioaaDoorW.PrintWords Go.Proofs.YtbimdjciacnioaaDoorW.PrintLast Go.Proofs.YtbimdjciacnioaaDoorW.PrintMore Go.Proofs.YtbimdjciacnioaaDoor.Canon
def MinusP (a b : List Sn) (n : Int) : Prop := SM a n ∧ ¬ SM b n ∧ 0 ≤ n ∧ n ≤ 4294967296
theorem minus_spec (a b : List Sn) (ha : a.length < 2000000000000) (hb : b.length < 2000000000000) : ∃ r, Ev (fun k => interval_Minus.f k a b) r ∧ Can (MinusP a b) r ∧ r.length ≤ a.length + b.length + 1 := by
  obtain ⟨c, c1, c2, c3⟩ := compl_spec b 0 4294967296 (by omega)
  obtain ⟨r, r1, r2, r3⟩ := inter_spec a c (by omega) (by omega)
  refine ⟨r, Ev.congr (fun k => rfl) (Ev.bind c1 (Ev.bind r1 (Ev.now _))), r2.congr (fun n => ?_), by omega⟩
  unfold InterP MinusP
  rw [c2.2.2 n]
  unfold ComplP
  constructor
  · rintro ⟨h1, ⟨_, _, _, _, h2⟩, h3, h4⟩; exact ⟨h1, h2, h3, h4⟩
  · rintro ⟨h1, h2, h3, h4⟩; exact ⟨h1, ⟨h3, h3, h4, h4, h2⟩, h3, h4⟩
theorem subset_evP (a b : List Sn) (ha : a.length < 2000000000000) (hb : b.length < 2000000000000) : ∃ r, Can (MinusP a b) r ∧ Ev (fun k => interval_Subset.f k a b) ((r.length : Int) == 0) := by
  obtain ⟨r, r1, r2, r3⟩ := minus_spec a b (by omega) (by omega)
  exact ⟨r, r2, Ev.congr (fun k => rfl) (Ev.bind r1 (Ev.now _))⟩
open Classical in
noncomputable def card (P : Int → Prop) (m : Nat) : Nat := (List.range m).countP (fun i : Nat => decide (P (i : Int)))
open Classical in
theorem card_succ (P : Int → Prop) (m : Nat) : card P (m + 1) = card P m + if P (m : Int) then 1 else 0 := by
  unfold card
  rw [List.range_succ, List.countP_append, List.countP_cons, List.countP_nil]
  by_cases h : P (m : Int) <;> simp [h]
theorem card_congr {P Q : Int → Prop} (h : ∀ n, P n ↔ Q n) (m : Nat) : card P m = card Q m := by
  have : P = Q := funext fun n => propext (h n)
  rw [this]
open Classical in
theorem card_add (P Q : Int → Prop) : ∀ m, card (fun n => P n ∨ Q n) m + card (fun n => P n ∧ Q n) m = card P m + card Q m
  | 0 => rfl
  | m + 1 => by
    have ih := card_add P Q m
    simp only [card_succ]
    by_cases h1 : P (m : Int) <;> by_cases h2 : Q (m : Int) <;> simp [h1, h2] <;> omega
open Classical in
theorem card_false : ∀ m, card (fun _ => False) m = 0
  | 0 => rfl
  | m + 1 => by rw [card_succ, card_false m]; simp
open Classical in
theorem card_span (a b : Int) (h0 : 0 ≤ a) (h : a ≤ b + 1) : ∀ m : Nat, (card (fun n => a ≤ n ∧ n ≤ b) m : Int) = if (m : Int) ≤ a then 0 else if (m : Int) ≤ b + 1 then m - a else b - a + 1
  | 0 => by rw [if_pos (by omega)]; rfl
  | m + 1 => by
    have ih := card_span a b h0 h m
    rw [card_succ]
    by_cases c : a ≤ (m : Int) ∧ (m : Int) ≤ b
    · rw [if_pos c]
      split at ih <;> split <;> (try split) <;> (try split at ih) <;> omega
    · rw [if_neg c]
      split at ih <;> split <;> (try split) <;> (try split at ih) <;> omega
theorem card_total : ∀ (l : List Sn) (lo : Int), 0 ≤ lo → CanFrom lo (l.map sp) → (∀ x ∈ l, x.f1 ≤ 4294967296) → ∀ m : Nat, 4294967297 ≤ m → (card (SM l) m : Int) = total l
  | [], lo, _, _, _, m, _ => by rw [card_congr (Q := fun _ => False) (fun n => sm_nil n), card_false]; rfl
  | x :: t, lo, h0, c, h, m, hm => by
    obtain ⟨c1, c2, c3⟩ := c
    simp only [sp] at c1 c2 c3
    have hx := h x (List.mem_cons_self ..)
    have ih := card_total t (x.f1 + 2) (by omega) c3 (fun z hz => h z (List.mem_cons_of_mem _ hz)) m hm
    have ha := card_add (fun n => x.f0 ≤ n ∧ n ≤ x.f1) (SM t) m
    rw [card_congr (P := fun n => (x.f0 ≤ n ∧ n ≤ x.f1) ∧ SM t n) (Q := fun _ => False) (fun n => ⟨fun hh => by have := sm_ge c3 hh.2; omega, False.elim⟩), card_false] at ha
    rw [card_congr (fun n => sm_cons x t n)]
    have hs := card_span x.f0 x.f1 (by omega) (by omega) m
    rw [if_neg (by omega)] at hs
    have hs2 : (card (fun n => x.f0 ≤ n ∧ n ≤ x.f1) m : Int) = x.f1 - x.f0 + 1 := by
      split at hs <;> omega
    simp only [total]
    omega
theorem Can.card {P : Int → Prop} {r : List Sn} (h : Can P r) : (Q.card P 4294967297 : Int) = Q.total r := by
  rw [← card_total r 0 (Int.le_refl _) h.1 h.2.1 4294967297 (Nat.le_refl _)]
  rw [card_congr h.2.2]
end Go.Proofs.YtbimdjciacnioaaDoor.Q
end

section
namespace Go.Proofs.YtbimdjciacnioaaDoor.Q
open Go.RowKit Go.Proofs.YtbimdjciacnioaaDoorW.PrintWords Go.Proofs.YtbimdjciacnioaaDoorW.PrintLast Go.Proofs.YtbimdjciacnioaaDoorW.PrintMore
attribute [local go_sem] max2_int min2_int max_two min_two max_three min_three max_four min_four
set_option linter.unusedVariables false
set_option linter.unusedSimpArgs false
def intrusionref08_All.f  : Option ((List (S33))) := some (([(⟨0, 65535⟩ : S33)] : List (S33)))
end Go.Proofs.YtbimdjciacnioaaDoor.Q
end

section
namespace Go.Proofs.YtbimdjciacnioaaDoor.Q
open Go.RowKit Go.Proofs.YtbimdjciacnioaaDoorW.PrintWords Go.Proofs.YtbimdjciacnioaaDoorW.PrintLast Go.Proofs.YtbimdjciacnioaaDoorW.PrintMore
attribute [local go_sem] max2_int min2_int max_two min_two max_three min_three max_four min_four
set_option linter.unusedVariables false
set_option linter.unusedSimpArgs false
def intrusionref08_ports.f (k : Nat) (l0 : List (S33)) : Option ((List (S33))) := (intrusionref08_All.f).bind fun t341 => ((intrusionref05_Intersect.f k l0 t341).bind fun t344 => (some t344))
theorem intrusionref08_ports.mono : ∀ a0 k, LeO (intrusionref08_ports.f k a0) (intrusionref08_ports.f (k + 1) a0) := by
  intro a0 k
  unfold intrusionref08_ports.f
  repeat' first
      | (with_reducible exact intrusionref05_Intersect.mono _ _ _)
      | (with_reducible exact LeO.refl _)
      | (with_reducible exact LeO.none _)
      | (with_reducible refine LeO.ite ?_ ?_)
      | (with_reducible refine LeO.bind ?_ (fun _ => ?_))
      | exact intrusionref05_Intersect.mono _ _ _
      | exact LeO.none _
      | refine LeO.ite ?_ ?_
      | refine LeO.bind ?_ (fun _ => ?_)
end Go.Proofs.YtbimdjciacnioaaDoor.Q
end

section
namespace Go.Proofs.YtbimdjciacnioaaDoor.Q
open Go.RowKit Go.Proofs.YtbimdjciacnioaaDoorW.PrintWords Go.Proofs.YtbimdjciacnioaaDoorW.PrintLast Go.Proofs.YtbimdjciacnioaaDoorW.PrintMore
attribute [local go_sem] max2_int min2_int max_two min_two max_three min_three max_four min_four
set_option linter.unusedVariables false
set_option linter.unusedSimpArgs false
def intrusionref08_Eval.f (k : Nat) (l0 : List (S33)) (l1 : List (S33)) : Option ((List (S33))) := if (l0.length : Int) = 0 then ((intrusionref08_All.f).bind fun t369 => ((intrusionref08_ports.f k t369).bind fun t372 => ((intrusionref05_Minus.f k t372 l1).bind fun t375 => (some t375)))) else ((intrusionref08_ports.f k l0).bind fun t378 => ((intrusionref05_Minus.f k t378 l1).bind fun t381 => (some t381)))
theorem intrusionref08_Eval.mono : ∀ a0 a1 k, LeO (intrusionref08_Eval.f k a0 a1) (intrusionref08_Eval.f (k + 1) a0 a1) := by
  intro a0 a1 k
  unfold intrusionref08_Eval.f
  repeat' first
      | (with_reducible exact intrusionref05_Minus.mono _ _ _)
      | (with_reducible exact intrusionref08_ports.mono _ _)
      | (with_reducible exact LeO.refl _)
      | (with_reducible exact LeO.none _)
      | (with_reducible refine LeO.ite ?_ ?_)
      | (with_reducible refine LeO.bind ?_ (fun _ => ?_))
      | exact intrusionref05_Minus.mono _ _ _
      | exact intrusionref08_ports.mono _ _
      | exact LeO.none _
      | refine LeO.ite ?_ ?_
      | refine LeO.bind ?_ (fun _ => ?_)
end Go.Proofs.YtbimdjciacnioaaDoor.Q
end

section
namespace Go.Proofs.YtbimdjciacnioaaDoor.Q
open Go.RowKit Go.Proofs.YtbimdjciacnioaaDoorW.PrintWords Go.Proofs.YtbimdjciacnioaaDoorW.PrintLast Go.Proofs.YtbimdjciacnioaaDoorW.PrintMore
attribute [local go_sem] max2_int min2_int max_two min_two max_three min_three max_four min_four
set_option linter.unusedVariables false
set_option linter.unusedSimpArgs false
mutual
def intrusionref08_Parse.l0 : Nat → List ByteArray → List (S33) → List (S33) → Int → Option ((List (S33)) × Int)
  | 0, _, _, _, _ => none
  | k + 1, x4, x5, x6, x7 => if x7 < (x4.length : Int) then (if 0 ≤ x7 then (if (rdOf ByteArray.empty x4 x7).toList = ([] : List UInt8) then (intrusionref08_Parse.j1 k x4 x5 x6 x7 (rdOf ByteArray.empty x4 x7) false) else (if 0 < ((rdOf ByteArray.empty x4 x7).size : Int) then (intrusionref08_Parse.j1 k x4 x5 x6 x7 (rdOf ByteArray.empty x4 x7) ((bt (rdOf ByteArray.empty x4 x7) 0) == 33)) else (none))) else (none)) else ((intrusionref08_Eval.f k x5 x6).bind fun t418 => (some (t418, 0)))
def intrusionref08_Parse.j1 : Nat → List ByteArray → List (S33) → List (S33) → Int → ByteArray → Bool → Option ((List (S33)) × Int)
  | 0, _, _, _, _, _, _ => none
  | k + 1, x4, x5, x6, x7, x8, x9 => if x9 = true then (if 1 ≤ (x8.size : Int) then (intrusionref08_Parse.j2 k x4 x5 x6 x7 (x8.extract 1 x8.size) x9) else (none)) else (intrusionref08_Parse.j2 k x4 x5 x6 x7 x8 x9)
def intrusionref08_Parse.j2 : Nat → List ByteArray → List (S33) → List (S33) → Int → ByteArray → Bool → Option ((List (S33)) × Int)
  | 0, _, _, _, _, _, _ => none
  | k + 1, x4, x5, x6, x7, x8, x9 => (intrusionref08_item.f k x8).bind fun bt422 => (if bt422.2.2 = 0 then (if x9 = true then (if x6.length < 8796093022208 then (intrusionref08_Parse.l0 k x4 x5 (x6 ++ [(⟨bt422.1, bt422.2.1⟩ : S33)]) (wrap64 (x7 + 1))) else (none)) else (if x5.length < 8796093022208 then (intrusionref08_Parse.l0 k x4 (x5 ++ [(⟨bt422.1, bt422.2.1⟩ : S33)]) x6 (wrap64 (x7 + 1))) else (none))) else (some (([] : List (S33)), bt422.2.2)))
end
def intrusionref08_Parse.f (k : Nat) (a0 : ByteArray) : Option ((List (S33)) × Int) := if (a0.size : Int) > 1024 then (some (([] : List (S33)), 3)) else (if a0.toList = ([97, 110, 121] : List UInt8) then ((intrusionref08_All.f).bind fun t406 => (some (t406, 0))) else ((intrusionref08_split.f k a0 44).bind fun t409 => (if (t409.length : Int) > 64 then (some (([] : List (S33)), 3)) else (intrusionref08_Parse.l0 k t409 (([] : List (S33))) (([] : List (S33))) 0))))
theorem intrusionref08_Parse.mono_l : ∀ k, (∀ y0 y1 y2 y3, LeO (intrusionref08_Parse.l0 k y0 y1 y2 y3) (intrusionref08_Parse.l0 (k + 1) y0 y1 y2 y3)) ∧ (∀ y0 y1 y2 y3 y4 y5, LeO (intrusionref08_Parse.j1 k y0 y1 y2 y3 y4 y5) (intrusionref08_Parse.j1 (k + 1) y0 y1 y2 y3 y4 y5)) ∧ (∀ y0 y1 y2 y3 y4 y5, LeO (intrusionref08_Parse.j2 k y0 y1 y2 y3 y4 y5) (intrusionref08_Parse.j2 (k + 1) y0 y1 y2 y3 y4 y5))
  | 0 => ⟨fun _ _ _ _ r h => by simp [intrusionref08_Parse.l0] at h, fun _ _ _ _ _ _ r h => by simp [intrusionref08_Parse.j1] at h, fun _ _ _ _ _ _ r h => by simp [intrusionref08_Parse.j2] at h⟩
  | k + 1 => by
    obtain ⟨ih0, ih1, ih2⟩ := intrusionref08_Parse.mono_l k
    refine ⟨?_, ?_, ?_⟩
    · intro y0 y1 y2 y3
      unfold intrusionref08_Parse.l0
      repeat' first
      | (with_reducible exact ih0 _ _ _ _)
      | (with_reducible exact ih1 _ _ _ _ _ _)
      | (with_reducible exact ih2 _ _ _ _ _ _)
      | (with_reducible exact intrusionref08_Eval.mono _ _ _)
      | (with_reducible exact intrusionref08_item.mono _ _)
      | (with_reducible exact intrusionref08_split.mono _ _ _)
      | (with_reducible exact LeO.refl _)
      | (with_reducible exact LeO.none _)
      | (with_reducible refine LeO.ite ?_ ?_)
      | (with_reducible refine LeO.bind ?_ (fun _ => ?_))
      | exact ih0 _ _ _ _
      | exact ih1 _ _ _ _ _ _
      | exact ih2 _ _ _ _ _ _
      | exact intrusionref08_Eval.mono _ _ _
      | exact intrusionref08_item.mono _ _
      | exact intrusionref08_split.mono _ _ _
      | exact LeO.none _
      | refine LeO.ite ?_ ?_
      | refine LeO.bind ?_ (fun _ => ?_)
    · intro y0 y1 y2 y3 y4 y5
      unfold intrusionref08_Parse.j1
      repeat' first
      | (with_reducible exact ih0 _ _ _ _)
      | (with_reducible exact ih1 _ _ _ _ _ _)
      | (with_reducible exact ih2 _ _ _ _ _ _)
      | (with_reducible exact intrusionref08_Eval.mono _ _ _)
      | (with_reducible exact intrusionref08_item.mono _ _)
      | (with_reducible exact intrusionref08_split.mono _ _ _)
      | (with_reducible exact LeO.refl _)
      | (with_reducible exact LeO.none _)
      | (with_reducible refine LeO.ite ?_ ?_)
      | (with_reducible refine LeO.bind ?_ (fun _ => ?_))
      | exact ih0 _ _ _ _
      | exact ih1 _ _ _ _ _ _
      | exact ih2 _ _ _ _ _ _
      | exact intrusionref08_Eval.mono _ _ _
      | exact intrusionref08_item.mono _ _
      | exact intrusionref08_split.mono _ _ _
      | exact LeO.none _
      | refine LeO.ite ?_ ?_
      | refine LeO.bind ?_ (fun _ => ?_)
    · intro y0 y1 y2 y3 y4 y5
      unfold intrusionref08_Parse.j2
      repeat' first
      | (with_reducible exact ih0 _ _ _ _)
      | (with_reducible exact ih1 _ _ _ _ _ _)
      | (with_reducible exact ih2 _ _ _ _ _ _)
      | (with_reducible exact intrusionref08_Eval.mono _ _ _)
      | (with_reducible exact intrusionref08_item.mono _ _)
      | (with_reducible exact intrusionref08_split.mono _ _ _)
      | (with_reducible exact LeO.refl _)
      | (with_reducible exact LeO.none _)
      | (with_reducible refine LeO.ite ?_ ?_)
      | (with_reducible refine LeO.bind ?_ (fun _ => ?_))
      | exact ih0 _ _ _ _
      | exact ih1 _ _ _ _ _ _
      | exact ih2 _ _ _ _ _ _
      | exact intrusionref08_Eval.mono _ _ _
      | exact intrusionref08_item.mono _ _
      | exact intrusionref08_split.mono _ _ _
      | exact LeO.none _
      | refine LeO.ite ?_ ?_
      | refine LeO.bind ?_ (fun _ => ?_)
theorem intrusionref08_Parse.mono : ∀ a0 k, LeO (intrusionref08_Parse.f k a0) (intrusionref08_Parse.f (k + 1) a0) := by
  intro a0 k
  obtain ⟨ih0, ih1, ih2⟩ := intrusionref08_Parse.mono_l k
  unfold intrusionref08_Parse.f
  repeat' first
      | (with_reducible exact ih0 _ _ _ _)
      | (with_reducible exact ih1 _ _ _ _ _ _)
      | (with_reducible exact ih2 _ _ _ _ _ _)
      | (with_reducible exact intrusionref08_Eval.mono _ _ _)
      | (with_reducible exact intrusionref08_item.mono _ _)
      | (with_reducible exact intrusionref08_split.mono _ _ _)
      | (with_reducible exact LeO.refl _)
      | (with_reducible exact LeO.none _)
      | (with_reducible refine LeO.ite ?_ ?_)
      | (with_reducible refine LeO.bind ?_ (fun _ => ?_))
      | exact ih0 _ _ _ _
      | exact ih1 _ _ _ _ _ _
      | exact ih2 _ _ _ _ _ _
      | exact intrusionref08_Eval.mono _ _ _
      | exact intrusionref08_item.mono _ _
      | exact intrusionref08_split.mono _ _ _
      | exact LeO.none _
      | refine LeO.ite ?_ ?_
      | refine LeO.bind ?_ (fun _ => ?_)
end Go.Proofs.YtbimdjciacnioaaDoor.Q
end

section
set_option linter.unusedVariables false
set_option linter.unusedSimpArgs false
namespace Go.Proofs.YtbimdjciacnioaaDoor.Q
open Go.RowKit Go.Proofs.YtbimdjciacnioaaDoorW.PrintWords Go.Proofs.YtbimdjciacnioaaDoorW.PrintLast Go.Proofs.YtbimdjciacnioaaDoorW.PrintMore Go.Proofs.YtbimdjciacnioaaDoor.Canon
def evP (a b : List Sn) (n : Int) : Prop := (a = [] ∨ SM a n) ∧ ¬ SM b n ∧ 0 ≤ n ∧ n ≤ 65535
def allS : List Sn := [(⟨0, 65535⟩ : Sn)]
theorem sm_all (n : Int) : SM allS n ↔ 0 ≤ n ∧ n ≤ 65535 := by
  unfold allS
  rw [sm_cons, sm_nil, or_false]
theorem can_all : Can (evP [] []) allS := ⟨by simp [CanFrom, sp, allS], by simp [allS], fun n => by
  rw [sm_all]
  unfold evP
  rw [sm_nil]
  simp⟩
theorem all_len : allS.length = 1 := rfl
theorem eval_spec (a b : List Sn) (ha : a.length < 1000000) (hb : b.length < 1000000) : ∃ r, Ev (fun k => portset_Eval.f k a b) r ∧ Can (evP a b) r := by
  by_cases h : a = []
  · subst h
    obtain ⟨r, r1, r2, r3⟩ := minus_spec allS b (by rw [all_len]; omega) (by omega)
    refine ⟨r, ?_, r2.congr (fun n => ?_)⟩
    · unfold portset_Eval.f portset_All.f
      simp only [Option.bind_some, List.length_nil]
      refine Ev.congr (fun k => if_neg (by decide)) (Ev.bind r1 (Ev.now _))
    · unfold MinusP evP
      rw [sm_all]
      constructor
      · rintro ⟨⟨h1, h2⟩, h3, _, _⟩; exact ⟨.inl rfl, h3, h1, h2⟩
      · rintro ⟨_, h3, h1, h2⟩; exact ⟨⟨h1, h2⟩, h3, h1, by omega⟩
  · obtain ⟨c, c1, c2, c3⟩ := inter_spec allS a (by rw [all_len]; omega) (by omega)
    rw [all_len] at c3
    obtain ⟨r, r1, r2, r3⟩ := minus_spec c b (by omega) (by omega)
    refine ⟨r, ?_, r2.congr (fun n => ?_)⟩
    · unfold portset_Eval.f portset_All.f
      simp only [Option.bind_some]
      exact Ev.congr (fun k => if_pos (by have := List.length_pos_iff.2 h; omega)) (Ev.bind c1 (Ev.bind r1 (Ev.now _)))
    · unfold MinusP evP
      rw [c2.2.2 n]
      unfold InterP
      rw [sm_all]
      constructor
      · rintro ⟨⟨⟨h1, h2⟩, h4, _, _⟩, h3, _, _⟩; exact ⟨.inr h4, h3, h1, h2⟩
      · rintro ⟨h4, h3, h1, h2⟩
        rcases h4 with h4 | h4
        · exact absurd h4 h
        · exact ⟨⟨⟨h1, h2⟩, h4, h1, by omega⟩, h3, h1, by omega⟩
def portP (a : List Sn) (n : Int) : Prop := SM a n ∧ 0 ≤ n ∧ n ≤ 65535
theorem ports_spec (a : List Sn) (ha : a.length < 400) : ∃ r, Ev (fun k => intrusionref08_ports.f k a) r ∧ Can (portP a) r ∧ r.length ≤ a.length + 1 ∧ Ev (fun k => interval_Intersect.f k allS a) r ∧ Ev (fun k => interval_Intersect.f k a allS) r := by
  obtain ⟨r, r1, r2⟩ := rinter_spec a allS (by omega) (by rw [all_len]; omega)
  obtain ⟨q, q1, q2, q3⟩ := inter_spec a allS (by omega) (by rw [all_len]; omega)
  obtain ⟨q', q1', q2', q3'⟩ := inter_spec allS a (by rw [all_len]; omega) (by omega)
  have e := r2.uniq q2
  subst e
  have e := (q2'.congr (Q := InterP a allS) (fun n => by unfold InterP; constructor <;> (rintro ⟨h1, h2, h3⟩; exact ⟨h2, h1, h3⟩))).uniq q2
  subst e
  refine ⟨q', ?_, q2.congr (fun n => ?_), by rw [all_len] at q3; exact q3, q1', q1⟩
  · unfold intrusionref08_ports.f intrusionref08_All.f
    simp only [Option.bind_some]
    exact Ev.bind r1 (Ev.now _)
  · unfold InterP portP
    rw [sm_all]
    constructor
    · rintro ⟨h1, ⟨h2, h3⟩, _⟩; exact ⟨h1, h2, h3⟩
    · rintro ⟨h1, h2, h3⟩; exact ⟨h1, ⟨h2, h3⟩, h2, by omega⟩
def bare (t : List UInt8) : List UInt8 := if t.head? = some 33 then t.drop 1 else t
def excl (t : List UInt8) : Bool := t.head? == some 33
def prs : List (List UInt8) → List Sn → List Sn → (List Sn × List Sn) ⊕ Int
  | [], a, b => .inl (a, b)
  | t :: ts, a, b => if (itemV (bare t)).2.2 = 0 then (if excl t = true then prs ts a (b ++ [(⟨(itemV (bare t)).1, (itemV (bare t)).2.1⟩ : Sn)]) else prs ts (a ++ [(⟨(itemV (bare t)).1, (itemV (bare t)).2.1⟩ : Sn)]) b) else .inr (itemV (bare t)).2.2
def Res (g : Nat → Option (List Sn × Int)) : (List Sn × List Sn) ⊕ Int → Prop
  | .inl (a, b) => ∃ r, Ev g (r, 0) ∧ Can (evP a b) r
  | .inr e => Ev g ([], e)
theorem Res.step {g f : Nat → Option (List Sn × Int)} {s : (List Sn × List Sn) ⊕ Int} (h : ∀ k, g (k + 1) = f k) (hf : Res f s) : Res g s := by
  cases s with
  | inl p => obtain ⟨r, h1, h2⟩ := hf; exact ⟨r, Ev.step h h1, h2⟩
  | inr e => exact Ev.step h hf
theorem Res.congr {g f : Nat → Option (List Sn × Int)} {s : (List Sn × List Sn) ⊕ Int} (h : ∀ k, g k = f k) (hf : Res f s) : Res g s := by
  cases s with
  | inl p => obtain ⟨r, h1, h2⟩ := hf; exact ⟨r, Ev.congr h h1, h2⟩
  | inr e => exact Ev.congr h hf
theorem Res.bind {α : Type} {h : Nat → Option α} {x : α} {f : Nat → α → Option (List Sn × Int)} {s : (List Sn × List Sn) ⊕ Int} (h1 : Ev h x) (hf : Res (fun n => f n x) s) : Res (fun n => (h n).bind (f n)) s := by
  cases s with
  | inl p => obtain ⟨r, h2, h3⟩ := hf; exact ⟨r, Ev.bind h1 h2, h3⟩
  | inr e => exact Ev.bind h1 hf
theorem pre_eq (t : List UInt8) : Lib.hasPrefix t [33] = excl t := by
  unfold Lib.hasPrefix excl
  cases t with
  | nil => rfl
  | cons x t =>
    simp [List.isPrefixOf]
    rw [Bool.eq_iff_iff, beq_iff_eq, beq_iff_eq]
    constructor <;> exact Eq.symm
theorem trim_eq (t : List UInt8) : Lib.trimPrefix t [33] = bare t := by
  unfold Lib.trimPrefix bare
  rw [pre_eq]
  unfold excl
  by_cases h : t.head? = some 33
  · rw [if_pos h, if_pos (beq_iff_eq.2 h)]; rfl
  · rw [if_neg h, if_neg (fun e => h (beq_iff_eq.1 e))]
theorem bare_len (t : List UInt8) : (bare t).length ≤ t.length := by
  unfold bare
  split
  · rw [List.length_drop]; omega
  · exact Nat.le_refl _
theorem cutp_eq (t : List UInt8) : strings_CutPrefix.f (mkB t) (⟨#[33]⟩ : ByteArray) = some (mkB (bare t), excl t) := by
  unfold strings_CutPrefix.f
  rw [mkB_list]
  show some (mkB (Lib.trimPrefix t [33]), Lib.hasPrefix t [33]) = _
  rw [trim_eq, pre_eq]
theorem parse0 (L : List (List UInt8)) (hL : L.length ≤ 1000) (hz : ∀ x ∈ L, x.length ≤ 100000) : ∀ (d i : Nat) (a b : List Sn), L.length - i = d → i ≤ L.length → a.length + b.length ≤ i → Res (fun k => portset_Parse.l0 k a b (L.map mkB) (L.length : Int) (i : Int)) (prs (L.drop i) a b)
  | 0, i, a, b, hd, hi, hab => by
    rw [List.drop_of_length_le (by omega), prs]
    obtain ⟨r, r1, r2⟩ := eval_spec a b (by omega) (by omega)
    refine ⟨r, Ev.step (fun k => ?_) (Ev.bind (f := fun _ t => some (t, (0 : Int))) r1 (Ev.now _)), r2⟩
    rw [portset_Parse.l0, if_neg (by omega)]
  | d + 1, i, a, b, hd, hi, hab => by
    have hl : i < L.length := by omega
    have hx := hz _ (List.getElem_mem hl)
    rw [List.drop_eq_getElem_cons hl, prs]
    have hit := item_ev (mkB (bare L[i])) (by rw [size_list, mkB_list]; have := bare_len L[i]; omega)
    rw [mkB_list] at hit
    generalize itemV (bare L[i]) = v at hit ⊢
    obtain ⟨x, y, e⟩ := v
    dsimp only
    have hstep : ∀ k, portset_Parse.l0 (k + 1) a b (L.map mkB) (L.length : Int) (i : Int) = ((portset_item.f k (mkB (bare L[i]))).bind fun bt199 => (if bt199.2.2 = 0 then (if excl L[i] = true then (if b.length < 8796093022208 then (portset_Parse.l0 k a (b ++ [(⟨bt199.1, bt199.2.1⟩ : Sn)]) (L.map mkB) (L.length : Int) ((i + 1 : Nat) : Int)) else (none)) else (if a.length < 8796093022208 then (portset_Parse.l0 k (a ++ [(⟨bt199.1, bt199.2.1⟩ : Sn)]) b (L.map mkB) (L.length : Int) ((i + 1 : Nat) : Int)) else (none))) else (some (([] : List Sn), bt199.2.2)))) := fun k => by
      rw [portset_Parse.l0, if_pos (by omega), if_pos (by omega), if_pos (by rw [List.length_map]; omega), rdOf_mk L i hl, cutp_eq, Option.bind_some, up_b (by omega)]
    refine Res.step hstep (Res.bind hit ?_)
    dsimp only
    by_cases he : e = 0
    · rw [if_pos he]
      refine Res.congr (fun k => if_pos he) ?_
      by_cases hex : excl L[i] = true
      · rw [if_pos hex]
        refine Res.congr (fun k => (if_pos hex).trans (if_pos (by omega))) ?_
        exact parse0 L hL hz d (i + 1) a _ (by omega) (by omega) (by rw [List.length_append]; simp; omega)
      · rw [if_neg hex]
        refine Res.congr (fun k => (if_neg hex).trans (if_pos (by omega))) ?_
        exact parse0 L hL hz d (i + 1) _ b (by omega) (by omega) (by rw [List.length_append]; simp; omega)
    · rw [if_neg he]
      exact Res.congr (fun k => if_neg he) (Ev.now _)
theorem spl_count (c : UInt8) : ∀ (l cur : List UInt8), (spl c cur l).length = Lib.count l [c] + 1
  | [], cur => by rw [Lib.count_one]; rfl
  | x :: t, cur => by
    rw [spl]
    by_cases h : x = c
    · subst h
      rw [if_pos rfl, Lib.count_cons_eq, List.length_cons, spl_count x t []]
      omega
    · rw [if_neg h, Lib.count_cons_ne x c t h, spl_count c t (cur ++ [x])]
def anyL : List UInt8 := [97, 110, 121]
def parseV (l : List UInt8) : (List Sn × List Sn) ⊕ Int := if l.length > 1024 then .inr 3 else if l = anyL then .inl ([], []) else if (spl 44 [] l).length > 64 then .inr 3 else prs (spl 44 [] l) [] []
theorem parse_spec (s : ByteArray) : Res (fun k => portset_Parse.f k s) (parseV s.data.toList) := by
  unfold parseV portset_Parse.f
  rw [size_list]
  by_cases h1 : s.data.toList.length > 1024
  · rw [if_pos h1]
    refine Res.congr (fun k => if_pos (by omega)) ?_
    refine Ev.step (f := fun _ => some (([] : List Sn), (3 : Int))) (fun k => ?_) (Ev.now _)
    rw [portset_Parse.j0, if_pos rfl]
  · rw [if_neg h1]
    refine Res.congr (fun k => if_neg (by omega)) ?_
    have hc : strings_Count.f s (⟨#[44]⟩ : ByteArray) = some (((spl 44 [] s.data.toList).length : Int) - 1) := by
      unfold strings_Count.f
      rw [if_pos (by rw [size_list]; omega), if_pos (by exact Nat.le_refl 1)]
      congr 1
      rw [spl_count]
      show ((Lib.count s.data.toList [44] : Nat) : Int) = _
      omega
    simp only [hc, Option.bind_some]
    have hany : (spl 44 [] anyL).length = 1 := rfl
    by_cases h2 : s.data.toList = anyL
    · rw [if_pos h2, h2, hany]
      refine ⟨allS, Ev.step (f := fun _ => some (allS, (0 : Int))) (fun k => ?_) (Ev.now _), can_all⟩
      rw [portset_Parse.j0, if_neg (by simp), ByteArray.toList_eq, if_pos (show s.data.toList = ([97, 110, 121] : List UInt8) from h2)]
      rfl
    · rw [if_neg h2]
      by_cases h3 : (spl 44 [] s.data.toList).length > 64
      · rw [if_pos h3]
        refine Ev.step (f := fun _ => some (([] : List Sn), (3 : Int))) (fun k => ?_) (Ev.now _)
        rw [portset_Parse.j0, if_pos (by rw [decide_eq_true_eq]; omega)]
      · rw [if_neg h3]
        have h0 := parse0 (spl 44 [] s.data.toList) (by omega) (fun x hx => by have := spl_mem 44 _ [] x hx; simp only [List.length_nil] at this; omega) _ 0 [] [] rfl (by omega) (by simp)
        rw [List.drop_zero] at h0
        refine Res.step (fun k => ?_) h0
        rw [portset_Parse.j0, if_neg (by rw [decide_eq_true_eq]; omega), ByteArray.toList_eq, if_neg (show ¬ s.data.toList = ([97, 110, 121] : List UInt8) from h2), split_eq s 44 (by rw [size_list]; omega), Option.bind_some, List.length_map]
        rfl
theorem same8_0 (L : List Sn) (hl : L.length < 8796093022208) : ∀ (d i : Nat), L.length - i = d → i ≤ L.length → Ev (fun k => intrusionlaw08_same.l0 k L L (L.length : Int) (i : Int)) true := by
  intro d
  induction d with
  | zero =>
    intro i hd hi
    have : i = L.length := by omega
    subst this
    refine Ev.step (f := fun _ => some true) (fun k => ?_) (Ev.now _)
    simp only [intrusionlaw08_same.l0]; rw [if_neg (by omega)]
  | succ d ih =>
    intro i hd hi
    have hlt : i < L.length := by omega
    refine Ev.step (fun k => ?_) (ih (i + 1) (by omega) (by omega))
    simp only [intrusionlaw08_same.l0]
    rw [if_pos (by omega), if_pos (by omega), if_pos (by omega), if_pos (by omega), wrap_succ i (by omega)]
    simp
theorem same8_ev (L : List Sn) (hl : L.length < 8796093022208) : Ev (fun k => intrusionlaw08_same.f k L L) true := by
  have h := same8_0 L hl L.length 0 (by omega) (by omega)
  refine Ev.congr (fun k => ?_) h
  unfold intrusionlaw08_same.f
  rw [if_pos rfl]
  rfl
end Go.Proofs.YtbimdjciacnioaaDoor.Q
end

section
namespace Go.Proofs.YtbimdjciacnioaaDoor.Q
open Go.RowKit Go.Proofs.YtbimdjciacnioaaDoorW.PrintWords Go.Proofs.YtbimdjciacnioaaDoorW.PrintLast Go.Proofs.YtbimdjciacnioaaDoorW.PrintMore
attribute [local go_sem] max2_int min2_int max_two min_two max_three min_three max_four min_four
set_option linter.unusedVariables false
set_option linter.unusedSimpArgs false
def intrusionref08_digits.l0 : Nat → Int → ByteArray → Option (ByteArray)
  | 0, _, _ => none
  | k + 1, x0, x3 => (some (([(wrap64 (48 + (Int.tmod x0 10))) % 256] : List Int) : List Int)).bind fun y443 => (if (strOfNums y443).size + x3.size ≤ 9223372036854775807 then (if (wrap64 (Int.tdiv x0 10)) = 0 then (some ((strOfNums y443) ++ x3)) else (intrusionref08_digits.l0 k (wrap64 (Int.tdiv x0 10)) ((strOfNums y443) ++ x3))) else (none))
def intrusionref08_digits.f (k : Nat) (a0 : Int) : Option (ByteArray) := intrusionref08_digits.l0 k a0 (⟨#[]⟩ : ByteArray)
theorem intrusionref08_digits.mono_l : ∀ k, (∀ y0 y1, LeO (intrusionref08_digits.l0 k y0 y1) (intrusionref08_digits.l0 (k + 1) y0 y1))
  | 0 => fun _ _ r h => by simp [intrusionref08_digits.l0] at h
  | k + 1 => by
    have ih0 := intrusionref08_digits.mono_l k
    · intro y0 y1
      unfold intrusionref08_digits.l0
      repeat' first
      | (with_reducible exact ih0 _ _)
      | (with_reducible exact LeO.refl _)
      | (with_reducible exact LeO.none _)
      | (with_reducible refine LeO.ite ?_ ?_)
      | (with_reducible refine LeO.bind ?_ (fun _ => ?_))
      | exact ih0 _ _
      | exact LeO.none _
      | refine LeO.ite ?_ ?_
      | refine LeO.bind ?_ (fun _ => ?_)
theorem intrusionref08_digits.mono : ∀ a0 k, LeO (intrusionref08_digits.f k a0) (intrusionref08_digits.f (k + 1) a0) := by
  intro a0 k
  have ih0 := intrusionref08_digits.mono_l k
  unfold intrusionref08_digits.f
  repeat' first
      | (with_reducible exact ih0 _ _)
      | (with_reducible exact LeO.refl _)
      | (with_reducible exact LeO.none _)
      | (with_reducible refine LeO.ite ?_ ?_)
      | (with_reducible refine LeO.bind ?_ (fun _ => ?_))
      | exact ih0 _ _
      | exact LeO.none _
      | refine LeO.ite ?_ ?_
      | refine LeO.bind ?_ (fun _ => ?_)
end Go.Proofs.YtbimdjciacnioaaDoor.Q
end

section
namespace Go.Proofs.YtbimdjciacnioaaDoor.Q
open Go.RowKit Go.Proofs.YtbimdjciacnioaaDoorW.PrintWords Go.Proofs.YtbimdjciacnioaaDoorW.PrintLast Go.Proofs.YtbimdjciacnioaaDoorW.PrintMore
attribute [local go_sem] max2_int min2_int max_two min_two max_three min_three max_four min_four
set_option linter.unusedVariables false
set_option linter.unusedSimpArgs false
attribute [local go_sem high] eqA33
mutual
def intrusionref08_Format.l0 : Nat → List (S33) → ByteArray → Int → Option (ByteArray)
  | 0, _, _, _ => none
  | k + 1, x3, x4, x5 => if x5 < (x3.length : Int) then (if x5 > 0 then (if x4.size + 1 ≤ 9223372036854775807 then (intrusionref08_Format.j1 k x3 (x4 ++ (⟨#[44]⟩ : ByteArray)) x5) else (none)) else (intrusionref08_Format.j1 k x3 x4 x5)) else (some x4)
def intrusionref08_Format.j1 : Nat → List (S33) → ByteArray → Int → Option (ByteArray)
  | 0, _, _, _ => none
  | k + 1, x3, x4, x5 => if 0 ≤ x5 then (if x5 < (x3.length : Int) then ((intrusionref08_digits.f k ((rd_T33 x3 x5).f0)).bind fun t451 => (if x4.size + t451.size ≤ 9223372036854775807 then (if ((rd_T33 x3 x5).f0) = ((rd_T33 x3 x5).f1) then (intrusionref08_Format.l0 k x3 (x4 ++ t451) (wrap64 (x5 + 1))) else (if (x4 ++ t451).size + 1 ≤ 9223372036854775807 then ((intrusionref08_digits.f k ((rd_T33 x3 x5).f1)).bind fun t455 => (if ((x4 ++ t451) ++ (⟨#[58]⟩ : ByteArray)).size + t455.size ≤ 9223372036854775807 then (intrusionref08_Format.l0 k x3 (((x4 ++ t451) ++ (⟨#[58]⟩ : ByteArray)) ++ t455) (wrap64 (x5 + 1))) else (none))) else (none))) else (none))) else (none)) else (none)
end
def intrusionref08_Format.f (k : Nat) (l0 : List (S33)) : Option (ByteArray) := (intrusionref08_ports.f k l0).bind fun t446 => (if (t446.length : Int) = 0 then (some (⟨#[33, 48, 58, 54, 53, 53, 51, 53]⟩ : ByteArray)) else (if 0 < (t446.length : Int) then (if (((rd_T33 t446 0).f0) == 0 && (((rd_T33 t446 0).f1) == 65535)) = true then (some (⟨#[97, 110, 121]⟩ : ByteArray)) else (intrusionref08_Format.l0 k t446 (⟨#[]⟩ : ByteArray) 0)) else (none)))
theorem intrusionref08_Format.mono_l : ∀ k, (∀ y0 y1 y2, LeO (intrusionref08_Format.l0 k y0 y1 y2) (intrusionref08_Format.l0 (k + 1) y0 y1 y2)) ∧ (∀ y0 y1 y2, LeO (intrusionref08_Format.j1 k y0 y1 y2) (intrusionref08_Format.j1 (k + 1) y0 y1 y2))
  | 0 => ⟨fun _ _ _ r h => by simp [intrusionref08_Format.l0] at h, fun _ _ _ r h => by simp [intrusionref08_Format.j1] at h⟩
  | k + 1 => by
    obtain ⟨ih0, ih1⟩ := intrusionref08_Format.mono_l k
    refine ⟨?_, ?_⟩
    · intro y0 y1 y2
      unfold intrusionref08_Format.l0
      repeat' first
      | (with_reducible exact ih0 _ _ _)
      | (with_reducible exact ih1 _ _ _)
      | (with_reducible exact intrusionref08_digits.mono _ _)
      | (with_reducible exact intrusionref08_ports.mono _ _)
      | (with_reducible exact LeO.refl _)
      | (with_reducible exact LeO.none _)
      | (with_reducible refine LeO.ite ?_ ?_)
      | (with_reducible refine LeO.bind ?_ (fun _ => ?_))
      | exact ih0 _ _ _
      | exact ih1 _ _ _
      | exact intrusionref08_digits.mono _ _
      | exact intrusionref08_ports.mono _ _
      | exact LeO.none _
      | refine LeO.ite ?_ ?_
      | refine LeO.bind ?_ (fun _ => ?_)
    · intro y0 y1 y2
      unfold intrusionref08_Format.j1
      repeat' first
      | (with_reducible exact ih0 _ _ _)
      | (with_reducible exact ih1 _ _ _)
      | (with_reducible exact intrusionref08_digits.mono _ _)
      | (with_reducible exact intrusionref08_ports.mono _ _)
      | (with_reducible exact LeO.refl _)
      | (with_reducible exact LeO.none _)
      | (with_reducible refine LeO.ite ?_ ?_)
      | (with_reducible refine LeO.bind ?_ (fun _ => ?_))
      | exact ih0 _ _ _
      | exact ih1 _ _ _
      | exact intrusionref08_digits.mono _ _
      | exact intrusionref08_ports.mono _ _
      | exact LeO.none _
      | refine LeO.ite ?_ ?_
      | refine LeO.bind ?_ (fun _ => ?_)
theorem intrusionref08_Format.mono : ∀ a0 k, LeO (intrusionref08_Format.f k a0) (intrusionref08_Format.f (k + 1) a0) := by
  intro a0 k
  obtain ⟨ih0, ih1⟩ := intrusionref08_Format.mono_l k
  unfold intrusionref08_Format.f
  repeat' first
      | (with_reducible exact ih0 _ _ _)
      | (with_reducible exact ih1 _ _ _)
      | (with_reducible exact intrusionref08_digits.mono _ _)
      | (with_reducible exact intrusionref08_ports.mono _ _)
      | (with_reducible exact LeO.refl _)
      | (with_reducible exact LeO.none _)
      | (with_reducible refine LeO.ite ?_ ?_)
      | (with_reducible refine LeO.bind ?_ (fun _ => ?_))
      | exact ih0 _ _ _
      | exact ih1 _ _ _
      | exact intrusionref08_digits.mono _ _
      | exact intrusionref08_ports.mono _ _
      | exact LeO.none _
      | refine LeO.ite ?_ ?_
      | refine LeO.bind ?_ (fun _ => ?_)
end Go.Proofs.YtbimdjciacnioaaDoor.Q
end

section
set_option linter.unusedVariables false
set_option linter.unusedSimpArgs false
namespace Go.Proofs.YtbimdjciacnioaaDoor.Q
open Go.RowKit Go.Proofs.YtbimdjciacnioaaDoorW.PrintWords Go.Proofs.YtbimdjciacnioaaDoorW.PrintLast Go.Proofs.YtbimdjciacnioaaDoorW.PrintMore Go.Proofs.YtbimdjciacnioaaDoor.Canon
theorem dec_len {d : Nat} : ∀ {n : Nat}, n < 10 ^ (d + 1) → (Lib.decDigits n).length ≤ d + 1 := by
  induction d with
  | zero =>
    intro n h
    rw [Lib.decDigits, dif_pos (by omega)]
    simp
  | succ d ih =>
    intro n h
    rw [Lib.decDigits]
    split
    · simp
    · have := ih (n := n / 10) (by rw [Nat.pow_succ] at h; omega)
      rw [List.length_append, List.length_singleton]
      omega
theorem mkB_app (a b : List UInt8) : mkB a ++ mkB b = mkB (a ++ b) := mkB_eq (by rw [ByteArray.data_append, Array.toList_append]; rfl)
theorem mkB_size (a : List UInt8) : (mkB a).size = a.length := by rw [size_list, mkB_list]
theorem str_one {d : Nat} (h : d < 10) : strOfNums [(48 + (d : Int)) % 256] = mkB [UInt8.ofNat (48 + d)] := by
  refine mkB_eq ?_
  show [UInt8.ofNat ((48 + (d : Int)) % 256).toNat] = _
  rw [show ((48 + (d : Int)) % 256).toNat = 48 + d from by omega]
theorem digits0 : ∀ (d n : Nat) (acc : List UInt8), n < 10 ^ (d + 1) → n < 4294967296 → acc.length + d ≤ 100 → Ev (fun k => intrusionref08_digits.l0 k (n : Int) (mkB acc)) (mkB (Lib.decDigits n ++ acc))
  | 0, n, acc, h, h2, ha => by
    have hn : n < 10 := by omega
    refine Ev.step (f := fun _ => some (mkB (Lib.decDigits n ++ acc))) (fun k => ?_) (Ev.now _)
    rw [intrusionref08_digits.l0, Option.bind_some, Int.tmod_eq_emod_of_nonneg (by omega), Int.tdiv_eq_ediv_of_nonneg (by omega), show ((n : Int) % 10) = (n : Int) from by omega, show ((n : Int) / 10) = 0 from by omega, wid (x := 48 + (n : Int)) (by omega) (by omega), str_one hn, mkB_size, mkB_size, if_pos (by simp; omega), if_pos (wid (x := 0) (by omega) (by omega)), mkB_app, Lib.decDigits, dif_pos hn]
  | d + 1, n, acc, h, h2, ha => by
    by_cases hn : n < 10
    · refine Ev.step (f := fun _ => some (mkB (Lib.decDigits n ++ acc))) (fun k => ?_) (Ev.now _)
      rw [intrusionref08_digits.l0, Option.bind_some, Int.tmod_eq_emod_of_nonneg (by omega), Int.tdiv_eq_ediv_of_nonneg (by omega), show ((n : Int) % 10) = (n : Int) from by omega, show ((n : Int) / 10) = 0 from by omega, wid (x := 48 + (n : Int)) (by omega) (by omega), str_one hn, mkB_size, mkB_size, if_pos (by simp; omega), if_pos (wid (x := 0) (by omega) (by omega)), mkB_app, Lib.decDigits, dif_pos hn]
    · have ih := digits0 d (n / 10) (UInt8.ofNat (48 + n % 10) :: acc) (by rw [Nat.pow_succ] at h; omega) (by omega) (by simp; omega)
      rw [Lib.decDigits, dif_neg hn, List.append_assoc]
      refine Ev.step (fun k => ?_) ih
      rw [intrusionref08_digits.l0, Option.bind_some, Int.tmod_eq_emod_of_nonneg (by omega), Int.tdiv_eq_ediv_of_nonneg (by omega), show ((n : Int) % 10) = ((n % 10 : Nat) : Int) from by omega, show ((n : Int) / 10) = ((n / 10 : Nat) : Int) from by omega, wid (x := 48 + ((n % 10 : Nat) : Int)) (by omega) (by omega), str_one (by omega), mkB_size, mkB_size, if_pos (by simp; omega), wid (x := ((n / 10 : Nat) : Int)) (by omega) (by omega), if_neg (by omega), mkB_app]
      rfl
theorem digits_ev {x : Int} (h0 : 0 ≤ x) (h1 : x ≤ 65535) : Ev (fun k => intrusionref08_digits.f k x) (mkB (Lib.decDigits x.toNat)) := by
  have h := digits0 4 x.toNat [] (by omega) (by omega) (by simp)
  rw [List.append_nil, show ((x.toNat : Nat) : Int) = x from by omega] at h
  exact h
theorem itoa_ev {x : Int} (h0 : 0 ≤ x) (h1 : x ≤ 65535) : strconv_Itoa.f x = some (mkB (Lib.decDigits x.toNat)) := by
  unfold strconv_Itoa.f
  rw [if_pos (by omega)]
  unfold Lib.itoa
  rw [if_neg (by omega)]
  rfl
theorem dec5 {x : Int} (h0 : 0 ≤ x) (h1 : x ≤ 65535) : (Lib.decDigits x.toNat).length ≤ 5 := dec_len (d := 4) (by omega)
def fmtI (x : Sn) : List UInt8 := if x.f0 < x.f1 then Lib.decDigits x.f0.toNat ++ 58 :: Lib.decDigits x.f1.toNat else Lib.decDigits x.f0.toNat
def fmtV : List Sn → List UInt8
  | [] => [33, 48, 58] ++ Lib.itoa 65535
  | x :: t => if x.f0 = 0 ∧ x.f1 = 65535 then anyL else jn 44 ((x :: t).map fmtI)
def PW (x : Sn) : Prop := 0 ≤ x.f0 ∧ x.f0 ≤ x.f1 ∧ x.f1 ≤ 65535
theorem fmtI_len {x : Sn} (h : PW x) : (fmtI x).length ≤ 11 := by
  obtain ⟨h0, h1, h2⟩ := h
  have a1 := dec5 h0 (by omega)
  have a2 := dec5 (x := x.f1) (by omega) h2
  unfold fmtI
  split
  · rw [List.length_append, List.length_cons]; omega
  · omega
theorem join_jn (L : List (List UInt8)) : Lib.join L [44] = jn 44 L := by
  cases L with
  | nil => rfl
  | cons x t => rw [Lib.join_cons]; rfl
theorem jn_len : ∀ (L : List (List UInt8)) (m : Nat), (∀ x ∈ L, x.length ≤ m) → (jn 44 L).length ≤ (m + 1) * L.length := by
  intro L m
  cases L with
  | nil => intro _; simp [jn]
  | cons x t =>
    intro h
    rw [jn, List.length_append, List.length_cons]
    have hx := h x (by simp)
    have ht : ∀ t : List (List UInt8), (∀ z ∈ t, z.length ≤ m) → ((t.map ((44 : UInt8) :: ·)).flatten).length ≤ (m + 1) * t.length := by
      intro t
      induction t with
      | nil => intro _; simp
      | cons y t ih =>
        intro h
        have := ih (fun z hz => h z (by simp [hz]))
        have hy := h y (by simp)
        rw [List.map_cons, List.flatten_cons, List.length_append, List.length_cons, List.length_cons, Nat.mul_succ]
        omega
    have := ht t (fun z hz => h z (by simp [hz]))
    rw [Nat.mul_succ]
    omega
theorem pform0 (R : List Sn) (hR : R.length ≤ 100000) (hw : ∀ x ∈ R, PW x) : ∀ (d i : Nat) (out : List (List UInt8)), R.length - i = d → i ≤ R.length → out.length = i → (∀ z ∈ out, z.length ≤ 11) → Ev (fun k => portset_Format.l0 k (out.map mkB) R (R.length : Int) (i : Int)) (mkB (jn 44 (out ++ (R.drop i).map fmtI)))
  | 0, i, out, hd, hi, ho, hz => by
    rw [List.drop_of_length_le (by omega), List.map_nil, List.append_nil]
    refine Ev.step (f := fun _ => some (mkB (jn 44 out))) (fun k => ?_) (Ev.now _)
    rw [portset_Format.l0, if_neg (by omega)]
    unfold strings_Join.f
    have e : (out.map mkB).map (·.data.toList) = out := by
      rw [List.map_map]
      have : (fun x : ByteArray => x.data.toList) ∘ mkB = id := by funext x; rfl
      rw [this, List.map_id]
    rw [e]
    show (if (Lib.join out [44]).length ≤ 140737488355328 then if (out.map mkB).length ≤ 140737488355328 then some (mkB (Lib.join out [44])) else none else none).bind _ = _
    rw [join_jn]
    have := jn_len out 11 hz
    rw [if_pos (by omega), if_pos (by rw [List.length_map]; omega)]
    rfl
  | d + 1, i, out, hd, hi, ho, hz => by
    have hl : i < R.length := by omega
    have hx := hw _ (List.getElem_mem hl)
    have ih := pform0 R hR hw d (i + 1) (out ++ [fmtI R[i]]) (by omega) (by omega) (by rw [List.length_append]; simp; omega) (fun z hz2 => by
      rcases List.mem_append.1 hz2 with h | h
      · exact hz z h
      · rw [List.mem_singleton.1 h]; exact fmtI_len hx)
    rw [List.append_assoc] at ih
    rw [List.drop_eq_getElem_cons hl, List.map_cons]
    refine Ev.step (fun k => ?_) ih
    have hlen := fmtI_len hx
    obtain ⟨h0, h1, h2⟩ := hx
    have a1 := dec5 h0 (by omega)
    have a2 := dec5 (x := R[i].f1) (by omega) h2
    rw [portset_Format.l0, if_pos (by omega), if_pos (by omega), if_pos (by omega), rd_at R i hl, itoa_ev h0 (by omega), Option.bind_some, up_b (by omega)]
    by_cases hlt : R[i].f0 < R[i].f1
    · have e58 : (⟨#[58]⟩ : ByteArray) = mkB [58] := rfl
      rw [if_pos hlt, itoa_ev (by omega) h2, Option.bind_some, e58, mkB_app, mkB_size, if_pos (by omega), mkB_size, mkB_size, if_pos (by simp; omega), if_pos (by rw [List.length_map]; omega), mkB_app, List.map_append]
      have : fmtI R[i] = Lib.decDigits R[i].f0.toNat ++ ([58] ++ Lib.decDigits R[i].f1.toNat) := by unfold fmtI; rw [if_pos hlt]; rfl
      rw [this]
      rfl
    · have : fmtI R[i] = Lib.decDigits R[i].f0.toNat := by unfold fmtI; rw [if_neg hlt]
      rw [if_neg hlt, if_pos (by rw [List.length_map]; omega), List.map_append, this]
      rfl
def tailF (R : List Sn) : List UInt8 := (R.map (fun x => (44 : UInt8) :: fmtI x)).flatten
theorem rform_j1 (R : List Sn) (hR : R.length ≤ 100000) (hw : ∀ x ∈ R, PW x) (i : Nat) (hl : i < R.length) (A Z : List UInt8) (hA : A.length ≤ 12 * i + 1) (ih : Ev (fun k => intrusionref08_Format.l0 k R (mkB (A ++ fmtI R[i])) ((i + 1 : Nat) : Int)) (mkB Z)) : Ev (fun k => intrusionref08_Format.j1 k R (mkB A) (i : Int)) (mkB Z) := by
  have hx := hw _ (List.getElem_mem hl)
  obtain ⟨h0, h1, h2⟩ := hx
  have a1 := dec5 h0 (by omega)
  have a2 := dec5 (x := R[i].f1) (by omega) h2
  refine Ev.step (fun k => ?_) (f := fun k => (intrusionref08_digits.f k R[i].f0).bind fun t451 => (if (mkB A).size + t451.size ≤ 9223372036854775807 then (if R[i].f0 = R[i].f1 then (intrusionref08_Format.l0 k R (mkB A ++ t451) ((i + 1 : Nat) : Int)) else (if (mkB A ++ t451).size + 1 ≤ 9223372036854775807 then ((intrusionref08_digits.f k R[i].f1).bind fun t455 => (if ((mkB A ++ t451) ++ (⟨#[58]⟩ : ByteArray)).size + t455.size ≤ 9223372036854775807 then (intrusionref08_Format.l0 k R (((mkB A ++ t451) ++ (⟨#[58]⟩ : ByteArray)) ++ t455) ((i + 1 : Nat) : Int)) else (none))) else (none))) else (none))) (Ev.bind (digits_ev h0 (by omega)) ?_)
  · rw [intrusionref08_Format.j1, if_pos (by omega), if_pos (by omega), rd_at R i hl, up_b (by omega)]
  · refine Ev.congr (fun k => if_pos (by rw [mkB_size, mkB_size]; omega)) ?_
    by_cases he : R[i].f0 = R[i].f1
    · have : fmtI R[i] = Lib.decDigits R[i].f0.toNat := by unfold fmtI; rw [if_neg (by omega)]
      rw [this] at ih
      refine Ev.congr (fun k => if_pos he) ?_
      rw [mkB_app]
      exact ih
    · have : fmtI R[i] = Lib.decDigits R[i].f0.toNat ++ 58 :: Lib.decDigits R[i].f1.toNat := by unfold fmtI; rw [if_pos (by omega)]
      rw [this] at ih
      refine Ev.congr (fun k => (if_neg he).trans (if_pos (by rw [mkB_app, mkB_size, List.length_append]; omega))) ?_
      refine Ev.bind (digits_ev (x := R[i].f1) (by omega) h2) ?_
      have e58 : (⟨#[58]⟩ : ByteArray) = mkB [58] := rfl
      have e : ((mkB A ++ mkB (Lib.decDigits R[i].f0.toNat)) ++ mkB [58]) ++ mkB (Lib.decDigits R[i].f1.toNat) = mkB (A ++ (Lib.decDigits R[i].f0.toNat ++ 58 :: Lib.decDigits R[i].f1.toNat)) := by
        rw [mkB_app, mkB_app, mkB_app, List.append_assoc, List.append_assoc]
        rfl
      rw [e58, e]
      refine Ev.congr (fun k => if_pos (by rw [mkB_app, mkB_app, mkB_size, mkB_size]; simp only [List.length_append, List.length_cons, List.length_nil]; omega)) ih
theorem rform0 (R : List Sn) (hR : R.length ≤ 100000) (hw : ∀ x ∈ R, PW x) : ∀ (d i : Nat) (A : List UInt8), R.length - i = d → i ≤ R.length → 0 < i → A.length ≤ 12 * i → Ev (fun k => intrusionref08_Format.l0 k R (mkB A) (i : Int)) (mkB (A ++ tailF (R.drop i)))
  | 0, i, A, hd, hi, hp, hA => by
    rw [List.drop_of_length_le (by omega), show tailF [] = [] from rfl, List.append_nil]
    refine Ev.step (f := fun _ => some (mkB A)) (fun k => ?_) (Ev.now _)
    rw [intrusionref08_Format.l0, if_neg (by omega)]
  | d + 1, i, A, hd, hi, hp, hA => by
    have hl : i < R.length := by omega
    have hx := hw _ (List.getElem_mem hl)
    have hlen := fmtI_len hx
    have ih := rform0 R hR hw d (i + 1) ((A ++ [44]) ++ fmtI R[i]) (by omega) (by omega) (by omega) (by simp only [List.length_append, List.length_cons, List.length_nil]; omega)
    have hj := rform_j1 R hR hw i hl (A ++ [44]) _ (by simp only [List.length_append, List.length_cons, List.length_nil]; omega) ih
    rw [List.drop_eq_getElem_cons hl]
    have e : A ++ tailF (R[i] :: R.drop (i + 1)) = ((A ++ [44]) ++ fmtI R[i]) ++ tailF (R.drop (i + 1)) := by
      show A ++ ((44 : UInt8) :: fmtI R[i] ++ tailF (R.drop (i + 1))) = _
      simp
    rw [e]
    refine Ev.step (fun k => ?_) hj
    have e44 : (⟨#[44]⟩ : ByteArray) = mkB [44] := rfl
    rw [intrusionref08_Format.l0, if_pos (by omega), if_pos (by omega), mkB_size, if_pos (by omega), e44, mkB_app]
theorem rform_ev (x : Sn) (t : List Sn) (hR : (x :: t).length ≤ 100000) (hw : ∀ y ∈ x :: t, PW y) : Ev (fun k => intrusionref08_Format.l0 k (x :: t) (⟨#[]⟩ : ByteArray) 0) (mkB (jn 44 ((x :: t).map fmtI))) := by
  have hlen := fmtI_len (hw x (by simp))
  have h1 := rform0 (x :: t) hR hw _ 1 (fmtI x) rfl (by simp) (by omega) (by omega)
  have hj := rform_j1 (x :: t) hR hw 0 (by simp) [] _ (by simp) h1
  have e : jn 44 ((x :: t).map fmtI) = fmtI x ++ tailF ((x :: t).drop 1) := by
    rw [List.map_cons, jn]
    show fmtI x ++ ((t.map fmtI).map ((44 : UInt8) :: ·)).flatten = fmtI x ++ tailF t
    rw [List.map_map]
    rfl
  rw [e]
  refine Ev.step (fun k => ?_) hj
  rw [intrusionref08_Format.l0, if_pos (by simp), if_neg (by omega)]
  rfl
theorem itoa_last : Lib.itoa 65535 = [54, 53, 53, 51, 53] := by kernel_rfl
theorem port_wf {l r : List Sn} (h : Can (portP l) r) : ∀ x ∈ r, PW x := fun x hx => by
  obtain ⟨h0, h1, _⟩ := h.wf x hx
  have h2 := (h.2.2 x.f1).1 ((sm_iff r x.f1).2 ⟨x, hx, h1, Int.le_refl _⟩)
  exact ⟨h0, h1, h2.2.2⟩
theorem format_spec (l : List Sn) (hl : l.length < 400) : ∃ r, Can (portP l) r ∧ r.length ≤ l.length + 1 ∧ Ev (fun k => intrusionref08_ports.f k l) r ∧ Ev (fun k => interval_Intersect.f k l allS) r ∧ Ev (fun k => portset_Format.f k l) (mkB (fmtV r)) ∧ Ev (fun k => intrusionref08_Format.f k l) (mkB (fmtV r)) := by
  obtain ⟨r, r1, r2, r3, r4, r5⟩ := ports_spec l hl
  have hw := port_wf r2
  refine ⟨r, r2, r3, r1, r5, ?_, ?_⟩
  · unfold portset_Format.f portset_given.f portset_All.f
    rw [if_pos (by omega)]
    simp only [Option.bind_some]
    refine Ev.bind r4 ?_
    cases r with
    | nil =>
      refine Ev.congr (fun k => if_pos rfl) ?_
      rw [itoa_ev (by omega) (by omega)]
      simp only [Option.bind_some]
      refine Ev.congr (fun k => if_pos (by rw [mkB_size]; have := dec5 (x := 65535) (by omega) (by omega); omega)) ?_
      exact Ev.now _
    | cons x t =>
      refine Ev.congr (fun k => (if_neg (by simp only [List.length_cons]; omega)).trans ((if_pos (by simp only [List.length_cons]; omega)).trans (if_pos (by decide)))) ?_
      have r0 : rd_T33 (x :: t) 0 = x := rfl
      have ra : rd_T33 [(⟨0, 65535⟩ : Sn)] 0 = ⟨0, 65535⟩ := rfl
      rw [r0, ra]
      by_cases h : x.f0 = 0 ∧ x.f1 = 65535
      · refine Ev.congr (fun k => if_pos (by rw [Bool.and_eq_true, beq_iff_eq, beq_iff_eq]; exact h)) ?_
        rw [fmtV, if_pos h]
        exact Ev.now _
      · refine Ev.congr (fun k => if_neg (by rw [Bool.and_eq_true, beq_iff_eq, beq_iff_eq]; exact h)) ?_
        rw [fmtV, if_neg h]
        have := pform0 (x :: t) (by omega) hw _ 0 [] rfl (by omega) rfl (by simp)
        simpa using this
  · unfold intrusionref08_Format.f
    refine Ev.bind r1 ?_
    cases r with
    | nil =>
      refine Ev.congr (fun k => if_pos rfl) ?_
      rw [fmtV, itoa_last]
      exact Ev.now _
    | cons x t =>
      refine Ev.congr (fun k => (if_neg (by simp only [List.length_cons]; omega)).trans (if_pos (by simp only [List.length_cons]; omega))) ?_
      have r0 : rd_T33 (x :: t) 0 = x := rfl
      rw [r0]
      by_cases h : x.f0 = 0 ∧ x.f1 = 65535
      · refine Ev.congr (fun k => if_pos (by rw [Bool.and_eq_true, beq_iff_eq, beq_iff_eq]; exact h)) ?_
        rw [fmtV, if_pos h]
        exact Ev.now _
      · refine Ev.congr (fun k => if_neg (by rw [Bool.and_eq_true, beq_iff_eq, beq_iff_eq]; exact h)) ?_
        rw [fmtV, if_neg h]
        exact rform_ev x t (by omega) hw
end Go.Proofs.YtbimdjciacnioaaDoor.Q
end
