/- The law PortsetEvals answers true for every input and leaves its arguments as they were. No condition. (Part 3 of 4: the kit's printed words and walks, hand-made contracts and plain laws, joined in build order, without what the theorem does not reach.) -/
import Derived.Test.YtbimdjciacnioaaDoorGPortsetEvals2
section
namespace Go.Proofs.YtbimdjciacnioaaDoor.Q
open Go.RowKit Go.Proofs.YtbimdjciacnioaaDoorW.PrintWords Go.Proofs.YtbimdjciacnioaaDoorW.PrintLast Go.Proofs.YtbimdjciacnioaaDoorW.PrintMore
attribute [local go_sem] max2_int min2_int max_two min_two max_three min_three max_four min_four
set_option linter.unusedVariables false
set_option linter.unusedSimpArgs false
def intrusionlaw08_awake.f (k : Nat)  : Option (Bool) := (portset_Parse.f k (⟨#[56, 48, 44, 56, 48, 48, 48, 58, 56, 48, 48, 50, 44, 33, 56, 48, 48, 49]⟩ : ByteArray)).bind fun bt237 => ((portset_Parse.f k (⟨#[55, 58, 53]⟩ : ByteArray)).bind fun bt241 => ((portset_Parse.f k (⟨#[]⟩ : ByteArray)).bind fun bt245 => ((portset_Eval.f k ([] : List (S33)) (([(⟨0, 1023⟩ : S33)] : List (S33)))).bind fun t252 => ((intrusionlaw08_same.f k bt237.1 (([(⟨80, 80⟩ : S33), (⟨8000, 8000⟩ : S33), (⟨8002, 8002⟩ : S33)] : List (S33)))).bind fun t258 => (if t258 = true then (if bt237.2 = 0 then (if bt241.2 = 4 then (if bt245.2 = 14 then ((intrusionlaw08_same.f k t252 (([(⟨1024, 65535⟩ : S33)] : List (S33)))).bind fun t262 => (if t262 = true then ((portset_Format.f k (([(⟨1, 2⟩ : S33), (⟨9, 9⟩ : S33)] : List (S33)))).bind fun t266 => (if t266.toList = ([49, 58, 50, 44, 57] : List UInt8) then ((portset_All.f).bind fun t267 => ((intrusionlaw08_same.f k t267 (([(⟨0, 65535⟩ : S33)] : List (S33)))).bind fun t273 => (some t273))) else (some false))) else (some false))) else (some false)) else (some false)) else (some false)) else (some false))))))
theorem intrusionlaw08_awake.mono : ∀ k, LeO (intrusionlaw08_awake.f k ) (intrusionlaw08_awake.f (k + 1) ) := by
  intro  k
  unfold intrusionlaw08_awake.f
  repeat' first
      | (with_reducible exact intrusionlaw08_same.mono _ _ _)
      | (with_reducible exact portset_Eval.mono _ _ _)
      | (with_reducible exact portset_Format.mono _ _)
      | (with_reducible exact portset_Parse.mono _ _)
      | (with_reducible exact LeO.refl _)
      | (with_reducible exact LeO.none _)
      | (with_reducible refine LeO.ite ?_ ?_)
      | (with_reducible refine LeO.bind ?_ (fun _ => ?_))
      | exact intrusionlaw08_same.mono _ _ _
      | exact portset_Eval.mono _ _ _
      | exact portset_Format.mono _ _
      | exact portset_Parse.mono _ _
      | exact LeO.none _
      | refine LeO.ite ?_ ?_
      | refine LeO.bind ?_ (fun _ => ?_)
set_option maxHeartbeats 8000000 in
set_option maxRecDepth 100000 in
theorem intrusionlaw08_awake.calls (k : Nat)  (r : Bool) (w : World) (h : intrusionlaw08_awake.f k  = some r) (hW_ : WOK w) :
 Calls Tryd.prog 9 #[] w fun e w' => e = .returned (.bool r) ∧ Below w.heap.size w w' := by
 have hu33 := Tryd.underlying33
 have HB := Aside0.mk (Below.refl w.heap.size w)
 unfold intrusionlaw08_awake.f at h; have H := h
 clear h
 replace H := Option.bind_eq_some_iff.mp H
 obtain ⟨⟨t237, t238⟩, A10, H⟩ := H
 try dsimp only at H
 have A1 := Aside0.mk A10
 clear A10
 replace H := Option.bind_eq_some_iff.mp H
 obtain ⟨⟨t241, t242⟩, A20, H⟩ := H
 try dsimp only at H
 have A2 := Aside0.mk A20
 clear A20
 replace H := Option.bind_eq_some_iff.mp H
 obtain ⟨⟨t245, t246⟩, A30, H⟩ := H
 try dsimp only at H
 have A3 := Aside0.mk A30
 clear A30
 obtain ⟨y249, hy249⟩ : ∃ y_ : List (S33), y_ = (([(⟨0, 1023⟩ : S33)] : List (S33))) := ⟨_, rfl⟩
 rw [← hy249] at H; try dsimp only [Option.bind_some] at H
 have Ny249 := Aside0.mk hy249
 clear hy249
 replace H := Option.bind_eq_some_iff.mp H
 obtain ⟨t252, A40, H⟩ := H
 try dsimp only at H
 have A4 := Aside0.mk A40
 clear A40
 obtain ⟨y255, hy255⟩ : ∃ y_ : List (S33), y_ = (([(⟨80, 80⟩ : S33), (⟨8000, 8000⟩ : S33), (⟨8002, 8002⟩ : S33)] : List (S33))) := ⟨_, rfl⟩
 rw [← hy255] at H; try dsimp only [Option.bind_some] at H
 have Ny255 := Aside0.mk hy255
 clear hy255
 replace H := Option.bind_eq_some_iff.mp H
 obtain ⟨t258, A50, H⟩ := H
 try dsimp only at H
 have A5 := Aside0.mk A50
 clear A50
 by_cases c6 : t258 = true
 · subst c6
   rw [if_pos rfl] at H
   by_cases c7 : t238 = 0
   · rw [if_pos c7] at H
     have c7b0 : (t238 == 0) = true := beq_iff_eq.mpr c7
     have c7b1 : (t238 != 0) = false := bne_eq_false_iff_eq.mpr c7
     clear c7
     by_cases c8 : t242 = 4
     · rw [if_pos c8] at H
       have c8b0 : (t242 == 4) = true := beq_iff_eq.mpr c8
       have c8b1 : (t242 != 4) = false := bne_eq_false_iff_eq.mpr c8
       clear c8
       by_cases c9 : t246 = 14
       · rw [if_pos c9] at H
         have c9b0 : (t246 == 14) = true := beq_iff_eq.mpr c9
         have c9b1 : (t246 != 14) = false := bne_eq_false_iff_eq.mpr c9
         clear c9
         obtain ⟨y259, hy259⟩ : ∃ y_ : List (S33), y_ = (([(⟨1024, 65535⟩ : S33)] : List (S33))) := ⟨_, rfl⟩
         rw [← hy259] at H; try dsimp only [Option.bind_some] at H
         have Ny259 := Aside0.mk hy259
         clear hy259
         replace H := Option.bind_eq_some_iff.mp H
         obtain ⟨t262, A100, H⟩ := H
         try dsimp only at H
         have A10 := Aside0.mk A100
         clear A100
         by_cases c11 : t262 = true
         · subst c11
           rw [if_pos rfl] at H
           obtain ⟨y263, hy263⟩ : ∃ y_ : List (S33), y_ = (([(⟨1, 2⟩ : S33), (⟨9, 9⟩ : S33)] : List (S33))) := ⟨_, rfl⟩
           rw [← hy263] at H; try dsimp only [Option.bind_some] at H
           have Ny263 := Aside0.mk hy263
           clear hy263
           replace H := Option.bind_eq_some_iff.mp H
           obtain ⟨t266, A120, H⟩ := H
           try dsimp only at H
           have A12 := Aside0.mk A120
           clear A120
           by_cases c13 : t266.toList = ([49, 58, 50, 44, 57] : List UInt8)
           · rw [if_pos c13] at H
             have c13b0 : (t266.toList == ([49, 58, 50, 44, 57] : List UInt8)) = true := beq_iff_eq.mpr c13
             have c13b1 : (t266.toList != ([49, 58, 50, 44, 57] : List UInt8)) = false := bne_eq_false_iff_eq.mpr c13
             clear c13
             replace H := Option.bind_eq_some_iff.mp H
             obtain ⟨t267, A140, H⟩ := H
             try dsimp only at H
             have A14 := Aside0.mk A140
             clear A140
             obtain ⟨y270, hy270⟩ : ∃ y_ : List (S33), y_ = (([(⟨0, 65535⟩ : S33)] : List (S33))) := ⟨_, rfl⟩
             rw [← hy270] at H; try dsimp only [Option.bind_some] at H
             have Ny270 := Aside0.mk hy270
             clear hy270
             replace H := Option.bind_eq_some_iff.mp H
             obtain ⟨t273, A150, H⟩ := H
             try dsimp only at H
             have A15 := Aside0.mk A150
             clear A150
             obtain rfl := Option.some.inj H
             go_enter Tryd.func9, Tryd.ntmps9
             go_wp2_with (first | ((with_reducible refine gate_callee (f := 10) rfl ?_); refine goesL_ (some 9) rfl rfl Tryd.func10 (by kernel_rfl) rfl #[.string (⟨#[56, 48, 44, 56, 48, 48, 48, 58, 56, 48, 48, 50, 44, 33, 56, 48, 48, 49]⟩ : ByteArray)] rfl (by (try simp only [List.map_toArray, List.map_cons, List.map_nil]); first | done | rfl | (simp only [List.length_drop, List.length_take]; rfl)) ?_; (with_reducible refine (portset_Parse.calls k (⟨#[56, 48, 44, 56, 48, 48, 48, 58, 56, 48, 48, 50, 44, 33, 56, 48, 48, 49]⟩ : ByteArray) t237 t238 _ A1.out (WOK.below hW_ (zB HB))).mono ?_); rintro e w16 ⟨v239, rfl, ho0, hb⟩; refine ⟨_, rfl, ?_⟩; have HO240 := Aside0.mk (Kd.R_lower ho0 (below_size (zB HB))); replace HB := Aside0.mk (below_step (zB HB) hb); (try clear hb); (try clear ho0)) | ((with_reducible refine gate_callee (f := 10) rfl ?_); refine goesL_ (some 13) rfl rfl Tryd.func10 (by kernel_rfl) rfl #[.string (⟨#[55, 58, 53]⟩ : ByteArray)] rfl (by (try simp only [List.map_toArray, List.map_cons, List.map_nil]); first | done | rfl | (simp only [List.length_drop, List.length_take]; rfl)) ?_; (with_reducible refine (portset_Parse.calls k (⟨#[55, 58, 53]⟩ : ByteArray) t241 t242 _ A2.out (WOK.below hW_ (zB HB))).mono ?_); rintro e w17 ⟨v243, rfl, ho0, hb⟩; refine ⟨_, rfl, ?_⟩; have HO244 := Aside0.mk (Kd.R_lower (Kd.R_new' ho0 (Kd.R_lt (zR HO240))) (below_size (zB HB))); replace HO240 := Aside0.mk (Kd.R_elder' (zR HO240) (Kd.R_base ho0) hb); replace HB := Aside0.mk (below_step (zB HB) hb); (try clear hb); (try clear ho0)) | ((with_reducible refine gate_callee (f := 10) rfl ?_); refine goesL_ (some 17) rfl rfl Tryd.func10 (by kernel_rfl) rfl #[.string (⟨#[]⟩ : ByteArray)] rfl (by (try simp only [List.map_toArray, List.map_cons, List.map_nil]); first | done | rfl | (simp only [List.length_drop, List.length_take]; rfl)) ?_; (with_reducible refine (portset_Parse.calls k (⟨#[]⟩ : ByteArray) t245 t246 _ A3.out (WOK.below hW_ (zB HB))).mono ?_); rintro e w18 ⟨v247, rfl, ho0, hb⟩; refine ⟨_, rfl, ?_⟩; have HO248 := Aside0.mk (Kd.R_lower (Kd.R_new' (Kd.R_new' ho0 (Kd.R_lt (zR HO240))) (Kd.R_lt (zR HO244))) (below_size (zB HB))); replace HO240 := Aside0.mk (Kd.R_elder' (zR HO240) (Kd.R_base ho0) hb); replace HO244 := Aside0.mk (Kd.R_elder' (zR HO244) (Kd.R_base ho0) hb); replace HB := Aside0.mk (below_step (zB HB) hb); (try clear hb); (try clear ho0)) | ((with_reducible refine gate_dst (N := 21) rfl ?_); (try (refine gate_guard (by rfl) ?_; dsimp only)); refine Kd.R_lit k33 _ 33 ?hg (N := 21) ?hd (xs := ([(⟨0, 1023⟩ : S33)] : List (S33))) (inner := [.int .i64 0, .int .i64 1023]) (ok := fun _ => True) (okp := fun _ => True) ?hr ?hp (fun _ hk => hk) trivial (Below.refl _ _) (Nat.le_refl _) (by simp) ?_; (case hd => rfl); (case hg => rfl); (case hr => first | (go_simp; done) | (go_simp; rfl)); (case hp => exact (Reps.c2 (show Kd.M k33 _ _ _ (⟨0, 1023⟩ : S33) [.int .i64 0, .int .i64 1023] from (k33_mkM _ _ _ (⟨0, 1023⟩ : S33) )) (Reps.none _ _))); intro v250 w19 ho20 hb hg_ hnew_; clear hg_ hnew_; (first | rw [← Ny249.out] at ho20 | (simp only [Int.reduceToNat] at ho20; rw [← Ny249.out] at ho20)); have HO251 := Aside0.mk (Kd.R_lower (Kd.R_new' (Kd.R_new' (Kd.R_new' ho20 (Kd.R_lt (zR HO240))) (Kd.R_lt (zR HO244))) (Kd.R_lt (zR HO248))) (below_size (zB HB))); replace HO240 := Aside0.mk (Kd.R_elder' (zR HO240) (Kd.R_base ho20) hb); replace HO244 := Aside0.mk (Kd.R_elder' (zR HO244) (Kd.R_base ho20) hb); replace HO248 := Aside0.mk (Kd.R_elder' (zR HO248) (Kd.R_base ho20) hb); replace HB := Aside0.mk (below_step (zB HB) hb); clear hb ho20; obtain ⟨Ao21, co21, eo21⟩ := Kd.R_slice HO251.out; subst eo21) | ((with_reducible refine gate_callee (f := 16) rfl ?_); refine goesL_ (some 22) rfl rfl Tryd.func16 (by kernel_rfl) rfl #[.slice none 0 0, .slice Ao21 y249.length co21] rfl (by (try simp only [List.map_toArray, List.map_cons, List.map_nil]); first | done | rfl | (simp only [List.length_drop, List.length_take]; rfl)) ?_; (refine (portset_Eval.calls k _ _ ([] : List (S33)) _ _ y249 t252 _ ?side1 ?side2 ?side3 ?side4 A4.out).mono ?_); (case side1 => exact Kd.C_nil _ _); (case side2 => exact Nat.le_refl _); (case side3 => repeat (first | exact (Kd.R_reads' HO251.out).2.2 | (with_reducible refine Kd.C_alloc ?_ _) | (with_reducible refine Kd.C_drewN ?_ _) | (with_reducible refine Kd.C_drew ?_))); (case side4 => exact (Kd.R_reads' HO251.out).2.1); rintro e w22 ⟨v253, rfl, ho0, hb⟩; refine ⟨_, rfl, ?_⟩; have HO254 := Aside0.mk (Kd.R_lower (Kd.R_new' (Kd.R_new' (Kd.R_new' (Kd.R_new' ho0 (Kd.R_lt (zR HO240))) (Kd.R_lt (zR HO244))) (Kd.R_lt (zR HO248))) (Kd.R_lt (zR HO251))) (below_size (zB HB))); replace HO240 := Aside0.mk (Kd.R_elder' (zR HO240) (Kd.R_base ho0) hb); replace HO244 := Aside0.mk (Kd.R_elder' (zR HO244) (Kd.R_base ho0) hb); replace HO248 := Aside0.mk (Kd.R_elder' (zR HO248) (Kd.R_base ho0) hb); replace HO251 := Aside0.mk (Kd.R_elder' (zR HO251) (Kd.R_base ho0) hb); replace HB := Aside0.mk (below_step (zB HB) hb); (try clear hb); (try clear ho0)) | ((with_reducible refine gate_dst (N := 27) rfl ?_); (try (refine gate_guard (by rfl) ?_; dsimp only)); refine Kd.R_lit k33 _ 33 ?hg (N := 27) ?hd (xs := ([(⟨80, 80⟩ : S33), (⟨8000, 8000⟩ : S33), (⟨8002, 8002⟩ : S33)] : List (S33))) (inner := [.int .i64 80, .int .i64 80, .int .i64 8000, .int .i64 8000, .int .i64 8002, .int .i64 8002]) (ok := fun _ => True) (okp := fun _ => True) ?hr ?hp (fun _ hk => hk) trivial (Below.refl _ _) (Nat.le_refl _) (by simp) ?_; (case hd => rfl); (case hg => rfl); (case hr => first | (go_simp; done) | (go_simp; rfl)); (case hp => exact (Reps.c2 (show Kd.M k33 _ _ _ (⟨80, 80⟩ : S33) [.int .i64 80, .int .i64 80] from (k33_mkM _ _ _ (⟨80, 80⟩ : S33) )) (Reps.c2 (show Kd.M k33 _ _ _ (⟨8000, 8000⟩ : S33) [.int .i64 8000, .int .i64 8000] from (k33_mkM _ _ _ (⟨8000, 8000⟩ : S33) )) (Reps.c2 (show Kd.M k33 _ _ _ (⟨8002, 8002⟩ : S33) [.int .i64 8002, .int .i64 8002] from (k33_mkM _ _ _ (⟨8002, 8002⟩ : S33) )) (Reps.none _ _))))); intro v256 w23 ho24 hb hg_ hnew_; clear hg_ hnew_; (first | rw [← Ny255.out] at ho24 | (simp only [Int.reduceToNat] at ho24; rw [← Ny255.out] at ho24)); have HO257 := Aside0.mk (Kd.R_lower (Kd.R_new' (Kd.R_new' (Kd.R_new' (Kd.R_new' (Kd.R_new' ho24 (Kd.R_lt (zR HO240))) (Kd.R_lt (zR HO244))) (Kd.R_lt (zR HO248))) (Kd.R_lt (zR HO251))) (Kd.R_lt (zR HO254))) (below_size (zB HB))); replace HO240 := Aside0.mk (Kd.R_elder' (zR HO240) (Kd.R_base ho24) hb); replace HO244 := Aside0.mk (Kd.R_elder' (zR HO244) (Kd.R_base ho24) hb); replace HO248 := Aside0.mk (Kd.R_elder' (zR HO248) (Kd.R_base ho24) hb); replace HO251 := Aside0.mk (Kd.R_elder' (zR HO251) (Kd.R_base ho24) hb); replace HO254 := Aside0.mk (Kd.R_elder' (zR HO254) (Kd.R_base ho24) hb); replace HB := Aside0.mk (below_step (zB HB) hb); clear hb ho24; obtain ⟨Ao25, co25, eo25⟩ := Kd.R_slice HO240.out; subst eo25; obtain ⟨Ao26, co26, eo26⟩ := Kd.R_slice HO257.out; subst eo26) | ((with_reducible refine gate_callee (f := 12) rfl ?_); refine goesL_ (some 28) rfl rfl Tryd.func12 (by kernel_rfl) rfl #[.slice Ao25 t237.length co25, .slice Ao26 y255.length co26] rfl (by (try simp only [List.map_toArray, List.map_cons, List.map_nil]); first | done | rfl | (simp only [List.length_drop, List.length_take]; rfl)) ?_; (with_reducible refine (intrusionlaw08_same.calls k _ _ t237 _ _ y255 true _ ?side1 ?side2 ?side3 ?side4 A5.out).mono ?_); (case side1 => repeat (first | exact (Kd.R_reads' HO240.out).2.2 | (with_reducible refine Kd.C_alloc ?_ _) | (with_reducible refine Kd.C_drewN ?_ _) | (with_reducible refine Kd.C_drew ?_))); (case side2 => exact (Kd.R_reads' HO240.out).2.1); (case side3 => repeat (first | exact (Kd.R_reads' HO257.out).2.2 | (with_reducible refine Kd.C_alloc ?_ _) | (with_reducible refine Kd.C_drewN ?_ _) | (with_reducible refine Kd.C_drew ?_))); (case side4 => exact (Kd.R_reads' HO257.out).2.1); rintro e w' ⟨rfl, ⟨nd, rfl⟩⟩; refine ⟨_, rfl, ?_⟩) | ((with_reducible refine gate_dst (N := 44) rfl ?_); (try (refine gate_guard (by rfl) ?_; dsimp only)); refine Kd.R_lit k33 _ 33 ?hg (N := 44) ?hd (xs := ([(⟨1024, 65535⟩ : S33)] : List (S33))) (inner := [.int .i64 1024, .int .i64 65535]) (ok := fun _ => True) (okp := fun _ => True) ?hr ?hp (fun _ hk => hk) trivial (Below.refl _ _) (Nat.le_refl _) (by simp) ?_; (case hd => rfl); (case hg => rfl); (case hr => first | (go_simp; done) | (go_simp; rfl)); (case hp => exact (Reps.c2 (show Kd.M k33 _ _ _ (⟨1024, 65535⟩ : S33) [.int .i64 1024, .int .i64 65535] from (k33_mkM _ _ _ (⟨1024, 65535⟩ : S33) )) (Reps.none _ _))); intro v260 w27 ho28 hb hg_ hnew_; clear hg_ hnew_; (first | rw [← Ny259.out] at ho28 | (simp only [Int.reduceToNat] at ho28; rw [← Ny259.out] at ho28)); have HO261 := Aside0.mk (Kd.R_lower (Kd.R_new' (Kd.R_new' (Kd.R_new' (Kd.R_new' (Kd.R_new' (Kd.R_new' ho28 (Kd.R_lt (zR HO240))) (Kd.R_lt (zR HO244))) (Kd.R_lt (zR HO248))) (Kd.R_lt (zR HO251))) (Kd.R_lt (zR HO254))) (Kd.R_lt (zR HO257))) (below_size (zB HB))); replace HO240 := Aside0.mk (Kd.R_elder' (zR HO240) (Kd.R_base ho28) hb); replace HO244 := Aside0.mk (Kd.R_elder' (zR HO244) (Kd.R_base ho28) hb); replace HO248 := Aside0.mk (Kd.R_elder' (zR HO248) (Kd.R_base ho28) hb); replace HO251 := Aside0.mk (Kd.R_elder' (zR HO251) (Kd.R_base ho28) hb); replace HO254 := Aside0.mk (Kd.R_elder' (zR HO254) (Kd.R_base ho28) hb); replace HO257 := Aside0.mk (Kd.R_elder' (zR HO257) (Kd.R_base ho28) hb); replace HB := Aside0.mk (below_step (zB HB) hb); clear hb ho28; obtain ⟨Ao29, co29, eo29⟩ := Kd.R_slice HO254.out; subst eo29; obtain ⟨Ao30, co30, eo30⟩ := Kd.R_slice HO261.out; subst eo30) | (go_at_call 12; (with_reducible refine (intrusionlaw08_same.calls k _ _ t252 _ _ y259 true _ ?side1 ?side2 ?side3 ?side4 A10.out).mono ?_); (case side1 => repeat (first | exact (Kd.R_reads' HO254.out).2.2 | (with_reducible refine Kd.C_alloc ?_ _) | (with_reducible refine Kd.C_drewN ?_ _) | (with_reducible refine Kd.C_drew ?_))); (case side2 => exact (Kd.R_reads' HO254.out).2.1); (case side3 => repeat (first | exact (Kd.R_reads' HO261.out).2.2 | (with_reducible refine Kd.C_alloc ?_ _) | (with_reducible refine Kd.C_drewN ?_ _) | (with_reducible refine Kd.C_drew ?_))); (case side4 => exact (Kd.R_reads' HO261.out).2.1); rintro e w' ⟨rfl, ⟨nd, rfl⟩⟩) | ((with_reducible refine gate_dst (N := 50) rfl ?_); (try (refine gate_guard (by rfl) ?_; dsimp only)); refine Kd.R_lit k33 _ 33 ?hg (N := 50) ?hd (xs := ([(⟨1, 2⟩ : S33), (⟨9, 9⟩ : S33)] : List (S33))) (inner := [.int .i64 1, .int .i64 2, .int .i64 9, .int .i64 9]) (ok := fun _ => True) (okp := fun _ => True) ?hr ?hp (fun _ hk => hk) trivial (Below.refl _ _) (Nat.le_refl _) (by simp) ?_; (case hd => rfl); (case hg => rfl); (case hr => first | (go_simp; done) | (go_simp; rfl)); (case hp => exact (Reps.c2 (show Kd.M k33 _ _ _ (⟨1, 2⟩ : S33) [.int .i64 1, .int .i64 2] from (k33_mkM _ _ _ (⟨1, 2⟩ : S33) )) (Reps.c2 (show Kd.M k33 _ _ _ (⟨9, 9⟩ : S33) [.int .i64 9, .int .i64 9] from (k33_mkM _ _ _ (⟨9, 9⟩ : S33) )) (Reps.none _ _)))); intro v264 w31 ho32 hb hg_ hnew_; clear hg_ hnew_; (first | rw [← Ny263.out] at ho32 | (simp only [Int.reduceToNat] at ho32; rw [← Ny263.out] at ho32)); have HO265 := Aside0.mk (Kd.R_lower (Kd.R_new' (Kd.R_new' (Kd.R_new' (Kd.R_new' (Kd.R_new' (Kd.R_new' (Kd.R_new' ho32 (Kd.R_lt (zR HO240))) (Kd.R_lt (zR HO244))) (Kd.R_lt (zR HO248))) (Kd.R_lt (zR HO251))) (Kd.R_lt (zR HO254))) (Kd.R_lt (zR HO257))) (Kd.R_lt (zR HO261))) (below_size (zB HB))); replace HO240 := Aside0.mk (Kd.R_elder' (zR HO240) (Kd.R_base ho32) hb); replace HO244 := Aside0.mk (Kd.R_elder' (zR HO244) (Kd.R_base ho32) hb); replace HO248 := Aside0.mk (Kd.R_elder' (zR HO248) (Kd.R_base ho32) hb); replace HO251 := Aside0.mk (Kd.R_elder' (zR HO251) (Kd.R_base ho32) hb); replace HO254 := Aside0.mk (Kd.R_elder' (zR HO254) (Kd.R_base ho32) hb); replace HO257 := Aside0.mk (Kd.R_elder' (zR HO257) (Kd.R_base ho32) hb); replace HO261 := Aside0.mk (Kd.R_elder' (zR HO261) (Kd.R_base ho32) hb); replace HB := Aside0.mk (below_step (zB HB) hb); clear hb ho32; obtain ⟨Ao33, co33, eo33⟩ := Kd.R_slice HO265.out; subst eo33) | (go_at_call 14; (with_reducible refine (portset_Format.calls k _ _ y263 t266 _ ?side1 ?side2 A12.out (WOK.below hW_ (zB HB))).mono ?_); (case side1 => repeat (first | exact (Kd.R_reads' HO265.out).2.2 | (with_reducible refine Kd.C_alloc ?_ _) | (with_reducible refine Kd.C_drewN ?_ _) | (with_reducible refine Kd.C_drew ?_))); (case side2 => exact (Kd.R_reads' HO265.out).2.1); rintro e w34 ⟨rfl, hb⟩; replace HO240 := Aside0.mk (Kd.R_below (zR HO240) hb); replace HO244 := Aside0.mk (Kd.R_below (zR HO244) hb); replace HO248 := Aside0.mk (Kd.R_below (zR HO248) hb); replace HO251 := Aside0.mk (Kd.R_below (zR HO251) hb); replace HO254 := Aside0.mk (Kd.R_below (zR HO254) hb); replace HO257 := Aside0.mk (Kd.R_below (zR HO257) hb); replace HO261 := Aside0.mk (Kd.R_below (zR HO261) hb); replace HO265 := Aside0.mk (Kd.R_below (zR HO265) hb); replace HB := Aside0.mk (below_step (zB HB) hb); (try clear hb)) | (go_at_call 20; (with_reducible refine (portset_All.calls  t267 _ A14.out).mono ?_); rintro e w35 ⟨v268, rfl, ho0, hb⟩; have HO269 := Aside0.mk (Kd.R_lower (Kd.R_new' (Kd.R_new' (Kd.R_new' (Kd.R_new' (Kd.R_new' (Kd.R_new' (Kd.R_new' (Kd.R_new' ho0 (Kd.R_lt (zR HO240))) (Kd.R_lt (zR HO244))) (Kd.R_lt (zR HO248))) (Kd.R_lt (zR HO251))) (Kd.R_lt (zR HO254))) (Kd.R_lt (zR HO257))) (Kd.R_lt (zR HO261))) (Kd.R_lt (zR HO265))) (below_size (zB HB))); replace HO240 := Aside0.mk (Kd.R_elder' (zR HO240) (Kd.R_base ho0) hb); replace HO244 := Aside0.mk (Kd.R_elder' (zR HO244) (Kd.R_base ho0) hb); replace HO248 := Aside0.mk (Kd.R_elder' (zR HO248) (Kd.R_base ho0) hb); replace HO251 := Aside0.mk (Kd.R_elder' (zR HO251) (Kd.R_base ho0) hb); replace HO254 := Aside0.mk (Kd.R_elder' (zR HO254) (Kd.R_base ho0) hb); replace HO257 := Aside0.mk (Kd.R_elder' (zR HO257) (Kd.R_base ho0) hb); replace HO261 := Aside0.mk (Kd.R_elder' (zR HO261) (Kd.R_base ho0) hb); replace HO265 := Aside0.mk (Kd.R_elder' (zR HO265) (Kd.R_base ho0) hb); replace HB := Aside0.mk (below_step (zB HB) hb); (try clear hb); (try clear ho0)) | ((with_reducible refine gate_dst (N := 57) rfl ?_); (try (refine gate_guard (by rfl) ?_; dsimp only)); refine Kd.R_lit k33 _ 33 ?hg (N := 57) ?hd (xs := ([(⟨0, 65535⟩ : S33)] : List (S33))) (inner := [.int .i64 0, .int .i64 65535]) (ok := fun _ => True) (okp := fun _ => True) ?hr ?hp (fun _ hk => hk) trivial (Below.refl _ _) (Nat.le_refl _) (by simp) ?_; (case hd => rfl); (case hg => rfl); (case hr => first | (go_simp; done) | (go_simp; rfl)); (case hp => exact (Reps.c2 (show Kd.M k33 _ _ _ (⟨0, 65535⟩ : S33) [.int .i64 0, .int .i64 65535] from (k33_mkM _ _ _ (⟨0, 65535⟩ : S33) )) (Reps.none _ _))); intro v271 w36 ho37 hb hg_ hnew_; clear hg_ hnew_; (first | rw [← Ny270.out] at ho37 | (simp only [Int.reduceToNat] at ho37; rw [← Ny270.out] at ho37)); have HO272 := Aside0.mk (Kd.R_lower (Kd.R_new' (Kd.R_new' (Kd.R_new' (Kd.R_new' (Kd.R_new' (Kd.R_new' (Kd.R_new' (Kd.R_new' (Kd.R_new' ho37 (Kd.R_lt (zR HO240))) (Kd.R_lt (zR HO244))) (Kd.R_lt (zR HO248))) (Kd.R_lt (zR HO251))) (Kd.R_lt (zR HO254))) (Kd.R_lt (zR HO257))) (Kd.R_lt (zR HO261))) (Kd.R_lt (zR HO265))) (Kd.R_lt (zR HO269))) (below_size (zB HB))); replace HO240 := Aside0.mk (Kd.R_elder' (zR HO240) (Kd.R_base ho37) hb); replace HO244 := Aside0.mk (Kd.R_elder' (zR HO244) (Kd.R_base ho37) hb); replace HO248 := Aside0.mk (Kd.R_elder' (zR HO248) (Kd.R_base ho37) hb); replace HO251 := Aside0.mk (Kd.R_elder' (zR HO251) (Kd.R_base ho37) hb); replace HO254 := Aside0.mk (Kd.R_elder' (zR HO254) (Kd.R_base ho37) hb); replace HO257 := Aside0.mk (Kd.R_elder' (zR HO257) (Kd.R_base ho37) hb); replace HO261 := Aside0.mk (Kd.R_elder' (zR HO261) (Kd.R_base ho37) hb); replace HO265 := Aside0.mk (Kd.R_elder' (zR HO265) (Kd.R_base ho37) hb); replace HO269 := Aside0.mk (Kd.R_elder' (zR HO269) (Kd.R_base ho37) hb); replace HB := Aside0.mk (below_step (zB HB) hb); clear hb ho37; obtain ⟨Ao38, co38, eo38⟩ := Kd.R_slice HO269.out; subst eo38; obtain ⟨Ao39, co39, eo39⟩ := Kd.R_slice HO272.out; subst eo39) | (go_at_call 12; (with_reducible refine (intrusionlaw08_same.calls k _ _ t267 _ _ y270 t273 _ ?side1 ?side2 ?side3 ?side4 A15.out).mono ?_); (case side1 => repeat (first | exact (Kd.R_reads' HO269.out).2.2 | (with_reducible refine Kd.C_alloc ?_ _) | (with_reducible refine Kd.C_drewN ?_ _) | (with_reducible refine Kd.C_drew ?_))); (case side2 => exact (Kd.R_reads' HO269.out).2.1); (case side3 => repeat (first | exact (Kd.R_reads' HO272.out).2.2 | (with_reducible refine Kd.C_alloc ?_ _) | (with_reducible refine Kd.C_drewN ?_ _) | (with_reducible refine Kd.C_drew ?_))); (case side4 => exact (Kd.R_reads' HO272.out).2.1); rintro e w' ⟨rfl, ⟨nd, rfl⟩⟩))
             go_ret
             exact ⟨by first | rfl | (simp [errW_none, errW_some] <;> rfl) | (simp [*, errW_none, errW_some] <;> rfl), by repeat (first | (with_reducible first | exact HB.out | apply below_alloc | apply pw_below_drewN | apply below_drew1) | exact HB.out)⟩
           · rw [if_neg c13] at H
             have c13b0 : (t266.toList == ([49, 58, 50, 44, 57] : List UInt8)) = false := beq_eq_false_iff_ne.mpr c13
             have c13b1 : (t266.toList != ([49, 58, 50, 44, 57] : List UInt8)) = true := bne_iff_ne.mpr c13
             obtain rfl := Option.some.inj H
             go_enter Tryd.func9, Tryd.ntmps9
             go_wp2_with (first | ((with_reducible refine gate_callee (f := 10) rfl ?_); refine goesL_ (some 9) rfl rfl Tryd.func10 (by kernel_rfl) rfl #[.string (⟨#[56, 48, 44, 56, 48, 48, 48, 58, 56, 48, 48, 50, 44, 33, 56, 48, 48, 49]⟩ : ByteArray)] rfl (by (try simp only [List.map_toArray, List.map_cons, List.map_nil]); first | done | rfl | (simp only [List.length_drop, List.length_take]; rfl)) ?_; (with_reducible refine (portset_Parse.calls k (⟨#[56, 48, 44, 56, 48, 48, 48, 58, 56, 48, 48, 50, 44, 33, 56, 48, 48, 49]⟩ : ByteArray) t237 t238 _ A1.out (WOK.below hW_ (zB HB))).mono ?_); rintro e w40 ⟨v239, rfl, ho0, hb⟩; refine ⟨_, rfl, ?_⟩; have HO240 := Aside0.mk (Kd.R_lower ho0 (below_size (zB HB))); replace HB := Aside0.mk (below_step (zB HB) hb); (try clear hb); (try clear ho0)) | ((with_reducible refine gate_callee (f := 10) rfl ?_); refine goesL_ (some 13) rfl rfl Tryd.func10 (by kernel_rfl) rfl #[.string (⟨#[55, 58, 53]⟩ : ByteArray)] rfl (by (try simp only [List.map_toArray, List.map_cons, List.map_nil]); first | done | rfl | (simp only [List.length_drop, List.length_take]; rfl)) ?_; (with_reducible refine (portset_Parse.calls k (⟨#[55, 58, 53]⟩ : ByteArray) t241 t242 _ A2.out (WOK.below hW_ (zB HB))).mono ?_); rintro e w41 ⟨v243, rfl, ho0, hb⟩; refine ⟨_, rfl, ?_⟩; have HO244 := Aside0.mk (Kd.R_lower (Kd.R_new' ho0 (Kd.R_lt (zR HO240))) (below_size (zB HB))); replace HO240 := Aside0.mk (Kd.R_elder' (zR HO240) (Kd.R_base ho0) hb); replace HB := Aside0.mk (below_step (zB HB) hb); (try clear hb); (try clear ho0)) | ((with_reducible refine gate_callee (f := 10) rfl ?_); refine goesL_ (some 17) rfl rfl Tryd.func10 (by kernel_rfl) rfl #[.string (⟨#[]⟩ : ByteArray)] rfl (by (try simp only [List.map_toArray, List.map_cons, List.map_nil]); first | done | rfl | (simp only [List.length_drop, List.length_take]; rfl)) ?_; (with_reducible refine (portset_Parse.calls k (⟨#[]⟩ : ByteArray) t245 t246 _ A3.out (WOK.below hW_ (zB HB))).mono ?_); rintro e w42 ⟨v247, rfl, ho0, hb⟩; refine ⟨_, rfl, ?_⟩; have HO248 := Aside0.mk (Kd.R_lower (Kd.R_new' (Kd.R_new' ho0 (Kd.R_lt (zR HO240))) (Kd.R_lt (zR HO244))) (below_size (zB HB))); replace HO240 := Aside0.mk (Kd.R_elder' (zR HO240) (Kd.R_base ho0) hb); replace HO244 := Aside0.mk (Kd.R_elder' (zR HO244) (Kd.R_base ho0) hb); replace HB := Aside0.mk (below_step (zB HB) hb); (try clear hb); (try clear ho0)) | ((with_reducible refine gate_dst (N := 21) rfl ?_); (try (refine gate_guard (by rfl) ?_; dsimp only)); refine Kd.R_lit k33 _ 33 ?hg (N := 21) ?hd (xs := ([(⟨0, 1023⟩ : S33)] : List (S33))) (inner := [.int .i64 0, .int .i64 1023]) (ok := fun _ => True) (okp := fun _ => True) ?hr ?hp (fun _ hk => hk) trivial (Below.refl _ _) (Nat.le_refl _) (by simp) ?_; (case hd => rfl); (case hg => rfl); (case hr => first | (go_simp; done) | (go_simp; rfl)); (case hp => exact (Reps.c2 (show Kd.M k33 _ _ _ (⟨0, 1023⟩ : S33) [.int .i64 0, .int .i64 1023] from (k33_mkM _ _ _ (⟨0, 1023⟩ : S33) )) (Reps.none _ _))); intro v250 w43 ho44 hb hg_ hnew_; clear hg_ hnew_; (first | rw [← Ny249.out] at ho44 | (simp only [Int.reduceToNat] at ho44; rw [← Ny249.out] at ho44)); have HO251 := Aside0.mk (Kd.R_lower (Kd.R_new' (Kd.R_new' (Kd.R_new' ho44 (Kd.R_lt (zR HO240))) (Kd.R_lt (zR HO244))) (Kd.R_lt (zR HO248))) (below_size (zB HB))); replace HO240 := Aside0.mk (Kd.R_elder' (zR HO240) (Kd.R_base ho44) hb); replace HO244 := Aside0.mk (Kd.R_elder' (zR HO244) (Kd.R_base ho44) hb); replace HO248 := Aside0.mk (Kd.R_elder' (zR HO248) (Kd.R_base ho44) hb); replace HB := Aside0.mk (below_step (zB HB) hb); clear hb ho44; obtain ⟨Ao45, co45, eo45⟩ := Kd.R_slice HO251.out; subst eo45) | ((with_reducible refine gate_callee (f := 16) rfl ?_); refine goesL_ (some 22) rfl rfl Tryd.func16 (by kernel_rfl) rfl #[.slice none 0 0, .slice Ao45 y249.length co45] rfl (by (try simp only [List.map_toArray, List.map_cons, List.map_nil]); first | done | rfl | (simp only [List.length_drop, List.length_take]; rfl)) ?_; (refine (portset_Eval.calls k _ _ ([] : List (S33)) _ _ y249 t252 _ ?side1 ?side2 ?side3 ?side4 A4.out).mono ?_); (case side1 => exact Kd.C_nil _ _); (case side2 => exact Nat.le_refl _); (case side3 => repeat (first | exact (Kd.R_reads' HO251.out).2.2 | (with_reducible refine Kd.C_alloc ?_ _) | (with_reducible refine Kd.C_drewN ?_ _) | (with_reducible refine Kd.C_drew ?_))); (case side4 => exact (Kd.R_reads' HO251.out).2.1); rintro e w46 ⟨v253, rfl, ho0, hb⟩; refine ⟨_, rfl, ?_⟩; have HO254 := Aside0.mk (Kd.R_lower (Kd.R_new' (Kd.R_new' (Kd.R_new' (Kd.R_new' ho0 (Kd.R_lt (zR HO240))) (Kd.R_lt (zR HO244))) (Kd.R_lt (zR HO248))) (Kd.R_lt (zR HO251))) (below_size (zB HB))); replace HO240 := Aside0.mk (Kd.R_elder' (zR HO240) (Kd.R_base ho0) hb); replace HO244 := Aside0.mk (Kd.R_elder' (zR HO244) (Kd.R_base ho0) hb); replace HO248 := Aside0.mk (Kd.R_elder' (zR HO248) (Kd.R_base ho0) hb); replace HO251 := Aside0.mk (Kd.R_elder' (zR HO251) (Kd.R_base ho0) hb); replace HB := Aside0.mk (below_step (zB HB) hb); (try clear hb); (try clear ho0)) | ((with_reducible refine gate_dst (N := 27) rfl ?_); (try (refine gate_guard (by rfl) ?_; dsimp only)); refine Kd.R_lit k33 _ 33 ?hg (N := 27) ?hd (xs := ([(⟨80, 80⟩ : S33), (⟨8000, 8000⟩ : S33), (⟨8002, 8002⟩ : S33)] : List (S33))) (inner := [.int .i64 80, .int .i64 80, .int .i64 8000, .int .i64 8000, .int .i64 8002, .int .i64 8002]) (ok := fun _ => True) (okp := fun _ => True) ?hr ?hp (fun _ hk => hk) trivial (Below.refl _ _) (Nat.le_refl _) (by simp) ?_; (case hd => rfl); (case hg => rfl); (case hr => first | (go_simp; done) | (go_simp; rfl)); (case hp => exact (Reps.c2 (show Kd.M k33 _ _ _ (⟨80, 80⟩ : S33) [.int .i64 80, .int .i64 80] from (k33_mkM _ _ _ (⟨80, 80⟩ : S33) )) (Reps.c2 (show Kd.M k33 _ _ _ (⟨8000, 8000⟩ : S33) [.int .i64 8000, .int .i64 8000] from (k33_mkM _ _ _ (⟨8000, 8000⟩ : S33) )) (Reps.c2 (show Kd.M k33 _ _ _ (⟨8002, 8002⟩ : S33) [.int .i64 8002, .int .i64 8002] from (k33_mkM _ _ _ (⟨8002, 8002⟩ : S33) )) (Reps.none _ _))))); intro v256 w47 ho48 hb hg_ hnew_; clear hg_ hnew_; (first | rw [← Ny255.out] at ho48 | (simp only [Int.reduceToNat] at ho48; rw [← Ny255.out] at ho48)); have HO257 := Aside0.mk (Kd.R_lower (Kd.R_new' (Kd.R_new' (Kd.R_new' (Kd.R_new' (Kd.R_new' ho48 (Kd.R_lt (zR HO240))) (Kd.R_lt (zR HO244))) (Kd.R_lt (zR HO248))) (Kd.R_lt (zR HO251))) (Kd.R_lt (zR HO254))) (below_size (zB HB))); replace HO240 := Aside0.mk (Kd.R_elder' (zR HO240) (Kd.R_base ho48) hb); replace HO244 := Aside0.mk (Kd.R_elder' (zR HO244) (Kd.R_base ho48) hb); replace HO248 := Aside0.mk (Kd.R_elder' (zR HO248) (Kd.R_base ho48) hb); replace HO251 := Aside0.mk (Kd.R_elder' (zR HO251) (Kd.R_base ho48) hb); replace HO254 := Aside0.mk (Kd.R_elder' (zR HO254) (Kd.R_base ho48) hb); replace HB := Aside0.mk (below_step (zB HB) hb); clear hb ho48; obtain ⟨Ao49, co49, eo49⟩ := Kd.R_slice HO240.out; subst eo49; obtain ⟨Ao50, co50, eo50⟩ := Kd.R_slice HO257.out; subst eo50) | ((with_reducible refine gate_callee (f := 12) rfl ?_); refine goesL_ (some 28) rfl rfl Tryd.func12 (by kernel_rfl) rfl #[.slice Ao49 t237.length co49, .slice Ao50 y255.length co50] rfl (by (try simp only [List.map_toArray, List.map_cons, List.map_nil]); first | done | rfl | (simp only [List.length_drop, List.length_take]; rfl)) ?_; (with_reducible refine (intrusionlaw08_same.calls k _ _ t237 _ _ y255 true _ ?side1 ?side2 ?side3 ?side4 A5.out).mono ?_); (case side1 => repeat (first | exact (Kd.R_reads' HO240.out).2.2 | (with_reducible refine Kd.C_alloc ?_ _) | (with_reducible refine Kd.C_drewN ?_ _) | (with_reducible refine Kd.C_drew ?_))); (case side2 => exact (Kd.R_reads' HO240.out).2.1); (case side3 => repeat (first | exact (Kd.R_reads' HO257.out).2.2 | (with_reducible refine Kd.C_alloc ?_ _) | (with_reducible refine Kd.C_drewN ?_ _) | (with_reducible refine Kd.C_drew ?_))); (case side4 => exact (Kd.R_reads' HO257.out).2.1); rintro e w' ⟨rfl, ⟨nd, rfl⟩⟩; refine ⟨_, rfl, ?_⟩) | ((with_reducible refine gate_dst (N := 44) rfl ?_); (try (refine gate_guard (by rfl) ?_; dsimp only)); refine Kd.R_lit k33 _ 33 ?hg (N := 44) ?hd (xs := ([(⟨1024, 65535⟩ : S33)] : List (S33))) (inner := [.int .i64 1024, .int .i64 65535]) (ok := fun _ => True) (okp := fun _ => True) ?hr ?hp (fun _ hk => hk) trivial (Below.refl _ _) (Nat.le_refl _) (by simp) ?_; (case hd => rfl); (case hg => rfl); (case hr => first | (go_simp; done) | (go_simp; rfl)); (case hp => exact (Reps.c2 (show Kd.M k33 _ _ _ (⟨1024, 65535⟩ : S33) [.int .i64 1024, .int .i64 65535] from (k33_mkM _ _ _ (⟨1024, 65535⟩ : S33) )) (Reps.none _ _))); intro v260 w51 ho52 hb hg_ hnew_; clear hg_ hnew_; (first | rw [← Ny259.out] at ho52 | (simp only [Int.reduceToNat] at ho52; rw [← Ny259.out] at ho52)); have HO261 := Aside0.mk (Kd.R_lower (Kd.R_new' (Kd.R_new' (Kd.R_new' (Kd.R_new' (Kd.R_new' (Kd.R_new' ho52 (Kd.R_lt (zR HO240))) (Kd.R_lt (zR HO244))) (Kd.R_lt (zR HO248))) (Kd.R_lt (zR HO251))) (Kd.R_lt (zR HO254))) (Kd.R_lt (zR HO257))) (below_size (zB HB))); replace HO240 := Aside0.mk (Kd.R_elder' (zR HO240) (Kd.R_base ho52) hb); replace HO244 := Aside0.mk (Kd.R_elder' (zR HO244) (Kd.R_base ho52) hb); replace HO248 := Aside0.mk (Kd.R_elder' (zR HO248) (Kd.R_base ho52) hb); replace HO251 := Aside0.mk (Kd.R_elder' (zR HO251) (Kd.R_base ho52) hb); replace HO254 := Aside0.mk (Kd.R_elder' (zR HO254) (Kd.R_base ho52) hb); replace HO257 := Aside0.mk (Kd.R_elder' (zR HO257) (Kd.R_base ho52) hb); replace HB := Aside0.mk (below_step (zB HB) hb); clear hb ho52; obtain ⟨Ao53, co53, eo53⟩ := Kd.R_slice HO254.out; subst eo53; obtain ⟨Ao54, co54, eo54⟩ := Kd.R_slice HO261.out; subst eo54) | (go_at_call 12; (with_reducible refine (intrusionlaw08_same.calls k _ _ t252 _ _ y259 true _ ?side1 ?side2 ?side3 ?side4 A10.out).mono ?_); (case side1 => repeat (first | exact (Kd.R_reads' HO254.out).2.2 | (with_reducible refine Kd.C_alloc ?_ _) | (with_reducible refine Kd.C_drewN ?_ _) | (with_reducible refine Kd.C_drew ?_))); (case side2 => exact (Kd.R_reads' HO254.out).2.1); (case side3 => repeat (first | exact (Kd.R_reads' HO261.out).2.2 | (with_reducible refine Kd.C_alloc ?_ _) | (with_reducible refine Kd.C_drewN ?_ _) | (with_reducible refine Kd.C_drew ?_))); (case side4 => exact (Kd.R_reads' HO261.out).2.1); rintro e w' ⟨rfl, ⟨nd, rfl⟩⟩) | ((with_reducible refine gate_dst (N := 50) rfl ?_); (try (refine gate_guard (by rfl) ?_; dsimp only)); refine Kd.R_lit k33 _ 33 ?hg (N := 50) ?hd (xs := ([(⟨1, 2⟩ : S33), (⟨9, 9⟩ : S33)] : List (S33))) (inner := [.int .i64 1, .int .i64 2, .int .i64 9, .int .i64 9]) (ok := fun _ => True) (okp := fun _ => True) ?hr ?hp (fun _ hk => hk) trivial (Below.refl _ _) (Nat.le_refl _) (by simp) ?_; (case hd => rfl); (case hg => rfl); (case hr => first | (go_simp; done) | (go_simp; rfl)); (case hp => exact (Reps.c2 (show Kd.M k33 _ _ _ (⟨1, 2⟩ : S33) [.int .i64 1, .int .i64 2] from (k33_mkM _ _ _ (⟨1, 2⟩ : S33) )) (Reps.c2 (show Kd.M k33 _ _ _ (⟨9, 9⟩ : S33) [.int .i64 9, .int .i64 9] from (k33_mkM _ _ _ (⟨9, 9⟩ : S33) )) (Reps.none _ _)))); intro v264 w55 ho56 hb hg_ hnew_; clear hg_ hnew_; (first | rw [← Ny263.out] at ho56 | (simp only [Int.reduceToNat] at ho56; rw [← Ny263.out] at ho56)); have HO265 := Aside0.mk (Kd.R_lower (Kd.R_new' (Kd.R_new' (Kd.R_new' (Kd.R_new' (Kd.R_new' (Kd.R_new' (Kd.R_new' ho56 (Kd.R_lt (zR HO240))) (Kd.R_lt (zR HO244))) (Kd.R_lt (zR HO248))) (Kd.R_lt (zR HO251))) (Kd.R_lt (zR HO254))) (Kd.R_lt (zR HO257))) (Kd.R_lt (zR HO261))) (below_size (zB HB))); replace HO240 := Aside0.mk (Kd.R_elder' (zR HO240) (Kd.R_base ho56) hb); replace HO244 := Aside0.mk (Kd.R_elder' (zR HO244) (Kd.R_base ho56) hb); replace HO248 := Aside0.mk (Kd.R_elder' (zR HO248) (Kd.R_base ho56) hb); replace HO251 := Aside0.mk (Kd.R_elder' (zR HO251) (Kd.R_base ho56) hb); replace HO254 := Aside0.mk (Kd.R_elder' (zR HO254) (Kd.R_base ho56) hb); replace HO257 := Aside0.mk (Kd.R_elder' (zR HO257) (Kd.R_base ho56) hb); replace HO261 := Aside0.mk (Kd.R_elder' (zR HO261) (Kd.R_base ho56) hb); replace HB := Aside0.mk (below_step (zB HB) hb); clear hb ho56; obtain ⟨Ao57, co57, eo57⟩ := Kd.R_slice HO265.out; subst eo57) | (go_at_call 14; (with_reducible refine (portset_Format.calls k _ _ y263 t266 _ ?side1 ?side2 A12.out (WOK.below hW_ (zB HB))).mono ?_); (case side1 => repeat (first | exact (Kd.R_reads' HO265.out).2.2 | (with_reducible refine Kd.C_alloc ?_ _) | (with_reducible refine Kd.C_drewN ?_ _) | (with_reducible refine Kd.C_drew ?_))); (case side2 => exact (Kd.R_reads' HO265.out).2.1); rintro e w58 ⟨rfl, hb⟩; replace HO240 := Aside0.mk (Kd.R_below (zR HO240) hb); replace HO244 := Aside0.mk (Kd.R_below (zR HO244) hb); replace HO248 := Aside0.mk (Kd.R_below (zR HO248) hb); replace HO251 := Aside0.mk (Kd.R_below (zR HO251) hb); replace HO254 := Aside0.mk (Kd.R_below (zR HO254) hb); replace HO257 := Aside0.mk (Kd.R_below (zR HO257) hb); replace HO261 := Aside0.mk (Kd.R_below (zR HO261) hb); replace HO265 := Aside0.mk (Kd.R_below (zR HO265) hb); replace HB := Aside0.mk (below_step (zB HB) hb); (try clear hb)))
             go_ret
             exact ⟨by first | rfl | (simp [errW_none, errW_some] <;> rfl) | (simp [*, errW_none, errW_some] <;> rfl), by repeat (first | (with_reducible first | exact HB.out | apply below_alloc | apply pw_below_drewN | apply below_drew1) | exact HB.out)⟩
         · replace c11 := Bool.eq_false_iff.mpr c11
           subst c11
           rw [if_neg zF] at H
           obtain rfl := Option.some.inj H
           go_enter Tryd.func9, Tryd.ntmps9
           go_wp2_with (first | ((with_reducible refine gate_callee (f := 10) rfl ?_); refine goesL_ (some 9) rfl rfl Tryd.func10 (by kernel_rfl) rfl #[.string (⟨#[56, 48, 44, 56, 48, 48, 48, 58, 56, 48, 48, 50, 44, 33, 56, 48, 48, 49]⟩ : ByteArray)] rfl (by (try simp only [List.map_toArray, List.map_cons, List.map_nil]); first | done | rfl | (simp only [List.length_drop, List.length_take]; rfl)) ?_; (with_reducible refine (portset_Parse.calls k (⟨#[56, 48, 44, 56, 48, 48, 48, 58, 56, 48, 48, 50, 44, 33, 56, 48, 48, 49]⟩ : ByteArray) t237 t238 _ A1.out (WOK.below hW_ (zB HB))).mono ?_); rintro e w59 ⟨v239, rfl, ho0, hb⟩; refine ⟨_, rfl, ?_⟩; have HO240 := Aside0.mk (Kd.R_lower ho0 (below_size (zB HB))); replace HB := Aside0.mk (below_step (zB HB) hb); (try clear hb); (try clear ho0)) | ((with_reducible refine gate_callee (f := 10) rfl ?_); refine goesL_ (some 13) rfl rfl Tryd.func10 (by kernel_rfl) rfl #[.string (⟨#[55, 58, 53]⟩ : ByteArray)] rfl (by (try simp only [List.map_toArray, List.map_cons, List.map_nil]); first | done | rfl | (simp only [List.length_drop, List.length_take]; rfl)) ?_; (with_reducible refine (portset_Parse.calls k (⟨#[55, 58, 53]⟩ : ByteArray) t241 t242 _ A2.out (WOK.below hW_ (zB HB))).mono ?_); rintro e w60 ⟨v243, rfl, ho0, hb⟩; refine ⟨_, rfl, ?_⟩; have HO244 := Aside0.mk (Kd.R_lower (Kd.R_new' ho0 (Kd.R_lt (zR HO240))) (below_size (zB HB))); replace HO240 := Aside0.mk (Kd.R_elder' (zR HO240) (Kd.R_base ho0) hb); replace HB := Aside0.mk (below_step (zB HB) hb); (try clear hb); (try clear ho0)) | ((with_reducible refine gate_callee (f := 10) rfl ?_); refine goesL_ (some 17) rfl rfl Tryd.func10 (by kernel_rfl) rfl #[.string (⟨#[]⟩ : ByteArray)] rfl (by (try simp only [List.map_toArray, List.map_cons, List.map_nil]); first | done | rfl | (simp only [List.length_drop, List.length_take]; rfl)) ?_; (with_reducible refine (portset_Parse.calls k (⟨#[]⟩ : ByteArray) t245 t246 _ A3.out (WOK.below hW_ (zB HB))).mono ?_); rintro e w61 ⟨v247, rfl, ho0, hb⟩; refine ⟨_, rfl, ?_⟩; have HO248 := Aside0.mk (Kd.R_lower (Kd.R_new' (Kd.R_new' ho0 (Kd.R_lt (zR HO240))) (Kd.R_lt (zR HO244))) (below_size (zB HB))); replace HO240 := Aside0.mk (Kd.R_elder' (zR HO240) (Kd.R_base ho0) hb); replace HO244 := Aside0.mk (Kd.R_elder' (zR HO244) (Kd.R_base ho0) hb); replace HB := Aside0.mk (below_step (zB HB) hb); (try clear hb); (try clear ho0)) | ((with_reducible refine gate_dst (N := 21) rfl ?_); (try (refine gate_guard (by rfl) ?_; dsimp only)); refine Kd.R_lit k33 _ 33 ?hg (N := 21) ?hd (xs := ([(⟨0, 1023⟩ : S33)] : List (S33))) (inner := [.int .i64 0, .int .i64 1023]) (ok := fun _ => True) (okp := fun _ => True) ?hr ?hp (fun _ hk => hk) trivial (Below.refl _ _) (Nat.le_refl _) (by simp) ?_; (case hd => rfl); (case hg => rfl); (case hr => first | (go_simp; done) | (go_simp; rfl)); (case hp => exact (Reps.c2 (show Kd.M k33 _ _ _ (⟨0, 1023⟩ : S33) [.int .i64 0, .int .i64 1023] from (k33_mkM _ _ _ (⟨0, 1023⟩ : S33) )) (Reps.none _ _))); intro v250 w62 ho63 hb hg_ hnew_; clear hg_ hnew_; (first | rw [← Ny249.out] at ho63 | (simp only [Int.reduceToNat] at ho63; rw [← Ny249.out] at ho63)); have HO251 := Aside0.mk (Kd.R_lower (Kd.R_new' (Kd.R_new' (Kd.R_new' ho63 (Kd.R_lt (zR HO240))) (Kd.R_lt (zR HO244))) (Kd.R_lt (zR HO248))) (below_size (zB HB))); replace HO240 := Aside0.mk (Kd.R_elder' (zR HO240) (Kd.R_base ho63) hb); replace HO244 := Aside0.mk (Kd.R_elder' (zR HO244) (Kd.R_base ho63) hb); replace HO248 := Aside0.mk (Kd.R_elder' (zR HO248) (Kd.R_base ho63) hb); replace HB := Aside0.mk (below_step (zB HB) hb); clear hb ho63; obtain ⟨Ao64, co64, eo64⟩ := Kd.R_slice HO251.out; subst eo64) | ((with_reducible refine gate_callee (f := 16) rfl ?_); refine goesL_ (some 22) rfl rfl Tryd.func16 (by kernel_rfl) rfl #[.slice none 0 0, .slice Ao64 y249.length co64] rfl (by (try simp only [List.map_toArray, List.map_cons, List.map_nil]); first | done | rfl | (simp only [List.length_drop, List.length_take]; rfl)) ?_; (refine (portset_Eval.calls k _ _ ([] : List (S33)) _ _ y249 t252 _ ?side1 ?side2 ?side3 ?side4 A4.out).mono ?_); (case side1 => exact Kd.C_nil _ _); (case side2 => exact Nat.le_refl _); (case side3 => repeat (first | exact (Kd.R_reads' HO251.out).2.2 | (with_reducible refine Kd.C_alloc ?_ _) | (with_reducible refine Kd.C_drewN ?_ _) | (with_reducible refine Kd.C_drew ?_))); (case side4 => exact (Kd.R_reads' HO251.out).2.1); rintro e w65 ⟨v253, rfl, ho0, hb⟩; refine ⟨_, rfl, ?_⟩; have HO254 := Aside0.mk (Kd.R_lower (Kd.R_new' (Kd.R_new' (Kd.R_new' (Kd.R_new' ho0 (Kd.R_lt (zR HO240))) (Kd.R_lt (zR HO244))) (Kd.R_lt (zR HO248))) (Kd.R_lt (zR HO251))) (below_size (zB HB))); replace HO240 := Aside0.mk (Kd.R_elder' (zR HO240) (Kd.R_base ho0) hb); replace HO244 := Aside0.mk (Kd.R_elder' (zR HO244) (Kd.R_base ho0) hb); replace HO248 := Aside0.mk (Kd.R_elder' (zR HO248) (Kd.R_base ho0) hb); replace HO251 := Aside0.mk (Kd.R_elder' (zR HO251) (Kd.R_base ho0) hb); replace HB := Aside0.mk (below_step (zB HB) hb); (try clear hb); (try clear ho0)) | ((with_reducible refine gate_dst (N := 27) rfl ?_); (try (refine gate_guard (by rfl) ?_; dsimp only)); refine Kd.R_lit k33 _ 33 ?hg (N := 27) ?hd (xs := ([(⟨80, 80⟩ : S33), (⟨8000, 8000⟩ : S33), (⟨8002, 8002⟩ : S33)] : List (S33))) (inner := [.int .i64 80, .int .i64 80, .int .i64 8000, .int .i64 8000, .int .i64 8002, .int .i64 8002]) (ok := fun _ => True) (okp := fun _ => True) ?hr ?hp (fun _ hk => hk) trivial (Below.refl _ _) (Nat.le_refl _) (by simp) ?_; (case hd => rfl); (case hg => rfl); (case hr => first | (go_simp; done) | (go_simp; rfl)); (case hp => exact (Reps.c2 (show Kd.M k33 _ _ _ (⟨80, 80⟩ : S33) [.int .i64 80, .int .i64 80] from (k33_mkM _ _ _ (⟨80, 80⟩ : S33) )) (Reps.c2 (show Kd.M k33 _ _ _ (⟨8000, 8000⟩ : S33) [.int .i64 8000, .int .i64 8000] from (k33_mkM _ _ _ (⟨8000, 8000⟩ : S33) )) (Reps.c2 (show Kd.M k33 _ _ _ (⟨8002, 8002⟩ : S33) [.int .i64 8002, .int .i64 8002] from (k33_mkM _ _ _ (⟨8002, 8002⟩ : S33) )) (Reps.none _ _))))); intro v256 w66 ho67 hb hg_ hnew_; clear hg_ hnew_; (first | rw [← Ny255.out] at ho67 | (simp only [Int.reduceToNat] at ho67; rw [← Ny255.out] at ho67)); have HO257 := Aside0.mk (Kd.R_lower (Kd.R_new' (Kd.R_new' (Kd.R_new' (Kd.R_new' (Kd.R_new' ho67 (Kd.R_lt (zR HO240))) (Kd.R_lt (zR HO244))) (Kd.R_lt (zR HO248))) (Kd.R_lt (zR HO251))) (Kd.R_lt (zR HO254))) (below_size (zB HB))); replace HO240 := Aside0.mk (Kd.R_elder' (zR HO240) (Kd.R_base ho67) hb); replace HO244 := Aside0.mk (Kd.R_elder' (zR HO244) (Kd.R_base ho67) hb); replace HO248 := Aside0.mk (Kd.R_elder' (zR HO248) (Kd.R_base ho67) hb); replace HO251 := Aside0.mk (Kd.R_elder' (zR HO251) (Kd.R_base ho67) hb); replace HO254 := Aside0.mk (Kd.R_elder' (zR HO254) (Kd.R_base ho67) hb); replace HB := Aside0.mk (below_step (zB HB) hb); clear hb ho67; obtain ⟨Ao68, co68, eo68⟩ := Kd.R_slice HO240.out; subst eo68; obtain ⟨Ao69, co69, eo69⟩ := Kd.R_slice HO257.out; subst eo69) | ((with_reducible refine gate_callee (f := 12) rfl ?_); refine goesL_ (some 28) rfl rfl Tryd.func12 (by kernel_rfl) rfl #[.slice Ao68 t237.length co68, .slice Ao69 y255.length co69] rfl (by (try simp only [List.map_toArray, List.map_cons, List.map_nil]); first | done | rfl | (simp only [List.length_drop, List.length_take]; rfl)) ?_; (with_reducible refine (intrusionlaw08_same.calls k _ _ t237 _ _ y255 true _ ?side1 ?side2 ?side3 ?side4 A5.out).mono ?_); (case side1 => repeat (first | exact (Kd.R_reads' HO240.out).2.2 | (with_reducible refine Kd.C_alloc ?_ _) | (with_reducible refine Kd.C_drewN ?_ _) | (with_reducible refine Kd.C_drew ?_))); (case side2 => exact (Kd.R_reads' HO240.out).2.1); (case side3 => repeat (first | exact (Kd.R_reads' HO257.out).2.2 | (with_reducible refine Kd.C_alloc ?_ _) | (with_reducible refine Kd.C_drewN ?_ _) | (with_reducible refine Kd.C_drew ?_))); (case side4 => exact (Kd.R_reads' HO257.out).2.1); rintro e w' ⟨rfl, ⟨nd, rfl⟩⟩; refine ⟨_, rfl, ?_⟩) | ((with_reducible refine gate_dst (N := 44) rfl ?_); (try (refine gate_guard (by rfl) ?_; dsimp only)); refine Kd.R_lit k33 _ 33 ?hg (N := 44) ?hd (xs := ([(⟨1024, 65535⟩ : S33)] : List (S33))) (inner := [.int .i64 1024, .int .i64 65535]) (ok := fun _ => True) (okp := fun _ => True) ?hr ?hp (fun _ hk => hk) trivial (Below.refl _ _) (Nat.le_refl _) (by simp) ?_; (case hd => rfl); (case hg => rfl); (case hr => first | (go_simp; done) | (go_simp; rfl)); (case hp => exact (Reps.c2 (show Kd.M k33 _ _ _ (⟨1024, 65535⟩ : S33) [.int .i64 1024, .int .i64 65535] from (k33_mkM _ _ _ (⟨1024, 65535⟩ : S33) )) (Reps.none _ _))); intro v260 w70 ho71 hb hg_ hnew_; clear hg_ hnew_; (first | rw [← Ny259.out] at ho71 | (simp only [Int.reduceToNat] at ho71; rw [← Ny259.out] at ho71)); have HO261 := Aside0.mk (Kd.R_lower (Kd.R_new' (Kd.R_new' (Kd.R_new' (Kd.R_new' (Kd.R_new' (Kd.R_new' ho71 (Kd.R_lt (zR HO240))) (Kd.R_lt (zR HO244))) (Kd.R_lt (zR HO248))) (Kd.R_lt (zR HO251))) (Kd.R_lt (zR HO254))) (Kd.R_lt (zR HO257))) (below_size (zB HB))); replace HO240 := Aside0.mk (Kd.R_elder' (zR HO240) (Kd.R_base ho71) hb); replace HO244 := Aside0.mk (Kd.R_elder' (zR HO244) (Kd.R_base ho71) hb); replace HO248 := Aside0.mk (Kd.R_elder' (zR HO248) (Kd.R_base ho71) hb); replace HO251 := Aside0.mk (Kd.R_elder' (zR HO251) (Kd.R_base ho71) hb); replace HO254 := Aside0.mk (Kd.R_elder' (zR HO254) (Kd.R_base ho71) hb); replace HO257 := Aside0.mk (Kd.R_elder' (zR HO257) (Kd.R_base ho71) hb); replace HB := Aside0.mk (below_step (zB HB) hb); clear hb ho71; obtain ⟨Ao72, co72, eo72⟩ := Kd.R_slice HO254.out; subst eo72; obtain ⟨Ao73, co73, eo73⟩ := Kd.R_slice HO261.out; subst eo73) | (go_at_call 12; (with_reducible refine (intrusionlaw08_same.calls k _ _ t252 _ _ y259 false _ ?side1 ?side2 ?side3 ?side4 A10.out).mono ?_); (case side1 => repeat (first | exact (Kd.R_reads' HO254.out).2.2 | (with_reducible refine Kd.C_alloc ?_ _) | (with_reducible refine Kd.C_drewN ?_ _) | (with_reducible refine Kd.C_drew ?_))); (case side2 => exact (Kd.R_reads' HO254.out).2.1); (case side3 => repeat (first | exact (Kd.R_reads' HO261.out).2.2 | (with_reducible refine Kd.C_alloc ?_ _) | (with_reducible refine Kd.C_drewN ?_ _) | (with_reducible refine Kd.C_drew ?_))); (case side4 => exact (Kd.R_reads' HO261.out).2.1); rintro e w' ⟨rfl, ⟨nd, rfl⟩⟩))
           go_ret
           exact ⟨by first | rfl | (simp [errW_none, errW_some] <;> rfl) | (simp [*, errW_none, errW_some] <;> rfl), by repeat (first | (with_reducible first | exact HB.out | apply below_alloc | apply pw_below_drewN | apply below_drew1) | exact HB.out)⟩
       · rw [if_neg c9] at H
         have c9b0 : (t246 == 14) = false := beq_eq_false_iff_ne.mpr c9
         have c9b1 : (t246 != 14) = true := bne_iff_ne.mpr c9
         obtain rfl := Option.some.inj H
         go_enter Tryd.func9, Tryd.ntmps9
         go_wp2_with (first | ((with_reducible refine gate_callee (f := 10) rfl ?_); refine goesL_ (some 9) rfl rfl Tryd.func10 (by kernel_rfl) rfl #[.string (⟨#[56, 48, 44, 56, 48, 48, 48, 58, 56, 48, 48, 50, 44, 33, 56, 48, 48, 49]⟩ : ByteArray)] rfl (by (try simp only [List.map_toArray, List.map_cons, List.map_nil]); first | done | rfl | (simp only [List.length_drop, List.length_take]; rfl)) ?_; (with_reducible refine (portset_Parse.calls k (⟨#[56, 48, 44, 56, 48, 48, 48, 58, 56, 48, 48, 50, 44, 33, 56, 48, 48, 49]⟩ : ByteArray) t237 t238 _ A1.out (WOK.below hW_ (zB HB))).mono ?_); rintro e w74 ⟨v239, rfl, ho0, hb⟩; refine ⟨_, rfl, ?_⟩; have HO240 := Aside0.mk (Kd.R_lower ho0 (below_size (zB HB))); replace HB := Aside0.mk (below_step (zB HB) hb); (try clear hb); (try clear ho0)) | ((with_reducible refine gate_callee (f := 10) rfl ?_); refine goesL_ (some 13) rfl rfl Tryd.func10 (by kernel_rfl) rfl #[.string (⟨#[55, 58, 53]⟩ : ByteArray)] rfl (by (try simp only [List.map_toArray, List.map_cons, List.map_nil]); first | done | rfl | (simp only [List.length_drop, List.length_take]; rfl)) ?_; (with_reducible refine (portset_Parse.calls k (⟨#[55, 58, 53]⟩ : ByteArray) t241 t242 _ A2.out (WOK.below hW_ (zB HB))).mono ?_); rintro e w75 ⟨v243, rfl, ho0, hb⟩; refine ⟨_, rfl, ?_⟩; have HO244 := Aside0.mk (Kd.R_lower (Kd.R_new' ho0 (Kd.R_lt (zR HO240))) (below_size (zB HB))); replace HO240 := Aside0.mk (Kd.R_elder' (zR HO240) (Kd.R_base ho0) hb); replace HB := Aside0.mk (below_step (zB HB) hb); (try clear hb); (try clear ho0)) | ((with_reducible refine gate_callee (f := 10) rfl ?_); refine goesL_ (some 17) rfl rfl Tryd.func10 (by kernel_rfl) rfl #[.string (⟨#[]⟩ : ByteArray)] rfl (by (try simp only [List.map_toArray, List.map_cons, List.map_nil]); first | done | rfl | (simp only [List.length_drop, List.length_take]; rfl)) ?_; (with_reducible refine (portset_Parse.calls k (⟨#[]⟩ : ByteArray) t245 t246 _ A3.out (WOK.below hW_ (zB HB))).mono ?_); rintro e w76 ⟨v247, rfl, ho0, hb⟩; refine ⟨_, rfl, ?_⟩; have HO248 := Aside0.mk (Kd.R_lower (Kd.R_new' (Kd.R_new' ho0 (Kd.R_lt (zR HO240))) (Kd.R_lt (zR HO244))) (below_size (zB HB))); replace HO240 := Aside0.mk (Kd.R_elder' (zR HO240) (Kd.R_base ho0) hb); replace HO244 := Aside0.mk (Kd.R_elder' (zR HO244) (Kd.R_base ho0) hb); replace HB := Aside0.mk (below_step (zB HB) hb); (try clear hb); (try clear ho0)) | ((with_reducible refine gate_dst (N := 21) rfl ?_); (try (refine gate_guard (by rfl) ?_; dsimp only)); refine Kd.R_lit k33 _ 33 ?hg (N := 21) ?hd (xs := ([(⟨0, 1023⟩ : S33)] : List (S33))) (inner := [.int .i64 0, .int .i64 1023]) (ok := fun _ => True) (okp := fun _ => True) ?hr ?hp (fun _ hk => hk) trivial (Below.refl _ _) (Nat.le_refl _) (by simp) ?_; (case hd => rfl); (case hg => rfl); (case hr => first | (go_simp; done) | (go_simp; rfl)); (case hp => exact (Reps.c2 (show Kd.M k33 _ _ _ (⟨0, 1023⟩ : S33) [.int .i64 0, .int .i64 1023] from (k33_mkM _ _ _ (⟨0, 1023⟩ : S33) )) (Reps.none _ _))); intro v250 w77 ho78 hb hg_ hnew_; clear hg_ hnew_; (first | rw [← Ny249.out] at ho78 | (simp only [Int.reduceToNat] at ho78; rw [← Ny249.out] at ho78)); have HO251 := Aside0.mk (Kd.R_lower (Kd.R_new' (Kd.R_new' (Kd.R_new' ho78 (Kd.R_lt (zR HO240))) (Kd.R_lt (zR HO244))) (Kd.R_lt (zR HO248))) (below_size (zB HB))); replace HO240 := Aside0.mk (Kd.R_elder' (zR HO240) (Kd.R_base ho78) hb); replace HO244 := Aside0.mk (Kd.R_elder' (zR HO244) (Kd.R_base ho78) hb); replace HO248 := Aside0.mk (Kd.R_elder' (zR HO248) (Kd.R_base ho78) hb); replace HB := Aside0.mk (below_step (zB HB) hb); clear hb ho78; obtain ⟨Ao79, co79, eo79⟩ := Kd.R_slice HO251.out; subst eo79) | ((with_reducible refine gate_callee (f := 16) rfl ?_); refine goesL_ (some 22) rfl rfl Tryd.func16 (by kernel_rfl) rfl #[.slice none 0 0, .slice Ao79 y249.length co79] rfl (by (try simp only [List.map_toArray, List.map_cons, List.map_nil]); first | done | rfl | (simp only [List.length_drop, List.length_take]; rfl)) ?_; (refine (portset_Eval.calls k _ _ ([] : List (S33)) _ _ y249 t252 _ ?side1 ?side2 ?side3 ?side4 A4.out).mono ?_); (case side1 => exact Kd.C_nil _ _); (case side2 => exact Nat.le_refl _); (case side3 => repeat (first | exact (Kd.R_reads' HO251.out).2.2 | (with_reducible refine Kd.C_alloc ?_ _) | (with_reducible refine Kd.C_drewN ?_ _) | (with_reducible refine Kd.C_drew ?_))); (case side4 => exact (Kd.R_reads' HO251.out).2.1); rintro e w80 ⟨v253, rfl, ho0, hb⟩; refine ⟨_, rfl, ?_⟩; have HO254 := Aside0.mk (Kd.R_lower (Kd.R_new' (Kd.R_new' (Kd.R_new' (Kd.R_new' ho0 (Kd.R_lt (zR HO240))) (Kd.R_lt (zR HO244))) (Kd.R_lt (zR HO248))) (Kd.R_lt (zR HO251))) (below_size (zB HB))); replace HO240 := Aside0.mk (Kd.R_elder' (zR HO240) (Kd.R_base ho0) hb); replace HO244 := Aside0.mk (Kd.R_elder' (zR HO244) (Kd.R_base ho0) hb); replace HO248 := Aside0.mk (Kd.R_elder' (zR HO248) (Kd.R_base ho0) hb); replace HO251 := Aside0.mk (Kd.R_elder' (zR HO251) (Kd.R_base ho0) hb); replace HB := Aside0.mk (below_step (zB HB) hb); (try clear hb); (try clear ho0)) | ((with_reducible refine gate_dst (N := 27) rfl ?_); (try (refine gate_guard (by rfl) ?_; dsimp only)); refine Kd.R_lit k33 _ 33 ?hg (N := 27) ?hd (xs := ([(⟨80, 80⟩ : S33), (⟨8000, 8000⟩ : S33), (⟨8002, 8002⟩ : S33)] : List (S33))) (inner := [.int .i64 80, .int .i64 80, .int .i64 8000, .int .i64 8000, .int .i64 8002, .int .i64 8002]) (ok := fun _ => True) (okp := fun _ => True) ?hr ?hp (fun _ hk => hk) trivial (Below.refl _ _) (Nat.le_refl _) (by simp) ?_; (case hd => rfl); (case hg => rfl); (case hr => first | (go_simp; done) | (go_simp; rfl)); (case hp => exact (Reps.c2 (show Kd.M k33 _ _ _ (⟨80, 80⟩ : S33) [.int .i64 80, .int .i64 80] from (k33_mkM _ _ _ (⟨80, 80⟩ : S33) )) (Reps.c2 (show Kd.M k33 _ _ _ (⟨8000, 8000⟩ : S33) [.int .i64 8000, .int .i64 8000] from (k33_mkM _ _ _ (⟨8000, 8000⟩ : S33) )) (Reps.c2 (show Kd.M k33 _ _ _ (⟨8002, 8002⟩ : S33) [.int .i64 8002, .int .i64 8002] from (k33_mkM _ _ _ (⟨8002, 8002⟩ : S33) )) (Reps.none _ _))))); intro v256 w81 ho82 hb hg_ hnew_; clear hg_ hnew_; (first | rw [← Ny255.out] at ho82 | (simp only [Int.reduceToNat] at ho82; rw [← Ny255.out] at ho82)); have HO257 := Aside0.mk (Kd.R_lower (Kd.R_new' (Kd.R_new' (Kd.R_new' (Kd.R_new' (Kd.R_new' ho82 (Kd.R_lt (zR HO240))) (Kd.R_lt (zR HO244))) (Kd.R_lt (zR HO248))) (Kd.R_lt (zR HO251))) (Kd.R_lt (zR HO254))) (below_size (zB HB))); replace HO240 := Aside0.mk (Kd.R_elder' (zR HO240) (Kd.R_base ho82) hb); replace HO244 := Aside0.mk (Kd.R_elder' (zR HO244) (Kd.R_base ho82) hb); replace HO248 := Aside0.mk (Kd.R_elder' (zR HO248) (Kd.R_base ho82) hb); replace HO251 := Aside0.mk (Kd.R_elder' (zR HO251) (Kd.R_base ho82) hb); replace HO254 := Aside0.mk (Kd.R_elder' (zR HO254) (Kd.R_base ho82) hb); replace HB := Aside0.mk (below_step (zB HB) hb); clear hb ho82; obtain ⟨Ao83, co83, eo83⟩ := Kd.R_slice HO240.out; subst eo83; obtain ⟨Ao84, co84, eo84⟩ := Kd.R_slice HO257.out; subst eo84) | ((with_reducible refine gate_callee (f := 12) rfl ?_); refine goesL_ (some 28) rfl rfl Tryd.func12 (by kernel_rfl) rfl #[.slice Ao83 t237.length co83, .slice Ao84 y255.length co84] rfl (by (try simp only [List.map_toArray, List.map_cons, List.map_nil]); first | done | rfl | (simp only [List.length_drop, List.length_take]; rfl)) ?_; (with_reducible refine (intrusionlaw08_same.calls k _ _ t237 _ _ y255 true _ ?side1 ?side2 ?side3 ?side4 A5.out).mono ?_); (case side1 => repeat (first | exact (Kd.R_reads' HO240.out).2.2 | (with_reducible refine Kd.C_alloc ?_ _) | (with_reducible refine Kd.C_drewN ?_ _) | (with_reducible refine Kd.C_drew ?_))); (case side2 => exact (Kd.R_reads' HO240.out).2.1); (case side3 => repeat (first | exact (Kd.R_reads' HO257.out).2.2 | (with_reducible refine Kd.C_alloc ?_ _) | (with_reducible refine Kd.C_drewN ?_ _) | (with_reducible refine Kd.C_drew ?_))); (case side4 => exact (Kd.R_reads' HO257.out).2.1); rintro e w' ⟨rfl, ⟨nd, rfl⟩⟩; refine ⟨_, rfl, ?_⟩))
         go_ret
         exact ⟨by first | rfl | (simp [errW_none, errW_some] <;> rfl) | (simp [*, errW_none, errW_some] <;> rfl), by repeat (first | (with_reducible first | exact HB.out | apply below_alloc | apply pw_below_drewN | apply below_drew1) | exact HB.out)⟩
     · rw [if_neg c8] at H
       have c8b0 : (t242 == 4) = false := beq_eq_false_iff_ne.mpr c8
       have c8b1 : (t242 != 4) = true := bne_iff_ne.mpr c8
       obtain rfl := Option.some.inj H
       go_enter Tryd.func9, Tryd.ntmps9
       go_wp2_with (first | ((with_reducible refine gate_callee (f := 10) rfl ?_); refine goesL_ (some 9) rfl rfl Tryd.func10 (by kernel_rfl) rfl #[.string (⟨#[56, 48, 44, 56, 48, 48, 48, 58, 56, 48, 48, 50, 44, 33, 56, 48, 48, 49]⟩ : ByteArray)] rfl (by (try simp only [List.map_toArray, List.map_cons, List.map_nil]); first | done | rfl | (simp only [List.length_drop, List.length_take]; rfl)) ?_; (with_reducible refine (portset_Parse.calls k (⟨#[56, 48, 44, 56, 48, 48, 48, 58, 56, 48, 48, 50, 44, 33, 56, 48, 48, 49]⟩ : ByteArray) t237 t238 _ A1.out (WOK.below hW_ (zB HB))).mono ?_); rintro e w85 ⟨v239, rfl, ho0, hb⟩; refine ⟨_, rfl, ?_⟩; have HO240 := Aside0.mk (Kd.R_lower ho0 (below_size (zB HB))); replace HB := Aside0.mk (below_step (zB HB) hb); (try clear hb); (try clear ho0)) | ((with_reducible refine gate_callee (f := 10) rfl ?_); refine goesL_ (some 13) rfl rfl Tryd.func10 (by kernel_rfl) rfl #[.string (⟨#[55, 58, 53]⟩ : ByteArray)] rfl (by (try simp only [List.map_toArray, List.map_cons, List.map_nil]); first | done | rfl | (simp only [List.length_drop, List.length_take]; rfl)) ?_; (with_reducible refine (portset_Parse.calls k (⟨#[55, 58, 53]⟩ : ByteArray) t241 t242 _ A2.out (WOK.below hW_ (zB HB))).mono ?_); rintro e w86 ⟨v243, rfl, ho0, hb⟩; refine ⟨_, rfl, ?_⟩; have HO244 := Aside0.mk (Kd.R_lower (Kd.R_new' ho0 (Kd.R_lt (zR HO240))) (below_size (zB HB))); replace HO240 := Aside0.mk (Kd.R_elder' (zR HO240) (Kd.R_base ho0) hb); replace HB := Aside0.mk (below_step (zB HB) hb); (try clear hb); (try clear ho0)) | ((with_reducible refine gate_callee (f := 10) rfl ?_); refine goesL_ (some 17) rfl rfl Tryd.func10 (by kernel_rfl) rfl #[.string (⟨#[]⟩ : ByteArray)] rfl (by (try simp only [List.map_toArray, List.map_cons, List.map_nil]); first | done | rfl | (simp only [List.length_drop, List.length_take]; rfl)) ?_; (with_reducible refine (portset_Parse.calls k (⟨#[]⟩ : ByteArray) t245 t246 _ A3.out (WOK.below hW_ (zB HB))).mono ?_); rintro e w87 ⟨v247, rfl, ho0, hb⟩; refine ⟨_, rfl, ?_⟩; have HO248 := Aside0.mk (Kd.R_lower (Kd.R_new' (Kd.R_new' ho0 (Kd.R_lt (zR HO240))) (Kd.R_lt (zR HO244))) (below_size (zB HB))); replace HO240 := Aside0.mk (Kd.R_elder' (zR HO240) (Kd.R_base ho0) hb); replace HO244 := Aside0.mk (Kd.R_elder' (zR HO244) (Kd.R_base ho0) hb); replace HB := Aside0.mk (below_step (zB HB) hb); (try clear hb); (try clear ho0)) | ((with_reducible refine gate_dst (N := 21) rfl ?_); (try (refine gate_guard (by rfl) ?_; dsimp only)); refine Kd.R_lit k33 _ 33 ?hg (N := 21) ?hd (xs := ([(⟨0, 1023⟩ : S33)] : List (S33))) (inner := [.int .i64 0, .int .i64 1023]) (ok := fun _ => True) (okp := fun _ => True) ?hr ?hp (fun _ hk => hk) trivial (Below.refl _ _) (Nat.le_refl _) (by simp) ?_; (case hd => rfl); (case hg => rfl); (case hr => first | (go_simp; done) | (go_simp; rfl)); (case hp => exact (Reps.c2 (show Kd.M k33 _ _ _ (⟨0, 1023⟩ : S33) [.int .i64 0, .int .i64 1023] from (k33_mkM _ _ _ (⟨0, 1023⟩ : S33) )) (Reps.none _ _))); intro v250 w88 ho89 hb hg_ hnew_; clear hg_ hnew_; (first | rw [← Ny249.out] at ho89 | (simp only [Int.reduceToNat] at ho89; rw [← Ny249.out] at ho89)); have HO251 := Aside0.mk (Kd.R_lower (Kd.R_new' (Kd.R_new' (Kd.R_new' ho89 (Kd.R_lt (zR HO240))) (Kd.R_lt (zR HO244))) (Kd.R_lt (zR HO248))) (below_size (zB HB))); replace HO240 := Aside0.mk (Kd.R_elder' (zR HO240) (Kd.R_base ho89) hb); replace HO244 := Aside0.mk (Kd.R_elder' (zR HO244) (Kd.R_base ho89) hb); replace HO248 := Aside0.mk (Kd.R_elder' (zR HO248) (Kd.R_base ho89) hb); replace HB := Aside0.mk (below_step (zB HB) hb); clear hb ho89; obtain ⟨Ao90, co90, eo90⟩ := Kd.R_slice HO251.out; subst eo90) | ((with_reducible refine gate_callee (f := 16) rfl ?_); refine goesL_ (some 22) rfl rfl Tryd.func16 (by kernel_rfl) rfl #[.slice none 0 0, .slice Ao90 y249.length co90] rfl (by (try simp only [List.map_toArray, List.map_cons, List.map_nil]); first | done | rfl | (simp only [List.length_drop, List.length_take]; rfl)) ?_; (refine (portset_Eval.calls k _ _ ([] : List (S33)) _ _ y249 t252 _ ?side1 ?side2 ?side3 ?side4 A4.out).mono ?_); (case side1 => exact Kd.C_nil _ _); (case side2 => exact Nat.le_refl _); (case side3 => repeat (first | exact (Kd.R_reads' HO251.out).2.2 | (with_reducible refine Kd.C_alloc ?_ _) | (with_reducible refine Kd.C_drewN ?_ _) | (with_reducible refine Kd.C_drew ?_))); (case side4 => exact (Kd.R_reads' HO251.out).2.1); rintro e w91 ⟨v253, rfl, ho0, hb⟩; refine ⟨_, rfl, ?_⟩; have HO254 := Aside0.mk (Kd.R_lower (Kd.R_new' (Kd.R_new' (Kd.R_new' (Kd.R_new' ho0 (Kd.R_lt (zR HO240))) (Kd.R_lt (zR HO244))) (Kd.R_lt (zR HO248))) (Kd.R_lt (zR HO251))) (below_size (zB HB))); replace HO240 := Aside0.mk (Kd.R_elder' (zR HO240) (Kd.R_base ho0) hb); replace HO244 := Aside0.mk (Kd.R_elder' (zR HO244) (Kd.R_base ho0) hb); replace HO248 := Aside0.mk (Kd.R_elder' (zR HO248) (Kd.R_base ho0) hb); replace HO251 := Aside0.mk (Kd.R_elder' (zR HO251) (Kd.R_base ho0) hb); replace HB := Aside0.mk (below_step (zB HB) hb); (try clear hb); (try clear ho0)) | ((with_reducible refine gate_dst (N := 27) rfl ?_); (try (refine gate_guard (by rfl) ?_; dsimp only)); refine Kd.R_lit k33 _ 33 ?hg (N := 27) ?hd (xs := ([(⟨80, 80⟩ : S33), (⟨8000, 8000⟩ : S33), (⟨8002, 8002⟩ : S33)] : List (S33))) (inner := [.int .i64 80, .int .i64 80, .int .i64 8000, .int .i64 8000, .int .i64 8002, .int .i64 8002]) (ok := fun _ => True) (okp := fun _ => True) ?hr ?hp (fun _ hk => hk) trivial (Below.refl _ _) (Nat.le_refl _) (by simp) ?_; (case hd => rfl); (case hg => rfl); (case hr => first | (go_simp; done) | (go_simp; rfl)); (case hp => exact (Reps.c2 (show Kd.M k33 _ _ _ (⟨80, 80⟩ : S33) [.int .i64 80, .int .i64 80] from (k33_mkM _ _ _ (⟨80, 80⟩ : S33) )) (Reps.c2 (show Kd.M k33 _ _ _ (⟨8000, 8000⟩ : S33) [.int .i64 8000, .int .i64 8000] from (k33_mkM _ _ _ (⟨8000, 8000⟩ : S33) )) (Reps.c2 (show Kd.M k33 _ _ _ (⟨8002, 8002⟩ : S33) [.int .i64 8002, .int .i64 8002] from (k33_mkM _ _ _ (⟨8002, 8002⟩ : S33) )) (Reps.none _ _))))); intro v256 w92 ho93 hb hg_ hnew_; clear hg_ hnew_; (first | rw [← Ny255.out] at ho93 | (simp only [Int.reduceToNat] at ho93; rw [← Ny255.out] at ho93)); have HO257 := Aside0.mk (Kd.R_lower (Kd.R_new' (Kd.R_new' (Kd.R_new' (Kd.R_new' (Kd.R_new' ho93 (Kd.R_lt (zR HO240))) (Kd.R_lt (zR HO244))) (Kd.R_lt (zR HO248))) (Kd.R_lt (zR HO251))) (Kd.R_lt (zR HO254))) (below_size (zB HB))); replace HO240 := Aside0.mk (Kd.R_elder' (zR HO240) (Kd.R_base ho93) hb); replace HO244 := Aside0.mk (Kd.R_elder' (zR HO244) (Kd.R_base ho93) hb); replace HO248 := Aside0.mk (Kd.R_elder' (zR HO248) (Kd.R_base ho93) hb); replace HO251 := Aside0.mk (Kd.R_elder' (zR HO251) (Kd.R_base ho93) hb); replace HO254 := Aside0.mk (Kd.R_elder' (zR HO254) (Kd.R_base ho93) hb); replace HB := Aside0.mk (below_step (zB HB) hb); clear hb ho93; obtain ⟨Ao94, co94, eo94⟩ := Kd.R_slice HO240.out; subst eo94; obtain ⟨Ao95, co95, eo95⟩ := Kd.R_slice HO257.out; subst eo95) | ((with_reducible refine gate_callee (f := 12) rfl ?_); refine goesL_ (some 28) rfl rfl Tryd.func12 (by kernel_rfl) rfl #[.slice Ao94 t237.length co94, .slice Ao95 y255.length co95] rfl (by (try simp only [List.map_toArray, List.map_cons, List.map_nil]); first | done | rfl | (simp only [List.length_drop, List.length_take]; rfl)) ?_; (with_reducible refine (intrusionlaw08_same.calls k _ _ t237 _ _ y255 true _ ?side1 ?side2 ?side3 ?side4 A5.out).mono ?_); (case side1 => repeat (first | exact (Kd.R_reads' HO240.out).2.2 | (with_reducible refine Kd.C_alloc ?_ _) | (with_reducible refine Kd.C_drewN ?_ _) | (with_reducible refine Kd.C_drew ?_))); (case side2 => exact (Kd.R_reads' HO240.out).2.1); (case side3 => repeat (first | exact (Kd.R_reads' HO257.out).2.2 | (with_reducible refine Kd.C_alloc ?_ _) | (with_reducible refine Kd.C_drewN ?_ _) | (with_reducible refine Kd.C_drew ?_))); (case side4 => exact (Kd.R_reads' HO257.out).2.1); rintro e w' ⟨rfl, ⟨nd, rfl⟩⟩; refine ⟨_, rfl, ?_⟩))
       go_ret
       exact ⟨by first | rfl | (simp [errW_none, errW_some] <;> rfl) | (simp [*, errW_none, errW_some] <;> rfl), by repeat (first | (with_reducible first | exact HB.out | apply below_alloc | apply pw_below_drewN | apply below_drew1) | exact HB.out)⟩
   · rw [if_neg c7] at H
     have c7b0 : (t238 == 0) = false := beq_eq_false_iff_ne.mpr c7
     have c7b1 : (t238 != 0) = true := bne_iff_ne.mpr c7
     obtain rfl := Option.some.inj H
     go_enter Tryd.func9, Tryd.ntmps9
     go_wp2_with (first | ((with_reducible refine gate_callee (f := 10) rfl ?_); refine goesL_ (some 9) rfl rfl Tryd.func10 (by kernel_rfl) rfl #[.string (⟨#[56, 48, 44, 56, 48, 48, 48, 58, 56, 48, 48, 50, 44, 33, 56, 48, 48, 49]⟩ : ByteArray)] rfl (by (try simp only [List.map_toArray, List.map_cons, List.map_nil]); first | done | rfl | (simp only [List.length_drop, List.length_take]; rfl)) ?_; (with_reducible refine (portset_Parse.calls k (⟨#[56, 48, 44, 56, 48, 48, 48, 58, 56, 48, 48, 50, 44, 33, 56, 48, 48, 49]⟩ : ByteArray) t237 t238 _ A1.out (WOK.below hW_ (zB HB))).mono ?_); rintro e w96 ⟨v239, rfl, ho0, hb⟩; refine ⟨_, rfl, ?_⟩; have HO240 := Aside0.mk (Kd.R_lower ho0 (below_size (zB HB))); replace HB := Aside0.mk (below_step (zB HB) hb); (try clear hb); (try clear ho0)) | ((with_reducible refine gate_callee (f := 10) rfl ?_); refine goesL_ (some 13) rfl rfl Tryd.func10 (by kernel_rfl) rfl #[.string (⟨#[55, 58, 53]⟩ : ByteArray)] rfl (by (try simp only [List.map_toArray, List.map_cons, List.map_nil]); first | done | rfl | (simp only [List.length_drop, List.length_take]; rfl)) ?_; (with_reducible refine (portset_Parse.calls k (⟨#[55, 58, 53]⟩ : ByteArray) t241 t242 _ A2.out (WOK.below hW_ (zB HB))).mono ?_); rintro e w97 ⟨v243, rfl, ho0, hb⟩; refine ⟨_, rfl, ?_⟩; have HO244 := Aside0.mk (Kd.R_lower (Kd.R_new' ho0 (Kd.R_lt (zR HO240))) (below_size (zB HB))); replace HO240 := Aside0.mk (Kd.R_elder' (zR HO240) (Kd.R_base ho0) hb); replace HB := Aside0.mk (below_step (zB HB) hb); (try clear hb); (try clear ho0)) | ((with_reducible refine gate_callee (f := 10) rfl ?_); refine goesL_ (some 17) rfl rfl Tryd.func10 (by kernel_rfl) rfl #[.string (⟨#[]⟩ : ByteArray)] rfl (by (try simp only [List.map_toArray, List.map_cons, List.map_nil]); first | done | rfl | (simp only [List.length_drop, List.length_take]; rfl)) ?_; (with_reducible refine (portset_Parse.calls k (⟨#[]⟩ : ByteArray) t245 t246 _ A3.out (WOK.below hW_ (zB HB))).mono ?_); rintro e w98 ⟨v247, rfl, ho0, hb⟩; refine ⟨_, rfl, ?_⟩; have HO248 := Aside0.mk (Kd.R_lower (Kd.R_new' (Kd.R_new' ho0 (Kd.R_lt (zR HO240))) (Kd.R_lt (zR HO244))) (below_size (zB HB))); replace HO240 := Aside0.mk (Kd.R_elder' (zR HO240) (Kd.R_base ho0) hb); replace HO244 := Aside0.mk (Kd.R_elder' (zR HO244) (Kd.R_base ho0) hb); replace HB := Aside0.mk (below_step (zB HB) hb); (try clear hb); (try clear ho0)) | ((with_reducible refine gate_dst (N := 21) rfl ?_); (try (refine gate_guard (by rfl) ?_; dsimp only)); refine Kd.R_lit k33 _ 33 ?hg (N := 21) ?hd (xs := ([(⟨0, 1023⟩ : S33)] : List (S33))) (inner := [.int .i64 0, .int .i64 1023]) (ok := fun _ => True) (okp := fun _ => True) ?hr ?hp (fun _ hk => hk) trivial (Below.refl _ _) (Nat.le_refl _) (by simp) ?_; (case hd => rfl); (case hg => rfl); (case hr => first | (go_simp; done) | (go_simp; rfl)); (case hp => exact (Reps.c2 (show Kd.M k33 _ _ _ (⟨0, 1023⟩ : S33) [.int .i64 0, .int .i64 1023] from (k33_mkM _ _ _ (⟨0, 1023⟩ : S33) )) (Reps.none _ _))); intro v250 w99 ho100 hb hg_ hnew_; clear hg_ hnew_; (first | rw [← Ny249.out] at ho100 | (simp only [Int.reduceToNat] at ho100; rw [← Ny249.out] at ho100)); have HO251 := Aside0.mk (Kd.R_lower (Kd.R_new' (Kd.R_new' (Kd.R_new' ho100 (Kd.R_lt (zR HO240))) (Kd.R_lt (zR HO244))) (Kd.R_lt (zR HO248))) (below_size (zB HB))); replace HO240 := Aside0.mk (Kd.R_elder' (zR HO240) (Kd.R_base ho100) hb); replace HO244 := Aside0.mk (Kd.R_elder' (zR HO244) (Kd.R_base ho100) hb); replace HO248 := Aside0.mk (Kd.R_elder' (zR HO248) (Kd.R_base ho100) hb); replace HB := Aside0.mk (below_step (zB HB) hb); clear hb ho100; obtain ⟨Ao101, co101, eo101⟩ := Kd.R_slice HO251.out; subst eo101) | ((with_reducible refine gate_callee (f := 16) rfl ?_); refine goesL_ (some 22) rfl rfl Tryd.func16 (by kernel_rfl) rfl #[.slice none 0 0, .slice Ao101 y249.length co101] rfl (by (try simp only [List.map_toArray, List.map_cons, List.map_nil]); first | done | rfl | (simp only [List.length_drop, List.length_take]; rfl)) ?_; (refine (portset_Eval.calls k _ _ ([] : List (S33)) _ _ y249 t252 _ ?side1 ?side2 ?side3 ?side4 A4.out).mono ?_); (case side1 => exact Kd.C_nil _ _); (case side2 => exact Nat.le_refl _); (case side3 => repeat (first | exact (Kd.R_reads' HO251.out).2.2 | (with_reducible refine Kd.C_alloc ?_ _) | (with_reducible refine Kd.C_drewN ?_ _) | (with_reducible refine Kd.C_drew ?_))); (case side4 => exact (Kd.R_reads' HO251.out).2.1); rintro e w102 ⟨v253, rfl, ho0, hb⟩; refine ⟨_, rfl, ?_⟩; have HO254 := Aside0.mk (Kd.R_lower (Kd.R_new' (Kd.R_new' (Kd.R_new' (Kd.R_new' ho0 (Kd.R_lt (zR HO240))) (Kd.R_lt (zR HO244))) (Kd.R_lt (zR HO248))) (Kd.R_lt (zR HO251))) (below_size (zB HB))); replace HO240 := Aside0.mk (Kd.R_elder' (zR HO240) (Kd.R_base ho0) hb); replace HO244 := Aside0.mk (Kd.R_elder' (zR HO244) (Kd.R_base ho0) hb); replace HO248 := Aside0.mk (Kd.R_elder' (zR HO248) (Kd.R_base ho0) hb); replace HO251 := Aside0.mk (Kd.R_elder' (zR HO251) (Kd.R_base ho0) hb); replace HB := Aside0.mk (below_step (zB HB) hb); (try clear hb); (try clear ho0)) | ((with_reducible refine gate_dst (N := 27) rfl ?_); (try (refine gate_guard (by rfl) ?_; dsimp only)); refine Kd.R_lit k33 _ 33 ?hg (N := 27) ?hd (xs := ([(⟨80, 80⟩ : S33), (⟨8000, 8000⟩ : S33), (⟨8002, 8002⟩ : S33)] : List (S33))) (inner := [.int .i64 80, .int .i64 80, .int .i64 8000, .int .i64 8000, .int .i64 8002, .int .i64 8002]) (ok := fun _ => True) (okp := fun _ => True) ?hr ?hp (fun _ hk => hk) trivial (Below.refl _ _) (Nat.le_refl _) (by simp) ?_; (case hd => rfl); (case hg => rfl); (case hr => first | (go_simp; done) | (go_simp; rfl)); (case hp => exact (Reps.c2 (show Kd.M k33 _ _ _ (⟨80, 80⟩ : S33) [.int .i64 80, .int .i64 80] from (k33_mkM _ _ _ (⟨80, 80⟩ : S33) )) (Reps.c2 (show Kd.M k33 _ _ _ (⟨8000, 8000⟩ : S33) [.int .i64 8000, .int .i64 8000] from (k33_mkM _ _ _ (⟨8000, 8000⟩ : S33) )) (Reps.c2 (show Kd.M k33 _ _ _ (⟨8002, 8002⟩ : S33) [.int .i64 8002, .int .i64 8002] from (k33_mkM _ _ _ (⟨8002, 8002⟩ : S33) )) (Reps.none _ _))))); intro v256 w103 ho104 hb hg_ hnew_; clear hg_ hnew_; (first | rw [← Ny255.out] at ho104 | (simp only [Int.reduceToNat] at ho104; rw [← Ny255.out] at ho104)); have HO257 := Aside0.mk (Kd.R_lower (Kd.R_new' (Kd.R_new' (Kd.R_new' (Kd.R_new' (Kd.R_new' ho104 (Kd.R_lt (zR HO240))) (Kd.R_lt (zR HO244))) (Kd.R_lt (zR HO248))) (Kd.R_lt (zR HO251))) (Kd.R_lt (zR HO254))) (below_size (zB HB))); replace HO240 := Aside0.mk (Kd.R_elder' (zR HO240) (Kd.R_base ho104) hb); replace HO244 := Aside0.mk (Kd.R_elder' (zR HO244) (Kd.R_base ho104) hb); replace HO248 := Aside0.mk (Kd.R_elder' (zR HO248) (Kd.R_base ho104) hb); replace HO251 := Aside0.mk (Kd.R_elder' (zR HO251) (Kd.R_base ho104) hb); replace HO254 := Aside0.mk (Kd.R_elder' (zR HO254) (Kd.R_base ho104) hb); replace HB := Aside0.mk (below_step (zB HB) hb); clear hb ho104; obtain ⟨Ao105, co105, eo105⟩ := Kd.R_slice HO240.out; subst eo105; obtain ⟨Ao106, co106, eo106⟩ := Kd.R_slice HO257.out; subst eo106) | ((with_reducible refine gate_callee (f := 12) rfl ?_); refine goesL_ (some 28) rfl rfl Tryd.func12 (by kernel_rfl) rfl #[.slice Ao105 t237.length co105, .slice Ao106 y255.length co106] rfl (by (try simp only [List.map_toArray, List.map_cons, List.map_nil]); first | done | rfl | (simp only [List.length_drop, List.length_take]; rfl)) ?_; (with_reducible refine (intrusionlaw08_same.calls k _ _ t237 _ _ y255 true _ ?side1 ?side2 ?side3 ?side4 A5.out).mono ?_); (case side1 => repeat (first | exact (Kd.R_reads' HO240.out).2.2 | (with_reducible refine Kd.C_alloc ?_ _) | (with_reducible refine Kd.C_drewN ?_ _) | (with_reducible refine Kd.C_drew ?_))); (case side2 => exact (Kd.R_reads' HO240.out).2.1); (case side3 => repeat (first | exact (Kd.R_reads' HO257.out).2.2 | (with_reducible refine Kd.C_alloc ?_ _) | (with_reducible refine Kd.C_drewN ?_ _) | (with_reducible refine Kd.C_drew ?_))); (case side4 => exact (Kd.R_reads' HO257.out).2.1); rintro e w' ⟨rfl, ⟨nd, rfl⟩⟩; refine ⟨_, rfl, ?_⟩))
     go_ret
     exact ⟨by first | rfl | (simp [errW_none, errW_some] <;> rfl) | (simp [*, errW_none, errW_some] <;> rfl), by repeat (first | (with_reducible first | exact HB.out | apply below_alloc | apply pw_below_drewN | apply below_drew1) | exact HB.out)⟩
 · replace c6 := Bool.eq_false_iff.mpr c6
   subst c6
   rw [if_neg zF] at H
   obtain rfl := Option.some.inj H
   go_enter Tryd.func9, Tryd.ntmps9
   go_wp2_with (first | ((with_reducible refine gate_callee (f := 10) rfl ?_); refine goesL_ (some 9) rfl rfl Tryd.func10 (by kernel_rfl) rfl #[.string (⟨#[56, 48, 44, 56, 48, 48, 48, 58, 56, 48, 48, 50, 44, 33, 56, 48, 48, 49]⟩ : ByteArray)] rfl (by (try simp only [List.map_toArray, List.map_cons, List.map_nil]); first | done | rfl | (simp only [List.length_drop, List.length_take]; rfl)) ?_; (with_reducible refine (portset_Parse.calls k (⟨#[56, 48, 44, 56, 48, 48, 48, 58, 56, 48, 48, 50, 44, 33, 56, 48, 48, 49]⟩ : ByteArray) t237 t238 _ A1.out (WOK.below hW_ (zB HB))).mono ?_); rintro e w107 ⟨v239, rfl, ho0, hb⟩; refine ⟨_, rfl, ?_⟩; have HO240 := Aside0.mk (Kd.R_lower ho0 (below_size (zB HB))); replace HB := Aside0.mk (below_step (zB HB) hb); (try clear hb); (try clear ho0)) | ((with_reducible refine gate_callee (f := 10) rfl ?_); refine goesL_ (some 13) rfl rfl Tryd.func10 (by kernel_rfl) rfl #[.string (⟨#[55, 58, 53]⟩ : ByteArray)] rfl (by (try simp only [List.map_toArray, List.map_cons, List.map_nil]); first | done | rfl | (simp only [List.length_drop, List.length_take]; rfl)) ?_; (with_reducible refine (portset_Parse.calls k (⟨#[55, 58, 53]⟩ : ByteArray) t241 t242 _ A2.out (WOK.below hW_ (zB HB))).mono ?_); rintro e w108 ⟨v243, rfl, ho0, hb⟩; refine ⟨_, rfl, ?_⟩; have HO244 := Aside0.mk (Kd.R_lower (Kd.R_new' ho0 (Kd.R_lt (zR HO240))) (below_size (zB HB))); replace HO240 := Aside0.mk (Kd.R_elder' (zR HO240) (Kd.R_base ho0) hb); replace HB := Aside0.mk (below_step (zB HB) hb); (try clear hb); (try clear ho0)) | ((with_reducible refine gate_callee (f := 10) rfl ?_); refine goesL_ (some 17) rfl rfl Tryd.func10 (by kernel_rfl) rfl #[.string (⟨#[]⟩ : ByteArray)] rfl (by (try simp only [List.map_toArray, List.map_cons, List.map_nil]); first | done | rfl | (simp only [List.length_drop, List.length_take]; rfl)) ?_; (with_reducible refine (portset_Parse.calls k (⟨#[]⟩ : ByteArray) t245 t246 _ A3.out (WOK.below hW_ (zB HB))).mono ?_); rintro e w109 ⟨v247, rfl, ho0, hb⟩; refine ⟨_, rfl, ?_⟩; have HO248 := Aside0.mk (Kd.R_lower (Kd.R_new' (Kd.R_new' ho0 (Kd.R_lt (zR HO240))) (Kd.R_lt (zR HO244))) (below_size (zB HB))); replace HO240 := Aside0.mk (Kd.R_elder' (zR HO240) (Kd.R_base ho0) hb); replace HO244 := Aside0.mk (Kd.R_elder' (zR HO244) (Kd.R_base ho0) hb); replace HB := Aside0.mk (below_step (zB HB) hb); (try clear hb); (try clear ho0)) | ((with_reducible refine gate_dst (N := 21) rfl ?_); (try (refine gate_guard (by rfl) ?_; dsimp only)); refine Kd.R_lit k33 _ 33 ?hg (N := 21) ?hd (xs := ([(⟨0, 1023⟩ : S33)] : List (S33))) (inner := [.int .i64 0, .int .i64 1023]) (ok := fun _ => True) (okp := fun _ => True) ?hr ?hp (fun _ hk => hk) trivial (Below.refl _ _) (Nat.le_refl _) (by simp) ?_; (case hd => rfl); (case hg => rfl); (case hr => first | (go_simp; done) | (go_simp; rfl)); (case hp => exact (Reps.c2 (show Kd.M k33 _ _ _ (⟨0, 1023⟩ : S33) [.int .i64 0, .int .i64 1023] from (k33_mkM _ _ _ (⟨0, 1023⟩ : S33) )) (Reps.none _ _))); intro v250 w110 ho111 hb hg_ hnew_; clear hg_ hnew_; (first | rw [← Ny249.out] at ho111 | (simp only [Int.reduceToNat] at ho111; rw [← Ny249.out] at ho111)); have HO251 := Aside0.mk (Kd.R_lower (Kd.R_new' (Kd.R_new' (Kd.R_new' ho111 (Kd.R_lt (zR HO240))) (Kd.R_lt (zR HO244))) (Kd.R_lt (zR HO248))) (below_size (zB HB))); replace HO240 := Aside0.mk (Kd.R_elder' (zR HO240) (Kd.R_base ho111) hb); replace HO244 := Aside0.mk (Kd.R_elder' (zR HO244) (Kd.R_base ho111) hb); replace HO248 := Aside0.mk (Kd.R_elder' (zR HO248) (Kd.R_base ho111) hb); replace HB := Aside0.mk (below_step (zB HB) hb); clear hb ho111; obtain ⟨Ao112, co112, eo112⟩ := Kd.R_slice HO251.out; subst eo112) | ((with_reducible refine gate_callee (f := 16) rfl ?_); refine goesL_ (some 22) rfl rfl Tryd.func16 (by kernel_rfl) rfl #[.slice none 0 0, .slice Ao112 y249.length co112] rfl (by (try simp only [List.map_toArray, List.map_cons, List.map_nil]); first | done | rfl | (simp only [List.length_drop, List.length_take]; rfl)) ?_; (refine (portset_Eval.calls k _ _ ([] : List (S33)) _ _ y249 t252 _ ?side1 ?side2 ?side3 ?side4 A4.out).mono ?_); (case side1 => exact Kd.C_nil _ _); (case side2 => exact Nat.le_refl _); (case side3 => repeat (first | exact (Kd.R_reads' HO251.out).2.2 | (with_reducible refine Kd.C_alloc ?_ _) | (with_reducible refine Kd.C_drewN ?_ _) | (with_reducible refine Kd.C_drew ?_))); (case side4 => exact (Kd.R_reads' HO251.out).2.1); rintro e w113 ⟨v253, rfl, ho0, hb⟩; refine ⟨_, rfl, ?_⟩; have HO254 := Aside0.mk (Kd.R_lower (Kd.R_new' (Kd.R_new' (Kd.R_new' (Kd.R_new' ho0 (Kd.R_lt (zR HO240))) (Kd.R_lt (zR HO244))) (Kd.R_lt (zR HO248))) (Kd.R_lt (zR HO251))) (below_size (zB HB))); replace HO240 := Aside0.mk (Kd.R_elder' (zR HO240) (Kd.R_base ho0) hb); replace HO244 := Aside0.mk (Kd.R_elder' (zR HO244) (Kd.R_base ho0) hb); replace HO248 := Aside0.mk (Kd.R_elder' (zR HO248) (Kd.R_base ho0) hb); replace HO251 := Aside0.mk (Kd.R_elder' (zR HO251) (Kd.R_base ho0) hb); replace HB := Aside0.mk (below_step (zB HB) hb); (try clear hb); (try clear ho0)) | ((with_reducible refine gate_dst (N := 27) rfl ?_); (try (refine gate_guard (by rfl) ?_; dsimp only)); refine Kd.R_lit k33 _ 33 ?hg (N := 27) ?hd (xs := ([(⟨80, 80⟩ : S33), (⟨8000, 8000⟩ : S33), (⟨8002, 8002⟩ : S33)] : List (S33))) (inner := [.int .i64 80, .int .i64 80, .int .i64 8000, .int .i64 8000, .int .i64 8002, .int .i64 8002]) (ok := fun _ => True) (okp := fun _ => True) ?hr ?hp (fun _ hk => hk) trivial (Below.refl _ _) (Nat.le_refl _) (by simp) ?_; (case hd => rfl); (case hg => rfl); (case hr => first | (go_simp; done) | (go_simp; rfl)); (case hp => exact (Reps.c2 (show Kd.M k33 _ _ _ (⟨80, 80⟩ : S33) [.int .i64 80, .int .i64 80] from (k33_mkM _ _ _ (⟨80, 80⟩ : S33) )) (Reps.c2 (show Kd.M k33 _ _ _ (⟨8000, 8000⟩ : S33) [.int .i64 8000, .int .i64 8000] from (k33_mkM _ _ _ (⟨8000, 8000⟩ : S33) )) (Reps.c2 (show Kd.M k33 _ _ _ (⟨8002, 8002⟩ : S33) [.int .i64 8002, .int .i64 8002] from (k33_mkM _ _ _ (⟨8002, 8002⟩ : S33) )) (Reps.none _ _))))); intro v256 w114 ho115 hb hg_ hnew_; clear hg_ hnew_; (first | rw [← Ny255.out] at ho115 | (simp only [Int.reduceToNat] at ho115; rw [← Ny255.out] at ho115)); have HO257 := Aside0.mk (Kd.R_lower (Kd.R_new' (Kd.R_new' (Kd.R_new' (Kd.R_new' (Kd.R_new' ho115 (Kd.R_lt (zR HO240))) (Kd.R_lt (zR HO244))) (Kd.R_lt (zR HO248))) (Kd.R_lt (zR HO251))) (Kd.R_lt (zR HO254))) (below_size (zB HB))); replace HO240 := Aside0.mk (Kd.R_elder' (zR HO240) (Kd.R_base ho115) hb); replace HO244 := Aside0.mk (Kd.R_elder' (zR HO244) (Kd.R_base ho115) hb); replace HO248 := Aside0.mk (Kd.R_elder' (zR HO248) (Kd.R_base ho115) hb); replace HO251 := Aside0.mk (Kd.R_elder' (zR HO251) (Kd.R_base ho115) hb); replace HO254 := Aside0.mk (Kd.R_elder' (zR HO254) (Kd.R_base ho115) hb); replace HB := Aside0.mk (below_step (zB HB) hb); clear hb ho115; obtain ⟨Ao116, co116, eo116⟩ := Kd.R_slice HO240.out; subst eo116; obtain ⟨Ao117, co117, eo117⟩ := Kd.R_slice HO257.out; subst eo117) | ((with_reducible refine gate_callee (f := 12) rfl ?_); refine goesL_ (some 28) rfl rfl Tryd.func12 (by kernel_rfl) rfl #[.slice Ao116 t237.length co116, .slice Ao117 y255.length co117] rfl (by (try simp only [List.map_toArray, List.map_cons, List.map_nil]); first | done | rfl | (simp only [List.length_drop, List.length_take]; rfl)) ?_; (with_reducible refine (intrusionlaw08_same.calls k _ _ t237 _ _ y255 false _ ?side1 ?side2 ?side3 ?side4 A5.out).mono ?_); (case side1 => repeat (first | exact (Kd.R_reads' HO240.out).2.2 | (with_reducible refine Kd.C_alloc ?_ _) | (with_reducible refine Kd.C_drewN ?_ _) | (with_reducible refine Kd.C_drew ?_))); (case side2 => exact (Kd.R_reads' HO240.out).2.1); (case side3 => repeat (first | exact (Kd.R_reads' HO257.out).2.2 | (with_reducible refine Kd.C_alloc ?_ _) | (with_reducible refine Kd.C_drewN ?_ _) | (with_reducible refine Kd.C_drew ?_))); (case side4 => exact (Kd.R_reads' HO257.out).2.1); rintro e w' ⟨rfl, ⟨nd, rfl⟩⟩; refine ⟨_, rfl, ?_⟩))
   go_ret
   exact ⟨by first | rfl | (simp [errW_none, errW_some] <;> rfl) | (simp [*, errW_none, errW_some] <;> rfl), by repeat (first | (with_reducible first | exact HB.out | apply below_alloc | apply pw_below_drewN | apply below_drew1) | exact HB.out)⟩
end Go.Proofs.YtbimdjciacnioaaDoor.Q
end

section
namespace Go.Proofs.YtbimdjciacnioaaDoor.Q
open Go.RowKit Go.Proofs.YtbimdjciacnioaaDoorW.PrintWords Go.Proofs.YtbimdjciacnioaaDoorW.PrintLast Go.Proofs.YtbimdjciacnioaaDoorW.PrintMore
attribute [local go_sem] max2_int min2_int max_two min_two max_three min_three max_four min_four
set_option linter.unusedVariables false
set_option linter.unusedSimpArgs false
def intrusionref08_All.f  : Option ((List (S33))) := some (([(⟨0, 65535⟩ : S33)] : List (S33)))
set_option maxHeartbeats 8000000 in
set_option maxRecDepth 100000 in
theorem intrusionref08_All.calls  (r : List (S33)) (w : World) (h : intrusionref08_All.f  = some r) :
 Calls Tryd.prog 28 #[] w fun e w' => ∃ v0_ : Value, e = .returned (v0_) ∧ Kd.R k33 33 w' w.heap.size (fun _ => True) v0_ r ∧ Below w.heap.size w w' := by
 have hu33 := Tryd.underlying33
 have HB := Aside0.mk (Below.refl w.heap.size w)
 unfold intrusionref08_All.f at h; have H := h
 clear h
 obtain ⟨y274, hy274⟩ : ∃ y_ : List (S33), y_ = (([(⟨0, 65535⟩ : S33)] : List (S33))) := ⟨_, rfl⟩
 rw [← hy274] at H; try dsimp only [Option.bind_some] at H
 have Ny274 := Aside0.mk hy274
 clear hy274
 obtain rfl := Option.some.inj H
 go_enter Tryd.func28, Tryd.ntmps28
 go_wp2_with (first | ((with_reducible refine gate_dst (N := 2) rfl ?_); refine Kd.R_lit k33 _ 33 ?hg (N := 2) ?hd (xs := ([(⟨0, 65535⟩ : S33)] : List (S33))) (inner := [.int .i64 0, .int .i64 65535]) (ok := fun _ => True) (okp := fun _ => True) ?hr ?hp (fun _ hk => hk) trivial (Below.refl _ _) (Nat.le_refl _) (by simp) ?_; (case hd => rfl); (case hg => rfl); (case hr => first | (go_simp; done) | (go_simp; rfl)); (case hp => exact (Reps.c2 (show Kd.M k33 _ _ _ (⟨0, 65535⟩ : S33) [.int .i64 0, .int .i64 65535] from (k33_mkM _ _ _ (⟨0, 65535⟩ : S33) )) (Reps.none _ _))); intro v275 w1 ho2 hb hg_ hnew_; clear hg_ hnew_; (first | rw [← Ny274.out] at ho2 | (simp only [Int.reduceToNat] at ho2; rw [← Ny274.out] at ho2)); have HO276 := Aside0.mk (Kd.R_lower ho2 (below_size (zB HB))); replace HB := Aside0.mk (below_step (zB HB) hb); clear hb ho2))
 go_ret
 exact ⟨_, by first | rfl | (simp [errW_none, errW_some] <;> rfl) | (simp [*, errW_none, errW_some] <;> rfl), by (with_reducible repeat (first | apply Kd.R_alloc | apply Kd.R_drewN | apply Kd.R_drew)); exact HO276.out, by repeat (first | (with_reducible first | exact HB.out | apply below_alloc | apply pw_below_drewN | apply below_drew1) | exact HB.out)⟩
end Go.Proofs.YtbimdjciacnioaaDoor.Q
end

section
namespace Go.Proofs.YtbimdjciacnioaaDoor.Q
open Go.RowKit Go.Proofs.YtbimdjciacnioaaDoorW.PrintWords Go.Proofs.YtbimdjciacnioaaDoorW.PrintLast Go.Proofs.YtbimdjciacnioaaDoorW.PrintMore
attribute [local go_sem] max2_int min2_int max_two min_two max_three min_three max_four min_four
set_option linter.unusedVariables false
set_option linter.unusedSimpArgs false
def intrusionref05_cut.f (a0_0 : Int) (a0_1 : Int) (a1 : Int) (a2 : Int) : Option (Int × Int × Bool) := some (mx a0_0 a1, mn a0_1 a2, decide ((mx a0_0 a1) ≤ (mn a0_1 a2)))
def intrusionref05_cut.T2 : Bool × List (List Nat × List Nat) := (true, [([], []), ([], []), ([1], [1]), ([], []), ([3], [3]), ([2, 4], [2, 4]), ([0, 0], [0]), ([5, 6, 0, 1, 2, 3, 4, 5, 6], [5])])
def intrusionref05_cut.B2 : List Nat := [0, 0, 2, 0, 8, 30, 1, 127]
theorem intrusionref05_cut.tab2 : rtab .any (opsOf Tryd.f68 2) = intrusionref05_cut.T2 := by kernel_rfl
theorem intrusionref05_cut.bits2 : waitsOk intrusionref05_cut.T2.2 intrusionref05_cut.B2 = true := by kernel_rfl
set_option maxHeartbeats 8000000 in
set_option maxRecDepth 100000 in
theorem intrusionref05_cut.calls (a0_0 : Int) (a0_1 : Int) (a1 : Int) (a2 : Int) (r1 : Int) (r2 : Int) (r3 : Bool) (w : World) (h : intrusionref05_cut.f a0_0 a0_1 a1 a2 = some (r1, r2, r3)) :
 Calls Tryd.prog 68 #[.agg #[.int .i64 a0_0, .int .i64 a0_1], .int .i64 a1, .int .i64 a2] w fun e w' => e = .returned (.tuple #[.agg #[.int .i64 r1, .int .i64 r2], .bool r3]) ∧ Below w.heap.size w w' := by
 have hu33 := Tryd.underlying33
 have HB := Aside0.mk (Below.refl w.heap.size w)
 unfold intrusionref05_cut.f at h; have H := h
 clear h
 obtain ⟨ji4, hji4⟩ : ∃ j_ : Int, (mx a0_0 a1) = j_ := ⟨_, rfl⟩
 replace H : (some (ji4, mn a0_1 a2, decide ((ji4) ≤ (mn a0_1 a2)))) = some (r1, r2, r3) := by first | (rw [hji4] at H; exact H) | (simp only [hji4] at H ⊢; exact H)
 have hji4_ : (if a0_0 < a1 then a1 else a0_0) = ji4 := hji4
 obtain ⟨ji5, hji5⟩ : ∃ j_ : Int, (mn a0_1 a2) = j_ := ⟨_, rfl⟩
 replace H : (some (ji4, ji5, decide ((ji4) ≤ (ji5)))) = some (r1, r2, r3) := by first | (rw [hji5] at H; exact H) | (simp only [hji5] at H ⊢; exact H)
 have hji5_ : (if a2 < a0_1 then a2 else a0_1) = ji5 := hji5
 simp only [Option.some.injEq, Prod.mk.injEq] at H
 obtain ⟨rfl, rfl, rfl⟩ := H
 go_enter Tryd.func68, Tryd.ntmps68
 try go_wp2_with (first | ((with_reducible refine gate_dst (N := 3) rfl ?_); refine zx 3 #[.int .i64 a0_0, .int .i64 a0_1] 33 ?_; intro gb277 hg w6 hbox hb; have BK277 := Aside0.mk (hbox); have GW277 := Aside0.mk ((by rw [hg]; exact (below_size (zB HB)) : w.heap.size ≤ gb277)); have GE277 := Aside0.mk ((by rw [hg]; exact (below_size (zB HB)) : w.heap.size ≤ gb277)); replace HB := Aside0.mk (below_step (zB HB) hb); clear hb hbox hg) | ((with_reducible refine gate_dst (N := 6) rfl ?_); refine zx 6 #[.int .i64 0, .int .i64 0] 33 ?_; intro gb278 hg w7 hbox hb; have BK278 := Aside0.mk (hbox); have GW278 := Aside0.mk ((by rw [hg]; exact (below_size (zB HB)) : w.heap.size ≤ gb278)); have GE278 := Aside0.mk ((by rw [hg]; exact (below_size (zB HB)) : w.heap.size ≤ gb278)); replace HB := Aside0.mk (below_step (zB HB) hb); have NB277_278 := Aside0.mk ((by rw [hg]; exact Nat.ne_of_lt (blk_lt (g := gb277) (o := .cells #[.int .i64 a0_0, .int .i64 a0_1] 33 (0, 0)) (zK BK277)) : gb277 ≠ gb278)); have NB278_277 := Aside0.mk ((by rw [hg]; exact Nat.ne_of_gt (blk_lt (g := gb277) (o := .cells #[.int .i64 a0_0, .int .i64 a0_1] 33 (0, 0)) (zK BK277)) : gb278 ≠ gb277)); replace BK277 := Aside0.mk (blk_below (g := gb277) (o := .cells #[.int .i64 a0_0, .int .i64 a0_1] 33 (0, 0)) (zK BK277) hb); clear hb hbox hg; have hnb8 := NB277_278.out; have hnc8 := NB278_277.out; obtain ⟨hcz9_0, hcz9_1⟩ := zc2 BK277; obtain ⟨hfz9_0, hfz9_1⟩ := zf2 BK277) | ((with_reducible refine gate_dst (N := 8) rfl ?_); refine zx 8 #[.int .i64 0, .int .i64 0] 33 ?_; intro gb279 hg w10 hbox hb; have BK279 := Aside0.mk (hbox); have GW279 := Aside0.mk ((by rw [hg]; exact (below_size (zB HB)) : w.heap.size ≤ gb279)); have GE279 := Aside0.mk ((by rw [hg]; exact (below_size (zB HB)) : w.heap.size ≤ gb279)); replace HB := Aside0.mk (below_step (zB HB) hb); have NB277_279 := Aside0.mk ((by rw [hg]; exact Nat.ne_of_lt (blk_lt (g := gb277) (o := .cells #[.int .i64 a0_0, .int .i64 a0_1] 33 (0, 0)) (zK BK277)) : gb277 ≠ gb279)); have NB279_277 := Aside0.mk ((by rw [hg]; exact Nat.ne_of_gt (blk_lt (g := gb277) (o := .cells #[.int .i64 a0_0, .int .i64 a0_1] 33 (0, 0)) (zK BK277)) : gb279 ≠ gb277)); replace BK277 := Aside0.mk (blk_below (g := gb277) (o := .cells #[.int .i64 a0_0, .int .i64 a0_1] 33 (0, 0)) (zK BK277) hb); have NB278_279 := Aside0.mk ((by rw [hg]; exact Nat.ne_of_lt (blk_lt (g := gb278) (o := .cells #[.int .i64 0, .int .i64 0] 33 (0, 0)) (zK BK278)) : gb278 ≠ gb279)); have NB279_278 := Aside0.mk ((by rw [hg]; exact Nat.ne_of_gt (blk_lt (g := gb278) (o := .cells #[.int .i64 0, .int .i64 0] 33 (0, 0)) (zK BK278)) : gb279 ≠ gb278)); replace BK278 := Aside0.mk (blk_below (g := gb278) (o := .cells #[.int .i64 0, .int .i64 0] 33 (0, 0)) (zK BK278) hb); clear hb hbox hg; have hnb11 := NB279_277.out; have hnc11 := NB277_279.out; have hnb12 := NB279_278.out; have hnc12 := NB278_279.out; obtain ⟨hcz13_0, hcz13_1⟩ := zc2 BK279; obtain ⟨hfz13_0, hfz13_1⟩ := zf2 BK279))
 have n0_ : Aside0 (((w10.setCell ⟨gb279, 0, none⟩ (.int .i64 ji4)).setCell ⟨gb279, 1, none⟩ (.int .i64 ji5)).heap[gb277]? = some (.cells #[.int .i64 a0_0, .int .i64 a0_1] 33 (0, 0))) := ⟨by refine zL ?_; refine blk_far ?_ NB277_279.out _; refine zL ?_; refine blk_far ?_ NB277_279.out _; refine zL ?_; exact BK277.out⟩
 have n1_ : Aside0 (((w10.setCell ⟨gb279, 0, none⟩ (.int .i64 ji4)).setCell ⟨gb279, 1, none⟩ (.int .i64 ji5)).heap[gb278]? = some (.cells #[.int .i64 0, .int .i64 0] 33 (0, 0))) := ⟨by refine zL ?_; refine blk_far ?_ NB278_279.out _; refine zL ?_; refine blk_far ?_ NB278_279.out _; refine zL ?_; exact BK278.out⟩
 have n2_ : Aside0 (((w10.setCell ⟨gb279, 0, none⟩ (.int .i64 ji4)).setCell ⟨gb279, 1, none⟩ (.int .i64 ji5)).heap[gb279]? = some (.cells #[.int .i64 ji4, .int .i64 ji5] 33 (0, 0))) := ⟨by refine zL ?_; refine blk_put (cs := #[.int .i64 ji4, .int .i64 0]) ?_ 1 _ rfl; refine zL ?_; refine blk_put (cs := #[.int .i64 0, .int .i64 0]) ?_ 0 _ rfl; refine zL ?_; exact BK279.out⟩
 have n3_ : Aside0 (Below w.heap.size w ((w10.setCell ⟨gb279, 0, none⟩ (.int .i64 ji4)).setCell ⟨gb279, 1, none⟩ (.int .i64 ji5))) := ⟨zB HB⟩
 (try clear BK277)
 (try clear BK278)
 (try clear BK279)
 (try clear HB)
 generalize ((w10.setCell ⟨gb279, 0, none⟩ (.int .i64 ji4)).setCell ⟨gb279, 1, none⟩ (.int .i64 ji5)) = w14 at n0_ n1_ n2_ n3_ ⊢
 have BK277 := n0_
 have BK278 := n1_
 have BK279 := n2_
 have HB := n3_
 clear n0_ n1_ n2_ n3_
 replace BK277 := Aside0.mk (blk_drew BK277.out)
 replace BK278 := Aside0.mk (blk_drew BK278.out)
 replace BK279 := Aside0.mk (blk_drew BK279.out)
 replace HB := Aside0.mk (below_drew1 HB.out)
 refine start_ (n := 8) (S := fun w' => w'.cell? ⟨gb279, 0, none⟩ = some (.int .i64 ji4) ∧ w'.cell? ⟨gb279, 1, none⟩ = some (.int .i64 ji5)) (ds := []) #[false, false, false, false, false, false, false, false] (by kernel_rfl) rfl rfl ⟨zc BK279 0, zc BK279 1⟩ (fun hHeld => ?_); refine with_tabW intrusionref05_cut.tab2 intrusionref05_cut.bits2 (fun HT_ HW_ => ?_)
 generalize w14.drew = w15 at BK277 BK278 BK279 HB hHeld ⊢
 refine zp 1 19 HT_ ?_; refine zp 3 21 HT_ ?_; refine zt 0 18 HT_ HW_ hHeld ?_; refine zt 2 20 HT_ HW_ hHeld ?_; refine zt 4 22 HT_ HW_ hHeld ?_; refine zp 5 23 HT_ ?_
 refine one_ (i := 6) (N := none) #[true, true, true, true, true, true, true, false] rfl rfl (one_of HT_.out (by kernel_rfl)) (by decide) (fun K hK => ?_)
 have hs16 : w15.cell? ⟨gb278, 0, none⟩ = some (.int .i64 0) := zc BK278 0
 have hfs16 := blk_frozen BK278.out 0
 have hns16_0 := NB277_278.out
 have hns16_2 := NB279_278.out
 have hms16_0 := NB278_277.out
 have hms16_2 := NB278_279.out
 have hs17 : w15.cell? ⟨gb278, 1, none⟩ = some (.int .i64 0) := zc BK278 1
 have hfs17 := blk_frozen BK278.out 1
 have hns17_0 := NB277_278.out
 have hns17_2 := NB279_278.out
 have hms17_0 := NB278_277.out
 have hms17_2 := NB278_279.out
 refine skip_ (w1 := ?_) (by rfl) rfl ?_ ?_
 rotate_left
 · go_simp
   rfl
 refine hK.out _ _ ⟨((cell_far (p := ⟨gb278, _, none⟩) NB279_278.out _).trans (((cell_far (p := ⟨gb278, _, none⟩) NB279_278.out _).trans (hHeld.1)))), ((cell_far (p := ⟨gb278, _, none⟩) NB279_278.out _).trans (((cell_far (p := ⟨gb278, _, none⟩) NB279_278.out _).trans (hHeld.2))))⟩ (fun hHeld => ?_)
 clear hK K
 refine zp 7 7 HT_ ?_; refine zd HT_ ?_
 try go_wp2
 refine bodyPost_ret (results_ct rfl _ _ gb278 33 #[.int .i64 ji4, .int .i64 ji5] (0, 0) _ rfl (by refine zL ?_; refine blk_put (cs := #[.int .i64 ji4, .int .i64 0]) ?_ 1 _ rfl; refine zL ?_; refine blk_put (cs := #[.int .i64 0, .int .i64 0]) ?_ 0 _ rfl; refine zL ?_; exact BK278.out) Tryd.underlying33 rfl (by kernel_rfl)) rfl ?_
 exact ⟨by first | rfl | (simp [errW_none, errW_some] <;> rfl) | (simp only [← hji4, ← hji5]; first | rfl | (simp [errW_none, errW_some] <;> rfl)) | (simp [*, errW_none, errW_some] <;> rfl), by repeat (first | (with_reducible first | exact HB.out | apply below_alloc | apply pw_below_drewN | apply below_drew1 | refine below_set ?_ GE277.out | refine below_set ?_ GE278.out | refine below_set ?_ GE279.out) | exact HB.out)⟩
end Go.Proofs.YtbimdjciacnioaaDoor.Q
end

section
namespace Go.Proofs.YtbimdjciacnioaaDoor.Q
open Go.RowKit Go.Proofs.YtbimdjciacnioaaDoorW.PrintWords Go.Proofs.YtbimdjciacnioaaDoorW.PrintLast Go.Proofs.YtbimdjciacnioaaDoorW.PrintMore
attribute [local go_sem] max2_int min2_int max_two min_two max_three min_three max_four min_four
set_option linter.unusedVariables false
set_option linter.unusedSimpArgs false
mutual
def intrusionref05_least.l0 : Nat → List (S33) → Int → Int → Int → Option (Int × Int × (List (S33)))
  | 0, _, _, _, _ => none
  | k + 1, x0, x5, x283000, x283001 => if x5 < (x0.length : Int) then (if 0 ≤ x5 then (if ((rd_T33 x0 x5).f0) < x283000 then (intrusionref05_least.l0 k x0 (wrap64 (x5 + 1)) ((rd_T33 x0 x5).f0) ((rd_T33 x0 x5).f1)) else (intrusionref05_least.l0 k x0 (wrap64 (x5 + 1)) x283000 x283001)) else (none)) else (intrusionref05_least.l1 k x0 true x283000 x283001)
def intrusionref05_least.l1 : Nat → List (S33) → Bool → Int → Int → Option (Int × Int × (List (S33)))
  | 0, _, _, _, _ => none
  | k + 1, x0, x6, x283000, x283001 => if x6 = true then (intrusionref05_least.l2 k x0 false 0 x283000 x283001) else (intrusionref05_least.l3 k x0 (([] : List (S33))) 0 x283000 x283001)
def intrusionref05_least.l2 : Nat → List (S33) → Bool → Int → Int → Int → Option (Int × Int × (List (S33)))
  | 0, _, _, _, _, _ => none
  | k + 1, x0, x6, x7, x283000, x283001 => if x7 < (x0.length : Int) then (if 0 ≤ x7 then (if ((rd_T33 x0 x7).f0) ≤ (wrap64 (x283001 + 1)) then (if ((rd_T33 x0 x7).f1) > x283001 then (intrusionref05_least.l2 k x0 true (wrap64 (x7 + 1)) x283000 ((rd_T33 x0 x7).f1)) else (intrusionref05_least.l2 k x0 x6 (wrap64 (x7 + 1)) x283000 x283001)) else (intrusionref05_least.l2 k x0 x6 (wrap64 (x7 + 1)) x283000 x283001)) else (none)) else (intrusionref05_least.l1 k x0 x6 x283000 x283001)
def intrusionref05_least.l3 : Nat → List (S33) → List (S33) → Int → Int → Int → Option (Int × Int × (List (S33)))
  | 0, _, _, _, _, _ => none
  | k + 1, x0, x8, x9, x283000, x283001 => if x9 < (x0.length : Int) then (if 0 ≤ x9 then (if ((rd_T33 x0 x9).f0) > x283001 then (if x8.length < 8796093022208 then (intrusionref05_least.l3 k x0 (x8 ++ [(⟨(rd_T33 x0 x9).f0, (rd_T33 x0 x9).f1⟩ : S33)]) (wrap64 (x9 + 1)) x283000 x283001) else (none)) else (intrusionref05_least.l3 k x0 x8 (wrap64 (x9 + 1)) x283000 x283001)) else (none)) else (some (x283000, x283001, x8))
end
def intrusionref05_least.f (k : Nat) (l0 : List (S33)) : Option (Int × Int × (List (S33))) := if 0 < (l0.length : Int) then (intrusionref05_least.l0 k l0 0 ((rd_T33 l0 0).f0) ((rd_T33 l0 0).f1)) else (none)
theorem intrusionref05_least.mono_l : ∀ k, (∀ y0 y1 y2 y3, LeO (intrusionref05_least.l0 k y0 y1 y2 y3) (intrusionref05_least.l0 (k + 1) y0 y1 y2 y3)) ∧ (∀ y0 y1 y2 y3, LeO (intrusionref05_least.l1 k y0 y1 y2 y3) (intrusionref05_least.l1 (k + 1) y0 y1 y2 y3)) ∧ (∀ y0 y1 y2 y3 y4, LeO (intrusionref05_least.l2 k y0 y1 y2 y3 y4) (intrusionref05_least.l2 (k + 1) y0 y1 y2 y3 y4)) ∧ (∀ y0 y1 y2 y3 y4, LeO (intrusionref05_least.l3 k y0 y1 y2 y3 y4) (intrusionref05_least.l3 (k + 1) y0 y1 y2 y3 y4))
  | 0 => ⟨fun _ _ _ _ r h => by simp [intrusionref05_least.l0] at h, fun _ _ _ _ r h => by simp [intrusionref05_least.l1] at h, fun _ _ _ _ _ r h => by simp [intrusionref05_least.l2] at h, fun _ _ _ _ _ r h => by simp [intrusionref05_least.l3] at h⟩
  | k + 1 => by
    obtain ⟨ih0, ih1, ih2, ih3⟩ := intrusionref05_least.mono_l k
    refine ⟨?_, ?_, ?_, ?_⟩
    · intro y0 y1 y2 y3
      unfold intrusionref05_least.l0
      repeat' first
      | (with_reducible exact ih0 _ _ _ _)
      | (with_reducible exact ih1 _ _ _ _)
      | (with_reducible exact ih2 _ _ _ _ _)
      | (with_reducible exact ih3 _ _ _ _ _)
      | (with_reducible exact LeO.refl _)
      | (with_reducible exact LeO.none _)
      | (with_reducible refine LeO.ite ?_ ?_)
      | (with_reducible refine LeO.bind ?_ (fun _ => ?_))
      | exact ih0 _ _ _ _
      | exact ih1 _ _ _ _
      | exact ih2 _ _ _ _ _
      | exact ih3 _ _ _ _ _
      | exact LeO.none _
      | refine LeO.ite ?_ ?_
      | refine LeO.bind ?_ (fun _ => ?_)
    · intro y0 y1 y2 y3
      unfold intrusionref05_least.l1
      repeat' first
      | (with_reducible exact ih0 _ _ _ _)
      | (with_reducible exact ih1 _ _ _ _)
      | (with_reducible exact ih2 _ _ _ _ _)
      | (with_reducible exact ih3 _ _ _ _ _)
      | (with_reducible exact LeO.refl _)
      | (with_reducible exact LeO.none _)
      | (with_reducible refine LeO.ite ?_ ?_)
      | (with_reducible refine LeO.bind ?_ (fun _ => ?_))
      | exact ih0 _ _ _ _
      | exact ih1 _ _ _ _
      | exact ih2 _ _ _ _ _
      | exact ih3 _ _ _ _ _
      | exact LeO.none _
      | refine LeO.ite ?_ ?_
      | refine LeO.bind ?_ (fun _ => ?_)
    · intro y0 y1 y2 y3 y4
      unfold intrusionref05_least.l2
      repeat' first
      | (with_reducible exact ih0 _ _ _ _)
      | (with_reducible exact ih1 _ _ _ _)
      | (with_reducible exact ih2 _ _ _ _ _)
      | (with_reducible exact ih3 _ _ _ _ _)
      | (with_reducible exact LeO.refl _)
      | (with_reducible exact LeO.none _)
      | (with_reducible refine LeO.ite ?_ ?_)
      | (with_reducible refine LeO.bind ?_ (fun _ => ?_))
      | exact ih0 _ _ _ _
      | exact ih1 _ _ _ _
      | exact ih2 _ _ _ _ _
      | exact ih3 _ _ _ _ _
      | exact LeO.none _
      | refine LeO.ite ?_ ?_
      | refine LeO.bind ?_ (fun _ => ?_)
    · intro y0 y1 y2 y3 y4
      unfold intrusionref05_least.l3
      repeat' first
      | (with_reducible exact ih0 _ _ _ _)
      | (with_reducible exact ih1 _ _ _ _)
      | (with_reducible exact ih2 _ _ _ _ _)
      | (with_reducible exact ih3 _ _ _ _ _)
      | (with_reducible exact LeO.refl _)
      | (with_reducible exact LeO.none _)
      | (with_reducible refine LeO.ite ?_ ?_)
      | (with_reducible refine LeO.bind ?_ (fun _ => ?_))
      | exact ih0 _ _ _ _
      | exact ih1 _ _ _ _
      | exact ih2 _ _ _ _ _
      | exact ih3 _ _ _ _ _
      | exact LeO.none _
      | refine LeO.ite ?_ ?_
      | refine LeO.bind ?_ (fun _ => ?_)
theorem intrusionref05_least.mono : ∀ a0 k, LeO (intrusionref05_least.f k a0) (intrusionref05_least.f (k + 1) a0) := by
  intro a0 k
  obtain ⟨ih0, ih1, ih2, ih3⟩ := intrusionref05_least.mono_l k
  unfold intrusionref05_least.f
  repeat' first
      | (with_reducible exact ih0 _ _ _ _)
      | (with_reducible exact ih1 _ _ _ _)
      | (with_reducible exact ih2 _ _ _ _ _)
      | (with_reducible exact ih3 _ _ _ _ _)
      | (with_reducible exact LeO.refl _)
      | (with_reducible exact LeO.none _)
      | (with_reducible refine LeO.ite ?_ ?_)
      | (with_reducible refine LeO.bind ?_ (fun _ => ?_))
      | exact ih0 _ _ _ _
      | exact ih1 _ _ _ _
      | exact ih2 _ _ _ _ _
      | exact ih3 _ _ _ _ _
      | exact LeO.none _
      | refine LeO.ite ?_ ?_
      | refine LeO.bind ?_ (fun _ => ?_)
set_option maxHeartbeats 8000000 in
set_option maxRecDepth 100000 in
theorem intrusionref05_least.calls (k : Nat) (A0 : Option Addr) (c0 : Nat) (l0 : List (S33)) (r1 : Int) (r2 : Int) (r3 : List (S33)) (w : World) (hr0 : Kd.C k33 w A0 l0.length l0) (hc0 : l0.length ≤ c0) (h : intrusionref05_least.f k l0 = some (r1, r2, r3)) :
 Calls Tryd.prog 85 #[.slice A0 l0.length c0] w fun e w' => ∃ v2_ : Value, e = .returned (.tuple #[.agg #[.int .i64 r1, .int .i64 r2], v2_]) ∧ Kd.R k33 33 w' w.heap.size (fun _ => True) v2_ r3 ∧ Below w.heap.size w w' := by
 have hu33 := Tryd.underlying33
 have HR0 := Aside0.mk hr0
 have HC0 := Aside0.mk hc0
 clear hr0 hc0
 have HB := Aside0.mk (Below.refl w.heap.size w)
 unfold intrusionref05_least.f at h; have H := h
 clear h
 by_cases c2 : 0 < (l0.length : Int)
 · rw [if_pos c2] at H
   have c2b0 : decide (0 < (l0.length : Int)) = true := decide_eq_true c2
   have c2b1 : decide (0 < l0.length) = true := decide_eq_true (by omega)
   clear c2
   have H' := Aside0.mk H
   clear H
   go_enter Tryd.func85, Tryd.ntmps85
   go_wp2_with (first | ((with_reducible refine gate_dst (N := 2) rfl ?_); refine zx 2 #[.int .i64 0, .int .i64 0] 33 ?_; intro gb280 hg w3 hbox hb; have BK280 := Aside0.mk (hbox); have GW280 := Aside0.mk ((by rw [hg]; exact (below_size (zB HB)) : w.heap.size ≤ gb280)); have GE280 := Aside0.mk ((by rw [hg]; exact (below_size (zB HB)) : w.heap.size ≤ gb280)); replace HB := Aside0.mk (below_step (zB HB) hb); clear hb hbox hg; have p281 : 0 ≤ (0 : Int) := (by omega); have q281 : 0 < (l0.length : Int) := za; obtain ⟨ad281, e281, hx281_0, hx281_1⟩ := at_T33 HR0.out 0 p281 q281; cases e281; have qi281 : (0 < l0.length) = True := eq_true (by omega); (try rw [show ((0 : Int)).toNat = 0 from rfl] at hx281_0); (try rw [show 0 * 2 = 0 from rfl] at hx281_0); (try rw [Addr.add_zero'] at hx281_0); (try rw [show ((0 : Int)).toNat = 0 from rfl] at hx281_1); (try rw [show 0 * 2 = 0 from rfl] at hx281_1); (try rw [Addr.add_zero'] at hx281_1); replace hx281_0 := zh HB hx281_0; replace hx281_1 := zh HB hx281_1; replace p281 := eq_true p281; replace q281 := eq_true q281) | ((with_reducible refine gate_dst (N := 4) rfl ?_); refine zx 4 #[.int .i64 0, .int .i64 0] 33 ?_; intro gb282 hg w4 hbox hb; have BK282 := Aside0.mk (hbox); have GW282 := Aside0.mk ((by rw [hg]; exact (below_size (zB HB)) : w.heap.size ≤ gb282)); have GE282 := Aside0.mk ((by rw [hg]; exact (below_size (zB HB)) : w.heap.size ≤ gb282)); replace HB := Aside0.mk (below_step (zB HB) hb); have NB280_282 := Aside0.mk ((by rw [hg]; exact Nat.ne_of_lt (blk_lt (g := gb280) (o := .cells #[.int .i64 0, .int .i64 0] 33 (0, 0)) (zK BK280)) : gb280 ≠ gb282)); have NB282_280 := Aside0.mk ((by rw [hg]; exact Nat.ne_of_gt (blk_lt (g := gb280) (o := .cells #[.int .i64 0, .int .i64 0] 33 (0, 0)) (zK BK280)) : gb282 ≠ gb280)); replace BK280 := Aside0.mk (blk_below (g := gb280) (o := .cells #[.int .i64 0, .int .i64 0] 33 (0, 0)) (zK BK280) hb); clear hb hbox hg; have hnb5 := NB282_280.out; have hnc5 := NB280_282.out; obtain ⟨hcz6_0, hcz6_1⟩ := zc2 BK282; obtain ⟨hfz6_0, hfz6_1⟩ := zf2 BK282))
   repeat (go_quiet (first | ((with_reducible refine gate_dst (N := 2) rfl ?_); refine zx 2 #[.int .i64 0, .int .i64 0] 33 ?_; intro gb280 hg w3 hbox hb; have BK280 := Aside0.mk (hbox); have GW280 := Aside0.mk ((by rw [hg]; exact (below_size (zB HB)) : w.heap.size ≤ gb280)); have GE280 := Aside0.mk ((by rw [hg]; exact (below_size (zB HB)) : w.heap.size ≤ gb280)); replace HB := Aside0.mk (below_step (zB HB) hb); clear hb hbox hg; have p281 : 0 ≤ (0 : Int) := (by omega); have q281 : 0 < (l0.length : Int) := za; obtain ⟨ad281, e281, hx281_0, hx281_1⟩ := at_T33 HR0.out 0 p281 q281; cases e281; have qi281 : (0 < l0.length) = True := eq_true (by omega); (try rw [show ((0 : Int)).toNat = 0 from rfl] at hx281_0); (try rw [show 0 * 2 = 0 from rfl] at hx281_0); (try rw [Addr.add_zero'] at hx281_0); (try rw [show ((0 : Int)).toNat = 0 from rfl] at hx281_1); (try rw [show 0 * 2 = 0 from rfl] at hx281_1); (try rw [Addr.add_zero'] at hx281_1); replace hx281_0 := zh HB hx281_0; replace hx281_1 := zh HB hx281_1; replace p281 := eq_true p281; replace q281 := eq_true q281) | ((with_reducible refine gate_dst (N := 4) rfl ?_); refine zx 4 #[.int .i64 0, .int .i64 0] 33 ?_; intro gb282 hg w4 hbox hb; have BK282 := Aside0.mk (hbox); have GW282 := Aside0.mk ((by rw [hg]; exact (below_size (zB HB)) : w.heap.size ≤ gb282)); have GE282 := Aside0.mk ((by rw [hg]; exact (below_size (zB HB)) : w.heap.size ≤ gb282)); replace HB := Aside0.mk (below_step (zB HB) hb); have NB280_282 := Aside0.mk ((by rw [hg]; exact Nat.ne_of_lt (blk_lt (g := gb280) (o := .cells #[.int .i64 0, .int .i64 0] 33 (0, 0)) (zK BK280)) : gb280 ≠ gb282)); have NB282_280 := Aside0.mk ((by rw [hg]; exact Nat.ne_of_gt (blk_lt (g := gb280) (o := .cells #[.int .i64 0, .int .i64 0] 33 (0, 0)) (zK BK280)) : gb282 ≠ gb280)); replace BK280 := Aside0.mk (blk_below (g := gb280) (o := .cells #[.int .i64 0, .int .i64 0] 33 (0, 0)) (zK BK280) hb); clear hb hbox hg; have hnb5 := NB282_280.out; have hnc5 := NB280_282.out; obtain ⟨hcz6_0, hcz6_1⟩ := zc2 BK282; obtain ⟨hfz6_0, hfz6_1⟩ := zf2 BK282)); try go_wp2_with (first | ((with_reducible refine gate_dst (N := 2) rfl ?_); refine zx 2 #[.int .i64 0, .int .i64 0] 33 ?_; intro gb280 hg w3 hbox hb; have BK280 := Aside0.mk (hbox); have GW280 := Aside0.mk ((by rw [hg]; exact (below_size (zB HB)) : w.heap.size ≤ gb280)); have GE280 := Aside0.mk ((by rw [hg]; exact (below_size (zB HB)) : w.heap.size ≤ gb280)); replace HB := Aside0.mk (below_step (zB HB) hb); clear hb hbox hg; have p281 : 0 ≤ (0 : Int) := (by omega); have q281 : 0 < (l0.length : Int) := za; obtain ⟨ad281, e281, hx281_0, hx281_1⟩ := at_T33 HR0.out 0 p281 q281; cases e281; have qi281 : (0 < l0.length) = True := eq_true (by omega); (try rw [show ((0 : Int)).toNat = 0 from rfl] at hx281_0); (try rw [show 0 * 2 = 0 from rfl] at hx281_0); (try rw [Addr.add_zero'] at hx281_0); (try rw [show ((0 : Int)).toNat = 0 from rfl] at hx281_1); (try rw [show 0 * 2 = 0 from rfl] at hx281_1); (try rw [Addr.add_zero'] at hx281_1); replace hx281_0 := zh HB hx281_0; replace hx281_1 := zh HB hx281_1; replace p281 := eq_true p281; replace q281 := eq_true q281) | ((with_reducible refine gate_dst (N := 4) rfl ?_); refine zx 4 #[.int .i64 0, .int .i64 0] 33 ?_; intro gb282 hg w4 hbox hb; have BK282 := Aside0.mk (hbox); have GW282 := Aside0.mk ((by rw [hg]; exact (below_size (zB HB)) : w.heap.size ≤ gb282)); have GE282 := Aside0.mk ((by rw [hg]; exact (below_size (zB HB)) : w.heap.size ≤ gb282)); replace HB := Aside0.mk (below_step (zB HB) hb); have NB280_282 := Aside0.mk ((by rw [hg]; exact Nat.ne_of_lt (blk_lt (g := gb280) (o := .cells #[.int .i64 0, .int .i64 0] 33 (0, 0)) (zK BK280)) : gb280 ≠ gb282)); have NB282_280 := Aside0.mk ((by rw [hg]; exact Nat.ne_of_gt (blk_lt (g := gb280) (o := .cells #[.int .i64 0, .int .i64 0] 33 (0, 0)) (zK BK280)) : gb282 ≠ gb280)); replace BK280 := Aside0.mk (blk_below (g := gb280) (o := .cells #[.int .i64 0, .int .i64 0] 33 (0, 0)) (zK BK280) hb); clear hb hbox hg; have hnb5 := NB282_280.out; have hnc5 := NB280_282.out; obtain ⟨hcz6_0, hcz6_1⟩ := zc2 BK282; obtain ⟨hfz6_0, hfz6_1⟩ := zf2 BK282)))
   go_loopg [5] k (fun kq v5 w' => ∃ (x5_1 : Int) (x283000_1 : Int) (x283001_1 : Int), v5 = .int .i64 x5_1 ∧ Aside0 (intrusionref05_least.l0 kq l0 x5_1 x283000_1 x283001_1 = some (r1, r2, r3)) ∧ Aside0 (kq ≤ k) ∧ Aside0 (w'.heap[gb280]? = some (.cells #[.int .i64 0, .int .i64 0] 33 (0, 0))) ∧ Aside0 (w'.heap[gb282]? = some (.cells #[.int .i64 x283000_1, .int .i64 x283001_1] 33 (0, 0))) ∧ Aside0 (Below w.heap.size w w'))
   case atStart => exact ⟨(0), ((rd_T33 l0 0).f0), ((rd_T33 l0 0).f1), (by first | rfl | (simp; done) | (simp [*]; done)), H', ⟨Nat.le_refl _⟩, ⟨by refine zL ?_; refine blk_far ?_ NB280_282.out _; refine zL ?_; refine blk_far ?_ NB280_282.out _; refine zL ?_; exact BK280.out⟩, ⟨by refine zL ?_; refine blk_put (cs := #[.int .i64 ((rd_T33 l0 0).f0), .int .i64 0]) ?_ 1 _ rfl; refine zL ?_; refine blk_put (cs := #[.int .i64 0, .int .i64 0]) ?_ 0 _ rfl; refine zL ?_; exact BK282.out⟩, ⟨zB HB⟩⟩
   case round =>
    clear H'
    try clear c2
    try clear c2b0
    try clear c2b1
    try clear p2
    try clear q2
    try clear hx2
    try clear qi2
    try clear c5
    try clear hcz6_0
    try clear hcz6_1
    try clear hfz6_0
    try clear hfz6_1
    try clear hx281_0
    try clear hx281_1
    try clear p281
    try clear q281
    obtain ⟨x5_1, x283000_1, x283001_1, rfl, HA, HK1, BK280, BK282, HB⟩ := hrel
    cases gk with
    | zero => exact absurd HA.out (by simp [intrusionref05_least.l0])
    | succ k1 =>
     have H := HA.out
     clear HA
     simp only [intrusionref05_least.l0] at H
     by_cases c7 : x5_1 < (l0.length : Int)
     · rw [if_pos c7] at H
       have c7b0 : decide (x5_1 < (l0.length : Int)) = true := decide_eq_true c7
       clear c7
       by_cases c8 : 0 ≤ x5_1
       · rw [if_pos c8] at H
         have c8b0 : decide (0 ≤ x5_1) = true := decide_eq_true c8
         clear c8
         by_cases c9 : ((rd_T33 l0 x5_1).f0) < x283000_1
         · rw [if_pos c9] at H
           have c9b0 : decide (((rd_T33 l0 x5_1).f0) < x283000_1) = true := decide_eq_true c9
           clear c9
           have H' := Aside0.mk H
           clear H
           have p283 : 0 ≤ (x5_1 : Int) := za
           have q283 : x5_1 < (l0.length : Int) := za
           obtain ⟨ad283, e283, hx283_0, hx283_1⟩ := at_T33 HR0.out x5_1 p283 q283
           obtain rfl : ad281 = ad283 := (by injection e283)
           replace hx283_0 := zh HB hx283_0
           replace hx283_1 := zh HB hx283_1
           replace p283 := eq_true p283
           replace q283 := eq_true q283
           have hnb10 := NB282_280.out
           have hnc10 := NB280_282.out
           obtain ⟨hcz11_0, hcz11_1⟩ := zc2 BK282
           obtain ⟨hfz11_0, hfz11_1⟩ := zf2 BK282
           have p284 : 0 ≤ (x5_1 : Int) := za
           have q284 : x5_1 < (l0.length : Int) := za
           obtain ⟨ad284, e284, hx284_0, hx284_1⟩ := at_T33 HR0.out x5_1 p284 q284
           obtain rfl : ad281 = ad284 := (by injection e284)
           replace hx284_0 := zh HB hx284_0
           replace hx284_1 := zh HB hx284_1
           replace p284 := eq_true p284
           replace q284 := eq_true q284
           go_wp2
           repeat (go_quiet (fail); try go_wp2)
           go_roundg k1
           case measure => have := HK1.out; omega
           case rel => exact ⟨(wrap64 (x5_1 + 1)), ((rd_T33 l0 x5_1).f0), ((rd_T33 l0 x5_1).f1), (by first | rfl | (simp; done) | (simp [*]; done)), H', ⟨by have := HK1.out; omega⟩, ⟨by refine zL ?_; refine blk_far ?_ NB280_282.out _; refine zL ?_; refine blk_far ?_ NB280_282.out _; refine zL ?_; exact BK280.out⟩, ⟨by refine zL ?_; refine blk_put (cs := #[.int .i64 ((rd_T33 l0 x5_1).f0), .int .i64 x283001_1]) ?_ 1 _ rfl; refine zL ?_; refine blk_put (cs := #[.int .i64 x283000_1, .int .i64 x283001_1]) ?_ 0 _ rfl; refine zL ?_; exact BK282.out⟩, ⟨zB HB⟩⟩
         · rw [if_neg c9] at H
           have c9b0 : decide (((rd_T33 l0 x5_1).f0) < x283000_1) = false := decide_eq_false c9
           clear c9
           have H' := Aside0.mk H
           clear H
           have p283 : 0 ≤ (x5_1 : Int) := za
           have q283 : x5_1 < (l0.length : Int) := za
           obtain ⟨ad283, e283, hx283_0, hx283_1⟩ := at_T33 HR0.out x5_1 p283 q283
           obtain rfl : ad281 = ad283 := (by injection e283)
           replace hx283_0 := zh HB hx283_0
           replace hx283_1 := zh HB hx283_1
           replace p283 := eq_true p283
           replace q283 := eq_true q283
           have hnb12 := NB282_280.out
           have hnc12 := NB280_282.out
           obtain ⟨hcz13_0, hcz13_1⟩ := zc2 BK282
           obtain ⟨hfz13_0, hfz13_1⟩ := zf2 BK282
           go_wp2
           repeat (go_quiet (fail); try go_wp2)
           go_roundg k1
           case measure => have := HK1.out; omega
           case rel => exact ⟨(wrap64 (x5_1 + 1)), (x283000_1), (x283001_1), (by first | rfl | (simp; done) | (simp [*]; done)), H', ⟨by have := HK1.out; omega⟩, ⟨zK BK280⟩, ⟨zK BK282⟩, ⟨zB HB⟩⟩
       · rw [if_neg c8] at H
         exact absurd H (by simp)
     · rw [if_neg c7] at H
       have c7b0 : decide (x5_1 < (l0.length : Int)) = false := decide_eq_false c7
       clear c7
       have H' := Aside0.mk H
       clear H
       go_wp2
       repeat (go_quiet (fail); try go_wp2)
       go_loopg [6] k1 (fun kq v6 w' => ∃ (x6_2 : Bool) (x283001_2 : Int), v6 = .bool x6_2 ∧ Aside0 (intrusionref05_least.l1 kq l0 x6_2 x283000_1 x283001_2 = some (r1, r2, r3)) ∧ Aside0 (kq ≤ k1) ∧ Aside0 (w'.heap[gb280]? = some (.cells #[.int .i64 0, .int .i64 0] 33 (0, 0))) ∧ Aside0 (w'.heap[gb282]? = some (.cells #[.int .i64 x283000_1, .int .i64 x283001_2] 33 (0, 0))) ∧ Aside0 (Below w.heap.size w w'))
       case atStart => exact ⟨(true), (x283001_1), (by first | rfl | (simp; done) | (simp [*]; done)), H', ⟨Nat.le_refl _⟩, ⟨zK BK280⟩, ⟨zK BK282⟩, ⟨zB HB⟩⟩
       case round =>
        clear H'
        try clear c1
        try clear c2
        try clear c2b0
        try clear c2b1
        try clear p2
        try clear q2
        try clear hx2
        try clear qi2
        try clear c5
        try clear p6
        try clear c7
        try clear c7b0
        try clear c8
        try clear c8b0
        try clear c9
        try clear c9b0
        try clear c10
        try clear c12
        try clear hcz11_0
        try clear hcz11_1
        try clear hcz13_0
        try clear hcz13_1
        try clear hcz6_0
        try clear hcz6_1
        try clear hfz11_0
        try clear hfz11_1
        try clear hfz13_0
        try clear hfz13_1
        try clear hfz6_0
        try clear hfz6_1
        try clear hx281_0
        try clear hx281_1
        try clear hx283_0
        try clear hx283_1
        try clear hx284_0
        try clear hx284_1
        try clear p2
        try clear p281
        try clear p283
        try clear p284
        try clear q2
        try clear q281
        try clear q283
        try clear q284
        obtain ⟨x6_2, x283001_2, rfl, HA, HK2, BK280, BK282, HB⟩ := hrel
        cases gk with
        | zero => exact absurd HA.out (by simp [intrusionref05_least.l1])
        | succ k2 =>
         have H := HA.out
         clear HA
         simp only [intrusionref05_least.l1] at H
         by_cases c14 : x6_2 = true
         · subst c14
           rw [if_pos rfl] at H
           have H' := Aside0.mk H
           clear H
           go_wp2
           repeat (go_quiet (fail); try go_wp2)
           go_loopg [6, 7] k2 (fun kq v6 v7 w' => ∃ (x6_3 : Bool) (x7_3 : Int) (x283001_3 : Int), v6 = .bool x6_3 ∧ v7 = .int .i64 x7_3 ∧ Aside0 (intrusionref05_least.l2 kq l0 x6_3 x7_3 x283000_1 x283001_3 = some (r1, r2, r3)) ∧ Aside0 (kq ≤ k2) ∧ Aside0 (w'.heap[gb280]? = some (.cells #[.int .i64 0, .int .i64 0] 33 (0, 0))) ∧ Aside0 (w'.heap[gb282]? = some (.cells #[.int .i64 x283000_1, .int .i64 x283001_3] 33 (0, 0))) ∧ Aside0 (Below w.heap.size w w'))
           case atStart => exact ⟨(false), (0), (x283001_2), (by first | rfl | (simp; done) | (simp [*]; done)), (by first | rfl | (simp; done) | (simp [*]; done)), H', ⟨Nat.le_refl _⟩, ⟨zK BK280⟩, ⟨zK BK282⟩, ⟨zB HB⟩⟩
           case round =>
            clear H'
            try clear c1
            try clear c2
            try clear c2b0
            try clear c2b1
            try clear p2
            try clear q2
            try clear hx2
            try clear qi2
            try clear c5
            try clear p6
            try clear c7
            try clear c7b0
            try clear c8
            try clear c8b0
            try clear c9
            try clear c9b0
            try clear c10
            try clear c12
            try clear c14
            try clear hcz11_0
            try clear hcz11_1
            try clear hcz13_0
            try clear hcz13_1
            try clear hcz6_0
            try clear hcz6_1
            try clear hfz11_0
            try clear hfz11_1
            try clear hfz13_0
            try clear hfz13_1
            try clear hfz6_0
            try clear hfz6_1
            try clear hx281_0
            try clear hx281_1
            try clear hx283_0
            try clear hx283_1
            try clear hx284_0
            try clear hx284_1
            try clear p2
            try clear p281
            try clear p283
            try clear p284
            try clear p6
            try clear q2
            try clear q281
            try clear q283
            try clear q284
            obtain ⟨x6_3, x7_3, x283001_3, rfl, rfl, HA, HK3, BK280, BK282, HB⟩ := hrel
            cases gk with
            | zero => exact absurd HA.out (by simp [intrusionref05_least.l2])
            | succ k3 =>
             have H := HA.out
             clear HA
             simp only [intrusionref05_least.l2] at H
             by_cases c15 : x7_3 < (l0.length : Int)
             · rw [if_pos c15] at H
               have c15b0 : decide (x7_3 < (l0.length : Int)) = true := decide_eq_true c15
               clear c15
               by_cases c16 : 0 ≤ x7_3
               · rw [if_pos c16] at H
                 have c16b0 : decide (0 ≤ x7_3) = true := decide_eq_true c16
                 clear c16
                 by_cases c17 : ((rd_T33 l0 x7_3).f0) ≤ (wrap64 (x283001_3 + 1))
                 · rw [if_pos c17] at H
                   have c17b0 : decide (((rd_T33 l0 x7_3).f0) ≤ (wrap64 (x283001_3 + 1))) = true := decide_eq_true c17
                   clear c17
                   by_cases c18 : ((rd_T33 l0 x7_3).f1) > x283001_3
                   · rw [if_pos c18] at H
                     have c18b0 : decide (x283001_3 < ((rd_T33 l0 x7_3).f1)) = true := decide_eq_true c18
                     clear c18
                     have H' := Aside0.mk H
                     clear H
                     have p285 : 0 ≤ (x7_3 : Int) := za
                     have q285 : x7_3 < (l0.length : Int) := za
                     obtain ⟨ad285, e285, hx285_0, hx285_1⟩ := at_T33 HR0.out x7_3 p285 q285
                     obtain rfl : ad281 = ad285 := (by injection e285)
                     replace hx285_0 := zh HB hx285_0
                     replace hx285_1 := zh HB hx285_1
                     replace p285 := eq_true p285
                     replace q285 := eq_true q285
                     have hnb19 := NB282_280.out
                     have hnc19 := NB280_282.out
                     obtain ⟨hcz20_0, hcz20_1⟩ := zc2 BK282
                     obtain ⟨hfz20_0, hfz20_1⟩ := zf2 BK282
                     have p286 : 0 ≤ (x7_3 : Int) := za
                     have q286 : x7_3 < (l0.length : Int) := za
                     obtain ⟨ad286, e286, hx286_0, hx286_1⟩ := at_T33 HR0.out x7_3 p286 q286
                     obtain rfl : ad281 = ad286 := (by injection e286)
                     replace hx286_0 := zh HB hx286_0
                     replace hx286_1 := zh HB hx286_1
                     replace p286 := eq_true p286
                     replace q286 := eq_true q286
                     have p287 : 0 ≤ (x7_3 : Int) := za
                     have q287 : x7_3 < (l0.length : Int) := za
                     obtain ⟨ad287, e287, hx287_0, hx287_1⟩ := at_T33 HR0.out x7_3 p287 q287
                     obtain rfl : ad281 = ad287 := (by injection e287)
                     replace hx287_0 := zh HB hx287_0
                     replace hx287_1 := zh HB hx287_1
                     replace p287 := eq_true p287
                     replace q287 := eq_true q287
                     go_wp2
                     repeat (go_quiet (fail); try go_wp2)
                     go_roundg k3
                     case measure => have := HK1.out; have := HK2.out; have := HK3.out; omega
                     case rel => exact ⟨(true), (wrap64 (x7_3 + 1)), ((rd_T33 l0 x7_3).f1), (by first | rfl | (simp; done) | (simp [*]; done)), (by first | rfl | (simp; done) | (simp [*]; done)), H', ⟨by have := HK1.out; have := HK2.out; have := HK3.out; omega⟩, ⟨by refine zL ?_; refine blk_far ?_ NB280_282.out _; refine zL ?_; exact BK280.out⟩, ⟨by refine zL ?_; refine blk_put (cs := #[.int .i64 x283000_1, .int .i64 x283001_3]) ?_ 1 _ rfl; refine zL ?_; exact BK282.out⟩, ⟨zB HB⟩⟩
                   · rw [if_neg c18] at H
                     have c18b0 : decide (x283001_3 < ((rd_T33 l0 x7_3).f1)) = false := decide_eq_false c18
                     clear c18
                     have H' := Aside0.mk H
                     clear H
                     have p285 : 0 ≤ (x7_3 : Int) := za
                     have q285 : x7_3 < (l0.length : Int) := za
                     obtain ⟨ad285, e285, hx285_0, hx285_1⟩ := at_T33 HR0.out x7_3 p285 q285
                     obtain rfl : ad281 = ad285 := (by injection e285)
                     replace hx285_0 := zh HB hx285_0
                     replace hx285_1 := zh HB hx285_1
                     replace p285 := eq_true p285
                     replace q285 := eq_true q285
                     have hnb21 := NB282_280.out
                     have hnc21 := NB280_282.out
                     obtain ⟨hcz22_0, hcz22_1⟩ := zc2 BK282
                     obtain ⟨hfz22_0, hfz22_1⟩ := zf2 BK282
                     have p286 : 0 ≤ (x7_3 : Int) := za
                     have q286 : x7_3 < (l0.length : Int) := za
                     obtain ⟨ad286, e286, hx286_0, hx286_1⟩ := at_T33 HR0.out x7_3 p286 q286
                     obtain rfl : ad281 = ad286 := (by injection e286)
                     replace hx286_0 := zh HB hx286_0
                     replace hx286_1 := zh HB hx286_1
                     replace p286 := eq_true p286
                     replace q286 := eq_true q286
                     go_wp2
                     repeat (go_quiet (fail); try go_wp2)
                     go_roundg k3
                     case measure => have := HK1.out; have := HK2.out; have := HK3.out; omega
                     case rel => exact ⟨(x6_3), (wrap64 (x7_3 + 1)), (x283001_3), (by first | rfl | (simp; done) | (simp [*]; done)), (by first | rfl | (simp; done) | (simp [*]; done)), H', ⟨by have := HK1.out; have := HK2.out; have := HK3.out; omega⟩, ⟨zK BK280⟩, ⟨zK BK282⟩, ⟨zB HB⟩⟩
                 · rw [if_neg c17] at H
                   have c17b0 : decide (((rd_T33 l0 x7_3).f0) ≤ (wrap64 (x283001_3 + 1))) = false := decide_eq_false c17
                   clear c17
                   have H' := Aside0.mk H
                   clear H
                   have p285 : 0 ≤ (x7_3 : Int) := za
                   have q285 : x7_3 < (l0.length : Int) := za
                   obtain ⟨ad285, e285, hx285_0, hx285_1⟩ := at_T33 HR0.out x7_3 p285 q285
                   obtain rfl : ad281 = ad285 := (by injection e285)
                   replace hx285_0 := zh HB hx285_0
                   replace hx285_1 := zh HB hx285_1
                   replace p285 := eq_true p285
                   replace q285 := eq_true q285
                   have hnb23 := NB282_280.out
                   have hnc23 := NB280_282.out
                   obtain ⟨hcz24_0, hcz24_1⟩ := zc2 BK282
                   obtain ⟨hfz24_0, hfz24_1⟩ := zf2 BK282
                   go_wp2
                   repeat (go_quiet (fail); try go_wp2)
                   go_roundg k3
                   case measure => have := HK1.out; have := HK2.out; have := HK3.out; omega
                   case rel => exact ⟨(x6_3), (wrap64 (x7_3 + 1)), (x283001_3), (by first | rfl | (simp; done) | (simp [*]; done)), (by first | rfl | (simp; done) | (simp [*]; done)), H', ⟨by have := HK1.out; have := HK2.out; have := HK3.out; omega⟩, ⟨zK BK280⟩, ⟨zK BK282⟩, ⟨zB HB⟩⟩
               · rw [if_neg c16] at H
                 exact absurd H (by simp)
             · rw [if_neg c15] at H
               have c15b0 : decide (x7_3 < (l0.length : Int)) = false := decide_eq_false c15
               clear c15
               have H' := Aside0.mk H
               clear H
               go_wp2
               repeat (go_quiet (fail); try go_wp2)
               go_roundg k3
               case measure => have := HK1.out; have := HK2.out; have := HK3.out; omega
               case rel => exact ⟨(x6_3), (x283001_3), (by first | rfl | (simp; done) | (simp [*]; done)), H', ⟨by have := HK1.out; have := HK2.out; have := HK3.out; omega⟩, ⟨zK BK280⟩, ⟨zK BK282⟩, ⟨zB HB⟩⟩
         · replace c14 := Bool.eq_false_iff.mpr c14
           subst c14
           rw [if_neg zF] at H
           obtain ⟨y288, hy288⟩ : ∃ y_ : List (S33), y_ = (([] : List (S33))) := ⟨_, rfl⟩
           rw [← hy288] at H; try dsimp only [Option.bind_some] at H
           have Ny288 := Aside0.mk hy288
           clear hy288
           have H' := Aside0.mk H
           clear H
           go_wp2_with (first | ((with_reducible refine gate_dst (N := 63) rfl ?_); refine Kd.R_lit k33 _ 33 ?hg (N := 63) ?hd (xs := ([] : List (S33))) (inner := []) (ok := fun _ => True) (okp := fun _ => True) ?hr ?hp (fun _ hk => hk) trivial (Below.refl _ _) (Nat.le_refl _) (by simp) ?_; (case hd => rfl); (case hg => rfl); (case hr => first | (go_simp; done) | (go_simp; rfl)); (case hp => exact (Reps.none _ _)); intro v289 w25 ho26 hb hg_ hnew_; clear hg_ hnew_; (first | rw [← Ny288.out] at ho26 | (simp only [Int.reduceToNat] at ho26; rw [← Ny288.out] at ho26)); have HO290 := Aside0.mk (Kd.R_lower (Kd.R_newB (Kd.R_newB ho26 (g := gb280) (o := .cells #[.int .i64 0, .int .i64 0] 33 (0, 0)) (zK BK280)) (g := gb282) (o := .cells #[.int .i64 x283000_1, .int .i64 x283001_2] 33 (0, 0)) (zK BK282)) (below_size (zB HB))); replace BK280 := Aside0.mk (blk_below (g := gb280) (o := .cells #[.int .i64 0, .int .i64 0] 33 (0, 0)) (zK BK280) hb); replace BK282 := Aside0.mk (blk_below (g := gb282) (o := .cells #[.int .i64 x283000_1, .int .i64 x283001_2] 33 (0, 0)) (zK BK282) hb); replace HB := Aside0.mk (below_step (zB HB) hb); clear hb ho26))
           repeat (go_quiet (first | ((with_reducible refine gate_dst (N := 63) rfl ?_); refine Kd.R_lit k33 _ 33 ?hg (N := 63) ?hd (xs := ([] : List (S33))) (inner := []) (ok := fun _ => True) (okp := fun _ => True) ?hr ?hp (fun _ hk => hk) trivial (Below.refl _ _) (Nat.le_refl _) (by simp) ?_; (case hd => rfl); (case hg => rfl); (case hr => first | (go_simp; done) | (go_simp; rfl)); (case hp => exact (Reps.none _ _)); intro v289 w25 ho26 hb hg_ hnew_; clear hg_ hnew_; (first | rw [← Ny288.out] at ho26 | (simp only [Int.reduceToNat] at ho26; rw [← Ny288.out] at ho26)); have HO290 := Aside0.mk (Kd.R_lower (Kd.R_newB (Kd.R_newB ho26 (g := gb280) (o := .cells #[.int .i64 0, .int .i64 0] 33 (0, 0)) (zK BK280)) (g := gb282) (o := .cells #[.int .i64 x283000_1, .int .i64 x283001_2] 33 (0, 0)) (zK BK282)) (below_size (zB HB))); replace BK280 := Aside0.mk (blk_below (g := gb280) (o := .cells #[.int .i64 0, .int .i64 0] 33 (0, 0)) (zK BK280) hb); replace BK282 := Aside0.mk (blk_below (g := gb282) (o := .cells #[.int .i64 x283000_1, .int .i64 x283001_2] 33 (0, 0)) (zK BK282) hb); replace HB := Aside0.mk (below_step (zB HB) hb); clear hb ho26)); try go_wp2_with (first | ((with_reducible refine gate_dst (N := 63) rfl ?_); refine Kd.R_lit k33 _ 33 ?hg (N := 63) ?hd (xs := ([] : List (S33))) (inner := []) (ok := fun _ => True) (okp := fun _ => True) ?hr ?hp (fun _ hk => hk) trivial (Below.refl _ _) (Nat.le_refl _) (by simp) ?_; (case hd => rfl); (case hg => rfl); (case hr => first | (go_simp; done) | (go_simp; rfl)); (case hp => exact (Reps.none _ _)); intro v289 w25 ho26 hb hg_ hnew_; clear hg_ hnew_; (first | rw [← Ny288.out] at ho26 | (simp only [Int.reduceToNat] at ho26; rw [← Ny288.out] at ho26)); have HO290 := Aside0.mk (Kd.R_lower (Kd.R_newB (Kd.R_newB ho26 (g := gb280) (o := .cells #[.int .i64 0, .int .i64 0] 33 (0, 0)) (zK BK280)) (g := gb282) (o := .cells #[.int .i64 x283000_1, .int .i64 x283001_2] 33 (0, 0)) (zK BK282)) (below_size (zB HB))); replace BK280 := Aside0.mk (blk_below (g := gb280) (o := .cells #[.int .i64 0, .int .i64 0] 33 (0, 0)) (zK BK280) hb); replace BK282 := Aside0.mk (blk_below (g := gb282) (o := .cells #[.int .i64 x283000_1, .int .i64 x283001_2] 33 (0, 0)) (zK BK282) hb); replace HB := Aside0.mk (below_step (zB HB) hb); clear hb ho26)))
           go_loopg [8, 9] k2 (fun kq v8 v9 w' => ∃ (x8_3 : List (S33)) (x9_3 : Int), v9 = .int .i64 x9_3 ∧ Aside0 (intrusionref05_least.l3 kq l0 x8_3 x9_3 x283000_1 x283001_2 = some (r1, r2, r3)) ∧ Aside0 (kq ≤ k2) ∧ Aside0 (Kd.R k33 33 w' w.heap.size (fun k_ => k_ ≠ gb280 ∧ k_ ≠ gb282) v8 x8_3) ∧ Aside0 (w'.heap[gb280]? = some (.cells #[.int .i64 0, .int .i64 0] 33 (0, 0))) ∧ Aside0 (w'.heap[gb282]? = some (.cells #[.int .i64 x283000_1, .int .i64 x283001_2] 33 (0, 0))) ∧ Aside0 (Below w.heap.size w w'))
           case atStart => exact ⟨(y288), (0), (by first | rfl | (simp; done) | (simp [*]; done)), H', ⟨Nat.le_refl _⟩, ⟨by (with_reducible repeat (first | apply Kd.R_alloc | apply Kd.R_drewN | apply Kd.R_drew)); exact Kd.R_mono HO290.out (fun _ hk => ⟨hk.1.2, hk.2⟩)⟩, ⟨zK BK280⟩, ⟨zK BK282⟩, ⟨zB HB⟩⟩
           case round =>
            clear H'
            try clear c1
            try clear c2
            try clear c2b0
            try clear c2b1
            try clear p2
            try clear q2
            try clear hx2
            try clear qi2
            try clear c5
            try clear p6
            try clear c7
            try clear c7b0
            try clear c8
            try clear c8b0
            try clear c9
            try clear c9b0
            try clear c10
            try clear c12
            try clear c14
            try clear c15
            try clear c15b0
            try clear c16
            try clear c16b0
            try clear c17
            try clear c17b0
            try clear c18
            try clear c18b0
            try clear c19
            try clear c21
            try clear c23
            try clear hcz11_0
            try clear hcz11_1
            try clear hcz13_0
            try clear hcz13_1
            try clear hcz20_0
            try clear hcz20_1
            try clear hcz22_0
            try clear hcz22_1
            try clear hcz24_0
            try clear hcz24_1
            try clear hcz6_0
            try clear hcz6_1
            try clear hfz11_0
            try clear hfz11_1
            try clear hfz13_0
            try clear hfz13_1
            try clear hfz20_0
            try clear hfz20_1
            try clear hfz22_0
            try clear hfz22_1
            try clear hfz24_0
            try clear hfz24_1
            try clear hfz6_0
            try clear hfz6_1
            try clear hx281_0
            try clear hx281_1
            try clear hx283_0
            try clear hx283_1
            try clear hx284_0
            try clear hx284_1
            try clear hx285_0
            try clear hx285_1
            try clear hx286_0
            try clear hx286_1
            try clear hx287_0
            try clear hx287_1
            try clear p2
            try clear p281
            try clear p283
            try clear p284
            try clear p285
            try clear p286
            try clear p287
            try clear p6
            try clear q2
            try clear q281
            try clear q283
            try clear q284
            try clear q285
            try clear q286
            try clear q287
            obtain ⟨x8_3, x9_3, rfl, HA, HK3, HO_8, BK280, BK282, HB⟩ := hrel
            cases gk with
            | zero => exact absurd HA.out (by simp [intrusionref05_least.l3])
            | succ k3 =>
             have H := HA.out
             clear HA
             simp only [intrusionref05_least.l3] at H
             by_cases c27 : x9_3 < (l0.length : Int)
             · rw [if_pos c27] at H
               have c27b0 : decide (x9_3 < (l0.length : Int)) = true := decide_eq_true c27
               clear c27
               by_cases c28 : 0 ≤ x9_3
               · rw [if_pos c28] at H
                 have c28b0 : decide (0 ≤ x9_3) = true := decide_eq_true c28
                 clear c28
                 by_cases c29 : ((rd_T33 l0 x9_3).f0) > x283001_2
                 · rw [if_pos c29] at H
                   have c29b0 : decide (x283001_2 < ((rd_T33 l0 x9_3).f0)) = true := decide_eq_true c29
                   clear c29
                   by_cases c30 : x8_3.length < 8796093022208
                   · rw [if_pos c30] at H
                     have LMc30 := Aside0.mk c30
                     clear c30
                     obtain ⟨y293, hy293⟩ : ∃ y_ : List (S33), y_ = (x8_3 ++ [(⟨(rd_T33 l0 x9_3).f0, (rd_T33 l0 x9_3).f1⟩ : S33)]) := ⟨_, rfl⟩
                     rw [← hy293] at H; try dsimp only [Option.bind_some] at H
                     have Ny293 := Aside0.mk hy293
                     clear hy293
                     have H' := Aside0.mk H
                     clear H
                     have p291 : 0 ≤ (x9_3 : Int) := za
                     have q291 : x9_3 < (l0.length : Int) := za
                     obtain ⟨ad291, e291, hx291_0, hx291_1⟩ := at_T33 HR0.out x9_3 p291 q291
                     obtain rfl : ad281 = ad291 := (by injection e291)
                     replace hx291_0 := zh HB hx291_0
                     replace hx291_1 := zh HB hx291_1
                     replace p291 := eq_true p291
                     replace q291 := eq_true q291
                     have hnb31 := NB282_280.out
                     have hnc31 := NB280_282.out
                     obtain ⟨hcz32_0, hcz32_1⟩ := zc2 BK282
                     obtain ⟨hfz32_0, hfz32_1⟩ := zf2 BK282
                     have p292 : 0 ≤ (x9_3 : Int) := za
                     have q292 : x9_3 < (l0.length : Int) := za
                     obtain ⟨ad292, e292, hx292_0, hx292_1⟩ := at_T33 HR0.out x9_3 p292 q292
                     obtain rfl : ad281 = ad292 := (by injection e292)
                     replace hx292_0 := zh HB hx292_0
                     replace hx292_1 := zh HB hx292_1
                     replace p292 := eq_true p292
                     replace q292 := eq_true q292
                     go_wp2_with (first | ((with_reducible refine gate_builtin (b := .append) (xs := #[.tmp 78, .tmp 83]) rfl ?_); at_builtin; refine Kd.R_append k33 (w0 := w) w.heap.size rfl (.tmp 78) (.tmp 83) 23 33 (.agg #[(.int .i64 0), (.int .i64 0)]) 16 rfl Tryd.underlying23 info33 rfl (by decide) (by omega) u8 x8_3 (⟨(rd_T33 l0 x9_3).f0, (rd_T33 l0 x9_3).f1⟩ : S33) [.int .i64 ((rd_T33 l0 x9_3).f0), .int .i64 ((rd_T33 l0 x9_3).f1)] (fun k_ => k_ ≠ gb280 ∧ k_ ≠ gb282) (fun _ => False) rfl rfl ?aP (fun _ hk => hk.elim) ?aF ?aO ?aB ?aS ?aL ?_; (case aP => exact k33_mkM _ _ _ (⟨(rd_T33 l0 x9_3).f0, (rd_T33 l0 x9_3).f1⟩ : S33)); (case aB => exact (zB HB)); (case aF => exact (fun k_ hk => ⟨Kd.freshB (g := gb280) (o := .cells #[.int .i64 0, .int .i64 0] 33 (0, 0)) (zK BK280) k_ hk, Kd.freshB (g := gb282) (o := .cells #[.int .i64 x283000_1, .int .i64 x283001_2] 33 (0, 0)) (zK BK282) k_ hk⟩)); (case aO => exact (zR HO_8)); (case aS => exact (below_size (zB HB))); (case aL => have := LMc30.out; omega); intro v294 w33 ho hb hg hat; rw [← Ny293.out] at ho; replace BK280 := Aside0.mk (blk_grown (g := gb280) (o := .cells #[.int .i64 0, .int .i64 0] 33 (0, 0)) (zK BK280) hg (Kd.R_away HO_8.out (fun _ hk => hk.1))); replace BK282 := Aside0.mk (blk_grown (g := gb282) (o := .cells #[.int .i64 x283000_1, .int .i64 x283001_2] 33 (0, 0)) (zK BK282) hg (Kd.R_away HO_8.out (fun _ hk => hk.2))); replace HB := Aside0.mk (hb); have HO295 := Aside0.mk (ho); clear HO_8; clear ho hb hg hat))
                     repeat (go_quiet (first | ((with_reducible refine gate_builtin (b := .append) (xs := #[.tmp 78, .tmp 83]) rfl ?_); at_builtin; refine Kd.R_append k33 (w0 := w) w.heap.size rfl (.tmp 78) (.tmp 83) 23 33 (.agg #[(.int .i64 0), (.int .i64 0)]) 16 rfl Tryd.underlying23 info33 rfl (by decide) (by omega) u8 x8_3 (⟨(rd_T33 l0 x9_3).f0, (rd_T33 l0 x9_3).f1⟩ : S33) [.int .i64 ((rd_T33 l0 x9_3).f0), .int .i64 ((rd_T33 l0 x9_3).f1)] (fun k_ => k_ ≠ gb280 ∧ k_ ≠ gb282) (fun _ => False) rfl rfl ?aP (fun _ hk => hk.elim) ?aF ?aO ?aB ?aS ?aL ?_; (case aP => exact k33_mkM _ _ _ (⟨(rd_T33 l0 x9_3).f0, (rd_T33 l0 x9_3).f1⟩ : S33)); (case aB => exact (zB HB)); (case aF => exact (fun k_ hk => ⟨Kd.freshB (g := gb280) (o := .cells #[.int .i64 0, .int .i64 0] 33 (0, 0)) (zK BK280) k_ hk, Kd.freshB (g := gb282) (o := .cells #[.int .i64 x283000_1, .int .i64 x283001_2] 33 (0, 0)) (zK BK282) k_ hk⟩)); (case aO => exact (zR HO_8)); (case aS => exact (below_size (zB HB))); (case aL => have := LMc30.out; omega); intro v294 w33 ho hb hg hat; rw [← Ny293.out] at ho; replace BK280 := Aside0.mk (blk_grown (g := gb280) (o := .cells #[.int .i64 0, .int .i64 0] 33 (0, 0)) (zK BK280) hg (Kd.R_away HO_8.out (fun _ hk => hk.1))); replace BK282 := Aside0.mk (blk_grown (g := gb282) (o := .cells #[.int .i64 x283000_1, .int .i64 x283001_2] 33 (0, 0)) (zK BK282) hg (Kd.R_away HO_8.out (fun _ hk => hk.2))); replace HB := Aside0.mk (hb); have HO295 := Aside0.mk (ho); clear HO_8; clear ho hb hg hat)); try go_wp2_with (first | ((with_reducible refine gate_builtin (b := .append) (xs := #[.tmp 78, .tmp 83]) rfl ?_); at_builtin; refine Kd.R_append k33 (w0 := w) w.heap.size rfl (.tmp 78) (.tmp 83) 23 33 (.agg #[(.int .i64 0), (.int .i64 0)]) 16 rfl Tryd.underlying23 info33 rfl (by decide) (by omega) u8 x8_3 (⟨(rd_T33 l0 x9_3).f0, (rd_T33 l0 x9_3).f1⟩ : S33) [.int .i64 ((rd_T33 l0 x9_3).f0), .int .i64 ((rd_T33 l0 x9_3).f1)] (fun k_ => k_ ≠ gb280 ∧ k_ ≠ gb282) (fun _ => False) rfl rfl ?aP (fun _ hk => hk.elim) ?aF ?aO ?aB ?aS ?aL ?_; (case aP => exact k33_mkM _ _ _ (⟨(rd_T33 l0 x9_3).f0, (rd_T33 l0 x9_3).f1⟩ : S33)); (case aB => exact (zB HB)); (case aF => exact (fun k_ hk => ⟨Kd.freshB (g := gb280) (o := .cells #[.int .i64 0, .int .i64 0] 33 (0, 0)) (zK BK280) k_ hk, Kd.freshB (g := gb282) (o := .cells #[.int .i64 x283000_1, .int .i64 x283001_2] 33 (0, 0)) (zK BK282) k_ hk⟩)); (case aO => exact (zR HO_8)); (case aS => exact (below_size (zB HB))); (case aL => have := LMc30.out; omega); intro v294 w33 ho hb hg hat; rw [← Ny293.out] at ho; replace BK280 := Aside0.mk (blk_grown (g := gb280) (o := .cells #[.int .i64 0, .int .i64 0] 33 (0, 0)) (zK BK280) hg (Kd.R_away HO_8.out (fun _ hk => hk.1))); replace BK282 := Aside0.mk (blk_grown (g := gb282) (o := .cells #[.int .i64 x283000_1, .int .i64 x283001_2] 33 (0, 0)) (zK BK282) hg (Kd.R_away HO_8.out (fun _ hk => hk.2))); replace HB := Aside0.mk (hb); have HO295 := Aside0.mk (ho); clear HO_8; clear ho hb hg hat)))
                     go_roundg k3
                     case measure => have := HK1.out; have := HK2.out; have := HK3.out; omega
                     case rel => exact ⟨(y293), (wrap64 (x9_3 + 1)), (by first | rfl | (simp; done) | (simp [*]; done)), H', ⟨by have := HK1.out; have := HK2.out; have := HK3.out; omega⟩, ⟨zR HO295⟩, ⟨zK BK280⟩, ⟨zK BK282⟩, ⟨zB HB⟩⟩
                   · rw [if_neg c30] at H
                     exact absurd H (by simp)
                 · rw [if_neg c29] at H
                   have c29b0 : decide (x283001_2 < ((rd_T33 l0 x9_3).f0)) = false := decide_eq_false c29
                   clear c29
                   have H' := Aside0.mk H
                   clear H
                   have p291 : 0 ≤ (x9_3 : Int) := za
                   have q291 : x9_3 < (l0.length : Int) := za
                   obtain ⟨ad291, e291, hx291_0, hx291_1⟩ := at_T33 HR0.out x9_3 p291 q291
                   obtain rfl : ad281 = ad291 := (by injection e291)
                   replace hx291_0 := zh HB hx291_0
                   replace hx291_1 := zh HB hx291_1
                   replace p291 := eq_true p291
                   replace q291 := eq_true q291
                   have hnb34 := NB282_280.out
                   have hnc34 := NB280_282.out
                   obtain ⟨hcz35_0, hcz35_1⟩ := zc2 BK282
                   obtain ⟨hfz35_0, hfz35_1⟩ := zf2 BK282
                   go_wp2
                   repeat (go_quiet (fail); try go_wp2)
                   go_roundg k3
                   case measure => have := HK1.out; have := HK2.out; have := HK3.out; omega
                   case rel => exact ⟨(x8_3), (wrap64 (x9_3 + 1)), (by first | rfl | (simp; done) | (simp [*]; done)), H', ⟨by have := HK1.out; have := HK2.out; have := HK3.out; omega⟩, ⟨zR HO_8⟩, ⟨zK BK280⟩, ⟨zK BK282⟩, ⟨zB HB⟩⟩
               · rw [if_neg c28] at H
                 exact absurd H (by simp)
             · rw [if_neg c27] at H
               have c27b0 : decide (x9_3 < (l0.length : Int)) = false := decide_eq_false c27
               clear c27
               simp only [Option.some.injEq, Prod.mk.injEq] at H
               obtain ⟨rfl, rfl, rfl⟩ := H
               have hnb36 := NB282_280.out
               have hnc36 := NB280_282.out
               obtain ⟨hcz37_0, hcz37_1⟩ := zc2 BK282
               obtain ⟨hfz37_0, hfz37_1⟩ := zf2 BK282
               obtain ⟨hcz38_0, hcz38_1⟩ := zc2 BK280
               obtain ⟨hfz38_0, hfz38_1⟩ := zf2 BK280
               go_wp2
               repeat (go_quiet (fail); try go_wp2)
               refine bodyPost_ret (results_ct rfl _ _ gb280 33 #[.int .i64 x283000_1, .int .i64 x283001_2] (0, 0) _ rfl (by refine zL ?_; refine blk_put (cs := #[.int .i64 x283000_1, .int .i64 0]) ?_ 1 _ rfl; refine zL ?_; refine blk_put (cs := #[.int .i64 0, .int .i64 0]) ?_ 0 _ rfl; refine zL ?_; exact BK280.out) Tryd.underlying33 rfl (by kernel_rfl)) rfl ?_
               exact ⟨_, by first | rfl | (simp [errW_none, errW_some] <;> rfl) | (simp [*, errW_none, errW_some] <;> rfl), by (with_reducible repeat (first | apply Kd.R_alloc | apply Kd.R_drewN | apply Kd.R_drew)); exact Kd.R_mono (Kd.R_far (p := ⟨gb280, 1, none⟩) (Kd.R_far (p := ⟨gb280, 0, none⟩) (Kd.R_mono HO_8.out (fun k_ hk => (⟨hk, hk.1⟩ : _ ∧ k_ ≠ gb280))) (fun _ hk => hk.2) (.int .i64 x283000_1)) (fun _ hk => hk.2) (.int .i64 x283001_2)) (fun _ hk => trivial), by repeat (first | (with_reducible first | exact HB.out | apply below_alloc | apply pw_below_drewN | apply below_drew1 | refine below_set ?_ GE280.out | refine below_set ?_ GE282.out) | exact HB.out)⟩
 · rw [if_neg c2] at H
   exact absurd H (by simp)
end Go.Proofs.YtbimdjciacnioaaDoor.Q
end

section
namespace Go.Proofs.YtbimdjciacnioaaDoor.Q
open Go.RowKit Go.Proofs.YtbimdjciacnioaaDoorW.PrintWords Go.Proofs.YtbimdjciacnioaaDoorW.PrintLast Go.Proofs.YtbimdjciacnioaaDoorW.PrintMore
attribute [local go_sem] max2_int min2_int max_two min_two max_three min_three max_four min_four
set_option linter.unusedVariables false
set_option linter.unusedSimpArgs false
mutual
def intrusionref05_Normal.l0 : Nat → List (S33) → List (S33) → Int → Option ((List (S33)))
  | 0, _, _, _ => none
  | k + 1, x0, x3, x4 => if x4 < (x0.length : Int) then (if 0 ≤ x4 then ((intrusionref05_cut.f ((rd_T33 x0 x4).f0) ((rd_T33 x0 x4).f1) 0 4294967296).bind fun bt300 => (if bt300.2.2 = true then (if x3.length < 8796093022208 then (intrusionref05_Normal.l0 k x0 (x3 ++ [(⟨bt300.1, bt300.2.1⟩ : S33)]) (wrap64 (x4 + 1))) else (none)) else (intrusionref05_Normal.l0 k x0 x3 (wrap64 (x4 + 1))))) else (none)) else (intrusionref05_Normal.l1 k x3 (([] : List (S33))))
def intrusionref05_Normal.l1 : Nat → List (S33) → List (S33) → Option ((List (S33)))
  | 0, _, _ => none
  | k + 1, x3, x7 => if (x3.length : Int) > 0 then ((intrusionref05_least.f k x3).bind fun bt310 => (if x7.length < 8796093022208 then (intrusionref05_Normal.l1 k bt310.2.2 (x7 ++ [(⟨bt310.1, bt310.2.1⟩ : S33)])) else (none))) else (some x7)
end
def intrusionref05_Normal.f (k : Nat) (l0 : List (S33)) : Option ((List (S33))) := intrusionref05_Normal.l0 k l0 (([] : List (S33))) 0
theorem intrusionref05_Normal.mono_l : ∀ k, (∀ y0 y1 y2, LeO (intrusionref05_Normal.l0 k y0 y1 y2) (intrusionref05_Normal.l0 (k + 1) y0 y1 y2)) ∧ (∀ y0 y1, LeO (intrusionref05_Normal.l1 k y0 y1) (intrusionref05_Normal.l1 (k + 1) y0 y1))
  | 0 => ⟨fun _ _ _ r h => by simp [intrusionref05_Normal.l0] at h, fun _ _ r h => by simp [intrusionref05_Normal.l1] at h⟩
  | k + 1 => by
    obtain ⟨ih0, ih1⟩ := intrusionref05_Normal.mono_l k
    refine ⟨?_, ?_⟩
    · intro y0 y1 y2
      unfold intrusionref05_Normal.l0
      repeat' first
      | (with_reducible exact ih0 _ _ _)
      | (with_reducible exact ih1 _ _)
      | (with_reducible exact intrusionref05_least.mono _ _)
      | (with_reducible exact LeO.refl _)
      | (with_reducible exact LeO.none _)
      | (with_reducible refine LeO.ite ?_ ?_)
      | (with_reducible refine LeO.bind ?_ (fun _ => ?_))
      | exact ih0 _ _ _
      | exact ih1 _ _
      | exact intrusionref05_least.mono _ _
      | exact LeO.none _
      | refine LeO.ite ?_ ?_
      | refine LeO.bind ?_ (fun _ => ?_)
    · intro y0 y1
      unfold intrusionref05_Normal.l1
      repeat' first
      | (with_reducible exact ih0 _ _ _)
      | (with_reducible exact ih1 _ _)
      | (with_reducible exact intrusionref05_least.mono _ _)
      | (with_reducible exact LeO.refl _)
      | (with_reducible exact LeO.none _)
      | (with_reducible refine LeO.ite ?_ ?_)
      | (with_reducible refine LeO.bind ?_ (fun _ => ?_))
      | exact ih0 _ _ _
      | exact ih1 _ _
      | exact intrusionref05_least.mono _ _
      | exact LeO.none _
      | refine LeO.ite ?_ ?_
      | refine LeO.bind ?_ (fun _ => ?_)
theorem intrusionref05_Normal.mono : ∀ a0 k, LeO (intrusionref05_Normal.f k a0) (intrusionref05_Normal.f (k + 1) a0) := by
  intro a0 k
  obtain ⟨ih0, ih1⟩ := intrusionref05_Normal.mono_l k
  unfold intrusionref05_Normal.f
  repeat' first
      | (with_reducible exact ih0 _ _ _)
      | (with_reducible exact ih1 _ _)
      | (with_reducible exact intrusionref05_least.mono _ _)
      | (with_reducible exact LeO.refl _)
      | (with_reducible exact LeO.none _)
      | (with_reducible refine LeO.ite ?_ ?_)
      | (with_reducible refine LeO.bind ?_ (fun _ => ?_))
      | exact ih0 _ _ _
      | exact ih1 _ _
      | exact intrusionref05_least.mono _ _
      | exact LeO.none _
      | refine LeO.ite ?_ ?_
      | refine LeO.bind ?_ (fun _ => ?_)
set_option maxHeartbeats 8000000 in
set_option maxRecDepth 100000 in
theorem intrusionref05_Normal.calls (k : Nat) (A0 : Option Addr) (c0 : Nat) (l0 : List (S33)) (r : List (S33)) (w : World) (hr0 : Kd.C k33 w A0 l0.length l0) (hc0 : l0.length ≤ c0) (h : intrusionref05_Normal.f k l0 = some r) :
 Calls Tryd.prog 67 #[.slice A0 l0.length c0] w fun e w' => ∃ v0_ : Value, e = .returned (v0_) ∧ Kd.R k33 33 w' w.heap.size (fun _ => True) v0_ r ∧ Below w.heap.size w w' := by
 have hu33 := Tryd.underlying33
 have HR0 := Aside0.mk hr0
 have HC0 := Aside0.mk hc0
 clear hr0 hc0
 have HB := Aside0.mk (Below.refl w.heap.size w)
 unfold intrusionref05_Normal.f at h; have H := h
 clear h
 obtain ⟨y296, hy296⟩ : ∃ y_ : List (S33), y_ = (([] : List (S33))) := ⟨_, rfl⟩
 rw [← hy296] at H; try dsimp only [Option.bind_some] at H
 have Ny296 := Aside0.mk hy296
 clear hy296
 have H' := Aside0.mk H
 clear H
 go_enter Tryd.func67, Tryd.ntmps67
 go_wp2_with (first | ((with_reducible refine gate_dst (N := 10) rfl ?_); refine Kd.R_lit k33 _ 33 ?hg (N := 10) ?hd (xs := ([] : List (S33))) (inner := []) (ok := fun _ => True) (okp := fun _ => True) ?hr ?hp (fun _ hk => hk) trivial (Below.refl _ _) (Nat.le_refl _) (by simp) ?_; (case hd => rfl); (case hg => rfl); (case hr => first | (go_simp; done) | (go_simp; rfl)); (case hp => exact (Reps.none _ _)); intro v297 w2 ho3 hb hg_ hnew_; clear hg_ hnew_; (first | rw [← Ny296.out] at ho3 | (simp only [Int.reduceToNat] at ho3; rw [← Ny296.out] at ho3)); have HO298 := Aside0.mk (Kd.R_lower ho3 (below_size (zB HB))); replace HB := Aside0.mk (below_step (zB HB) hb); clear hb ho3))
 go_loopg [3, 4] k (fun kq v3 v4 w' => ∃ (x3_1 : List (S33)) (x4_1 : Int), v4 = .int .i64 x4_1 ∧ Aside0 (intrusionref05_Normal.l0 kq l0 x3_1 x4_1 = some r) ∧ Aside0 (kq ≤ k) ∧ Aside0 (Kd.R k33 33 w' w.heap.size (fun _ => True) v3 x3_1) ∧ Aside0 (Below w.heap.size w w'))
 case atStart => exact ⟨(y296), (0), (by first | rfl | (simp; done) | (simp [*]; done)), H', ⟨Nat.le_refl _⟩, ⟨zR HO298⟩, ⟨zB HB⟩⟩
 case round =>
  clear H'
  try clear p2
  obtain ⟨x3_1, x4_1, rfl, HA, HK1, HO_3, HB⟩ := hrel
  cases gk with
  | zero => exact absurd HA.out (by simp [intrusionref05_Normal.l0])
  | succ k1 =>
   have H := HA.out
   clear HA
   simp only [intrusionref05_Normal.l0] at H
   by_cases c4 : x4_1 < (l0.length : Int)
   · rw [if_pos c4] at H
     have c4b0 : decide (x4_1 < (l0.length : Int)) = true := decide_eq_true c4
     clear c4
     by_cases c5 : 0 ≤ x4_1
     · rw [if_pos c5] at H
       have c5b0 : decide (0 ≤ x4_1) = true := decide_eq_true c5
       clear c5
       replace H := Option.bind_eq_some_iff.mp H
       obtain ⟨⟨t300, t301, t302⟩, A60, H⟩ := H
       try dsimp only at H
       have A6 := Aside0.mk A60
       clear A60
       by_cases c7 : t302 = true
       · subst c7
         rw [if_pos rfl] at H
         by_cases c8 : x3_1.length < 8796093022208
         · rw [if_pos c8] at H
           have LMc8 := Aside0.mk c8
           clear c8
           obtain ⟨y304, hy304⟩ : ∃ y_ : List (S33), y_ = (x3_1 ++ [(⟨t300, t301⟩ : S33)]) := ⟨_, rfl⟩
           rw [← hy304] at H; try dsimp only [Option.bind_some] at H
           have Ny304 := Aside0.mk hy304
           clear hy304
           have H' := Aside0.mk H
           clear H
           have p299 : 0 ≤ (x4_1 : Int) := za
           have q299 : x4_1 < (l0.length : Int) := za
           obtain ⟨ad299, e299, hx299_0, hx299_1⟩ := at_T33 HR0.out x4_1 p299 q299
           cases e299
           replace hx299_0 := zh HB hx299_0
           replace hx299_1 := zh HB hx299_1
           replace p299 := eq_true p299
           replace q299 := eq_true q299
           go_wp2_with (first | ((with_reducible refine gate_callee (f := 68) rfl ?_); refine goesL_ (some 22) rfl rfl Tryd.func68 (by kernel_rfl) rfl #[.agg #[.int .i64 ((rd_T33 l0 x4_1).f0), .int .i64 ((rd_T33 l0 x4_1).f1)], .int .i64 0, .int .i64 4294967296] rfl (by (try simp only [List.map_toArray, List.map_cons, List.map_nil]); first | done | rfl | (simp only [List.length_drop, List.length_take]; rfl)) ?_; (with_reducible refine (intrusionref05_cut.calls ((rd_T33 l0 x4_1).f0) ((rd_T33 l0 x4_1).f1) 0 4294967296 t300 t301 true _ A6.out).mono ?_); rintro e w9 ⟨rfl, hb⟩; refine ⟨_, rfl, ?_⟩; replace HO_3 := Aside0.mk (Kd.R_below (zR HO_3) hb); replace HB := Aside0.mk (below_step (zB HB) hb); (try clear hb)) | ((with_reducible refine gate_dst (N := 5) rfl ?_); refine zx 5 #[.int .i64 0, .int .i64 0] 33 ?_; intro gb303 hg w10 hbox hb; replace HO_3 := Aside0.mk (Kd.R_below (Kd.R_elderB (zR HO_3) gb303 (Nat.le_of_eq hg.symm)) hb); have BK303 := Aside0.mk (hbox); have GW303 := Aside0.mk ((by rw [hg]; exact (below_size (zB HB)) : w.heap.size ≤ gb303)); have GE303 := Aside0.mk ((by rw [hg]; exact (below_size (zB HB)) : w.heap.size ≤ gb303)); replace HB := Aside0.mk (below_step (zB HB) hb); clear hb hbox hg; obtain ⟨hcz11_0, hcz11_1⟩ := zc2 BK303; obtain ⟨hfz11_0, hfz11_1⟩ := zf2 BK303) | ((with_reducible refine gate_builtin (b := .append) (xs := #[.tmp 26, .tmp 28]) rfl ?_); at_builtin; refine Kd.R_append k33 (w0 := w) w.heap.size rfl (.tmp 26) (.tmp 28) 23 33 (.agg #[(.int .i64 0), (.int .i64 0)]) 16 rfl Tryd.underlying23 info33 rfl (by decide) (by omega) u3 x3_1 (⟨t300, t301⟩ : S33) [.int .i64 t300, .int .i64 t301] (fun k_ => k_ ≠ gb303) (fun _ => False) rfl (by first | (go_simp; done) | (go_simp; rfl)) ?aP (fun _ hk => hk.elim) ?aF ?aO ?aB ?aS ?aL ?_; (case aP => exact k33_mkM _ _ _ (⟨t300, t301⟩ : S33)); (case aB => exact (zB HB)); (case aF => exact (fun k_ hk => Kd.freshB (g := gb303) (o := .cells #[.int .i64 t300, .int .i64 t301] 33 (0, 0)) (by refine zL ?_; refine blk_put (cs := #[.int .i64 t300, .int .i64 0]) ?_ 1 _ rfl; refine zL ?_; refine blk_put (cs := #[.int .i64 0, .int .i64 0]) ?_ 0 _ rfl; refine zL ?_; exact BK303.out) k_ hk)); (case aO => exact (by (with_reducible repeat (first | apply Kd.R_alloc | apply Kd.R_drewN | apply Kd.R_drew)); exact Kd.R_mono (Kd.R_far (p := ⟨gb303, 1, none⟩) (Kd.R_far (p := ⟨gb303, 0, none⟩) (Kd.R_mono HO_3.out (fun k_ hk => (⟨hk, hk.2⟩ : _ ∧ k_ ≠ gb303))) (fun _ hk => hk.2) (.int .i64 t300)) (fun _ hk => hk.2) (.int .i64 t301)) (fun _ hk => hk.1.2))); (case aS => exact (below_size (zB HB))); (case aL => have := LMc8.out; omega); intro v305 w12 ho hb hg hat; rw [← Ny304.out] at ho; replace BK303 := Aside0.mk (blk_grown (g := gb303) (o := .cells #[.int .i64 t300, .int .i64 t301] 33 (0, 0)) (by refine zL ?_; refine blk_put (cs := #[.int .i64 t300, .int .i64 0]) ?_ 1 _ rfl; refine zL ?_; refine blk_put (cs := #[.int .i64 0, .int .i64 0]) ?_ 0 _ rfl; refine zL ?_; exact BK303.out) hg (Kd.R_away HO_3.out (fun _ hk => hk.2))); replace HB := Aside0.mk (hb); have HO306 := Aside0.mk (ho); clear HO_3; clear ho hb hg hat))
           go_roundg k1
           case measure => have := HK1.out; omega
           case rel => exact ⟨(y304), (wrap64 (x4_1 + 1)), (by first | rfl | (simp; done) | (simp [*]; done)), H', ⟨by have := HK1.out; omega⟩, ⟨by (with_reducible repeat (first | apply Kd.R_alloc | apply Kd.R_drewN | apply Kd.R_drew)); exact Kd.R_mono HO306.out (fun _ hk => trivial)⟩, ⟨zB HB⟩⟩
         · rw [if_neg c8] at H
           exact absurd H (by simp)
       · replace c7 := Bool.eq_false_iff.mpr c7
         subst c7
         rw [if_neg zF] at H
         have H' := Aside0.mk H
         clear H
         have p299 : 0 ≤ (x4_1 : Int) := za
         have q299 : x4_1 < (l0.length : Int) := za
         obtain ⟨ad299, e299, hx299_0, hx299_1⟩ := at_T33 HR0.out x4_1 p299 q299
         cases e299
         replace hx299_0 := zh HB hx299_0
         replace hx299_1 := zh HB hx299_1
         replace p299 := eq_true p299
         replace q299 := eq_true q299
         go_wp2_with (first | ((with_reducible refine gate_callee (f := 68) rfl ?_); refine goesL_ (some 22) rfl rfl Tryd.func68 (by kernel_rfl) rfl #[.agg #[.int .i64 ((rd_T33 l0 x4_1).f0), .int .i64 ((rd_T33 l0 x4_1).f1)], .int .i64 0, .int .i64 4294967296] rfl (by (try simp only [List.map_toArray, List.map_cons, List.map_nil]); first | done | rfl | (simp only [List.length_drop, List.length_take]; rfl)) ?_; (with_reducible refine (intrusionref05_cut.calls ((rd_T33 l0 x4_1).f0) ((rd_T33 l0 x4_1).f1) 0 4294967296 t300 t301 false _ A6.out).mono ?_); rintro e w13 ⟨rfl, hb⟩; refine ⟨_, rfl, ?_⟩; replace HO_3 := Aside0.mk (Kd.R_below (zR HO_3) hb); replace HB := Aside0.mk (below_step (zB HB) hb); (try clear hb)) | ((with_reducible refine gate_dst (N := 5) rfl ?_); refine zx 5 #[.int .i64 0, .int .i64 0] 33 ?_; intro gb303 hg w14 hbox hb; replace HO_3 := Aside0.mk (Kd.R_below (Kd.R_elderB (zR HO_3) gb303 (Nat.le_of_eq hg.symm)) hb); have BK303 := Aside0.mk (hbox); have GW303 := Aside0.mk ((by rw [hg]; exact (below_size (zB HB)) : w.heap.size ≤ gb303)); have GE303 := Aside0.mk ((by rw [hg]; exact (below_size (zB HB)) : w.heap.size ≤ gb303)); replace HB := Aside0.mk (below_step (zB HB) hb); clear hb hbox hg; obtain ⟨hcz15_0, hcz15_1⟩ := zc2 BK303; obtain ⟨hfz15_0, hfz15_1⟩ := zf2 BK303))
         go_roundg k1
         case measure => have := HK1.out; omega
         case rel => exact ⟨(x3_1), (wrap64 (x4_1 + 1)), (by first | rfl | (simp; done) | (simp [*]; done)), H', ⟨by have := HK1.out; omega⟩, ⟨by (with_reducible repeat (first | apply Kd.R_alloc | apply Kd.R_drewN | apply Kd.R_drew)); exact Kd.R_mono (Kd.R_far (p := ⟨gb303, 1, none⟩) (Kd.R_far (p := ⟨gb303, 0, none⟩) (Kd.R_mono HO_3.out (fun k_ hk => (⟨hk, hk.2⟩ : _ ∧ k_ ≠ gb303))) (fun _ hk => hk.2) (.int .i64 t300)) (fun _ hk => hk.2) (.int .i64 t301)) (fun _ hk => trivial)⟩, ⟨zB HB⟩⟩
     · rw [if_neg c5] at H
       exact absurd H (by simp)
   · rw [if_neg c4] at H
     have c4b0 : decide (x4_1 < (l0.length : Int)) = false := decide_eq_false c4
     clear c4
     obtain ⟨y307, hy307⟩ : ∃ y_ : List (S33), y_ = (([] : List (S33))) := ⟨_, rfl⟩
     rw [← hy307] at H; try dsimp only [Option.bind_some] at H
     have Ny307 := Aside0.mk hy307
     clear hy307
     have H' := Aside0.mk H
     clear H
     go_wp2_with (first | ((with_reducible refine gate_dst (N := 30) rfl ?_); refine Kd.R_lit k33 _ 33 ?hg (N := 30) ?hd (xs := ([] : List (S33))) (inner := []) (ok := fun _ => True) (okp := fun _ => True) ?hr ?hp (fun _ hk => hk) trivial (Below.refl _ _) (Nat.le_refl _) (by simp) ?_; (case hd => rfl); (case hg => rfl); (case hr => first | (go_simp; done) | (go_simp; rfl)); (case hp => exact (Reps.none _ _)); intro v308 w16 ho17 hb hg_ hnew_; clear hg_ hnew_; (first | rw [← Ny307.out] at ho17 | (simp only [Int.reduceToNat] at ho17; rw [← Ny307.out] at ho17)); have HO309 := Aside0.mk (Kd.R_lower (Kd.R_new' ho17 (Kd.R_lt (zR HO_3))) (below_size (zB HB))); replace HO_3 := Aside0.mk (Kd.R_elder' (zR HO_3) (Kd.R_base ho17) hb); replace HB := Aside0.mk (below_step (zB HB) hb); clear hb ho17))
     go_loopg [3, 7] k1 (fun kq v3 v7 w' => ∃ (x3_2 : List (S33)) (x7_2 : List (S33)), Aside0 (intrusionref05_Normal.l1 kq x3_2 x7_2 = some r) ∧ Aside0 (kq ≤ k1) ∧ Aside0 (Kd.R k33 33 w' w.heap.size (fun k_ => some k_ ≠ (v7 : Value).ownBlock) v3 x3_2) ∧ Aside0 (Kd.R k33 33 w' w.heap.size (fun k_ => some k_ ≠ (v3 : Value).ownBlock) v7 x7_2) ∧ Aside0 (Below w.heap.size w w'))
     case atStart => exact ⟨(x3_1), (y307), H', ⟨Nat.le_refl _⟩, ⟨by (with_reducible repeat (first | apply Kd.R_alloc | apply Kd.R_drewN | apply Kd.R_drew)); exact Kd.R_mono HO_3.out (fun _ hk => hk.2)⟩, ⟨by (with_reducible repeat (first | apply Kd.R_alloc | apply Kd.R_drewN | apply Kd.R_drew)); exact Kd.R_mono HO309.out (fun _ hk => hk.2)⟩, ⟨zB HB⟩⟩
     case round =>
      clear H'
      try clear p2
      try clear q2
      try clear hx2
      try clear c4
      try clear c4b0
      try clear c5
      try clear c5b0
      try clear c6
      try clear p6
      try clear c7
      try clear c8
      try clear hcz11_0
      try clear hcz11_1
      try clear hcz15_0
      try clear hcz15_1
      try clear hfz11_0
      try clear hfz11_1
      try clear hfz15_0
      try clear hfz15_1
      try clear hx299_0
      try clear hx299_1
      try clear p2
      try clear p299
      try clear q299
      obtain ⟨x3_2, x7_2, HA, HK2, HO_3, HO_7, HB⟩ := hrel
      cases gk with
      | zero => exact absurd HA.out (by simp [intrusionref05_Normal.l1])
      | succ k2 =>
       have H := HA.out
       clear HA
       simp only [intrusionref05_Normal.l1] at H
       by_cases c18 : (x3_2.length : Int) > 0
       · rw [if_pos c18] at H
         have c18b0 : decide (0 < (x3_2.length : Int)) = true := decide_eq_true c18
         have c18b1 : decide (0 < x3_2.length) = true := decide_eq_true (by omega)
         clear c18
         replace H := Option.bind_eq_some_iff.mp H
         obtain ⟨⟨t310, t311, t312⟩, A190, H⟩ := H
         try dsimp only at H
         have A19 := Aside0.mk A190
         clear A190
         by_cases c20 : x7_2.length < 8796093022208
         · rw [if_pos c20] at H
           have LMc20 := Aside0.mk c20
           clear c20
           obtain ⟨y316, hy316⟩ : ∃ y_ : List (S33), y_ = (x7_2 ++ [(⟨t310, t311⟩ : S33)]) := ⟨_, rfl⟩
           rw [← hy316] at H; try dsimp only [Option.bind_some] at H
           have Ny316 := Aside0.mk hy316
           clear hy316
           have H' := Aside0.mk H
           clear H
           obtain ⟨Ao21, co21, eo21⟩ := Kd.R_slice HO_3.out
           subst eo21
           go_wp2_with (first | ((with_reducible refine gate_callee (f := 85) rfl ?_); refine goesL_ (some 36) rfl rfl Tryd.func85 (by kernel_rfl) rfl #[.slice Ao21 x3_2.length co21] rfl (by (try simp only [List.map_toArray, List.map_cons, List.map_nil]); first | done | rfl | (simp only [List.length_drop, List.length_take]; rfl)) ?_; (with_reducible refine (intrusionref05_least.calls k2 _ _ x3_2 t310 t311 t312 _ ?side1 ?side2 A19.out).mono ?_); (case side1 => repeat (first | exact (Kd.R_reads' HO_3.out).2.2 | (with_reducible refine Kd.C_alloc ?_ _) | (with_reducible refine Kd.C_drewN ?_ _) | (with_reducible refine Kd.C_drew ?_))); (case side2 => exact (Kd.R_reads' HO_3.out).2.1); rintro e w22 ⟨v313, rfl, ho0, hb⟩; refine ⟨_, rfl, ?_⟩; have HO314 := Aside0.mk (Kd.R_lower (Kd.R_new' (Kd.R_new' ho0 (Kd.R_lt (zR HO_3))) (Kd.R_lt (zR HO_7))) (below_size (zB HB))); replace HO_3 := Aside0.mk (Kd.R_elder' (zR HO_3) (Kd.R_base ho0) hb); replace HO_7 := Aside0.mk (Kd.R_elder' (zR HO_7) (Kd.R_base ho0) hb); replace HB := Aside0.mk (below_step (zB HB) hb); (try clear hb); (try clear ho0)) | ((with_reducible refine gate_dst (N := 8) rfl ?_); refine zx 8 #[.int .i64 0, .int .i64 0] 33 ?_; intro gb315 hg w23 hbox hb; replace HO_3 := Aside0.mk (Kd.R_below (Kd.R_elderB (zR HO_3) gb315 (Nat.le_of_eq hg.symm)) hb); replace HO_7 := Aside0.mk (Kd.R_below (Kd.R_elderB (zR HO_7) gb315 (Nat.le_of_eq hg.symm)) hb); replace HO314 := Aside0.mk (Kd.R_below (Kd.R_elderB (zR HO314) gb315 (Nat.le_of_eq hg.symm)) hb); have BK315 := Aside0.mk (hbox); have GW315 := Aside0.mk ((by rw [hg]; exact (below_size (zB HB)) : w.heap.size ≤ gb315)); have GE315 := Aside0.mk ((by rw [hg]; exact (below_size (zB HB)) : w.heap.size ≤ gb315)); replace HB := Aside0.mk (below_step (zB HB) hb); clear hb hbox hg; obtain ⟨hcz24_0, hcz24_1⟩ := zc2 BK315; obtain ⟨hfz24_0, hfz24_1⟩ := zf2 BK315) | ((with_reducible refine gate_builtin (b := .append) (xs := #[.tmp 39, .tmp 41]) rfl ?_); at_builtin; refine Kd.R_append k33 (w0 := w) w.heap.size rfl (.tmp 39) (.tmp 41) 23 33 (.agg #[(.int .i64 0), (.int .i64 0)]) 16 rfl Tryd.underlying23 info33 rfl (by decide) (by omega) u7 x7_2 (⟨t310, t311⟩ : S33) [.int .i64 t310, .int .i64 t311] (fun k_ => some k_ ≠ (.slice Ao21 x3_2.length co21 : Value).ownBlock ∧ some k_ ≠ (v313 : Value).ownBlock ∧ k_ ≠ gb315) (fun _ => False) rfl (by first | (go_simp; done) | (go_simp; rfl)) ?aP (fun _ hk => hk.elim) ?aF ?aO ?aB ?aS ?aL ?_; (case aP => exact k33_mkM _ _ _ (⟨t310, t311⟩ : S33)); (case aB => exact (zB HB)); (case aF => exact (fun k_ hk => ⟨Kd.fresh' (Kd.R_lt (zQ (Kd.R_mono (Kd.R_far (p := ⟨gb315, 1, none⟩) (Kd.R_far (p := ⟨gb315, 0, none⟩) (Kd.R_mono HO_3.out (fun k_ hk => (⟨hk, hk.2⟩ : _ ∧ k_ ≠ gb315))) (fun _ hk => hk.2) (.int .i64 t310)) (fun _ hk => hk.2) (.int .i64 t311)) (fun _ h_ => h_.1)))) k_ hk, Kd.fresh' (Kd.R_lt (zQ (Kd.R_mono (Kd.R_far (p := ⟨gb315, 1, none⟩) (Kd.R_far (p := ⟨gb315, 0, none⟩) (Kd.R_mono HO314.out (fun k_ hk => (⟨hk, hk.2⟩ : _ ∧ k_ ≠ gb315))) (fun _ hk => hk.2) (.int .i64 t310)) (fun _ hk => hk.2) (.int .i64 t311)) (fun _ h_ => h_.1)))) k_ hk, Kd.freshB (g := gb315) (o := .cells #[.int .i64 t310, .int .i64 t311] 33 (0, 0)) (by refine zL ?_; refine blk_put (cs := #[.int .i64 t310, .int .i64 0]) ?_ 1 _ rfl; refine zL ?_; refine blk_put (cs := #[.int .i64 0, .int .i64 0]) ?_ 0 _ rfl; refine zL ?_; exact BK315.out) k_ hk⟩)); (case aO => exact (by (with_reducible repeat (first | apply Kd.R_alloc | apply Kd.R_drewN | apply Kd.R_drew)); exact Kd.R_mono (Kd.R_far (p := ⟨gb315, 1, none⟩) (Kd.R_far (p := ⟨gb315, 0, none⟩) (Kd.R_mono HO_7.out (fun k_ hk => (⟨hk, hk.2⟩ : _ ∧ k_ ≠ gb315))) (fun _ hk => hk.2) (.int .i64 t310)) (fun _ hk => hk.2) (.int .i64 t311)) (fun _ hk => ⟨hk.1.1.1, ⟨hk.1.1.2, hk.1.2⟩⟩))); (case aS => exact (below_size (zB HB))); (case aL => have := LMc20.out; omega); intro v317 w25 ho hb hg hat; rw [← Ny316.out] at ho; replace HO_3 := Aside0.mk (Kd.R_after (ok := (fun k_ => some k_ ≠ (v313 : Value).ownBlock ∧ k_ ≠ gb315)) (by (with_reducible repeat (first | apply Kd.R_alloc | apply Kd.R_drewN | apply Kd.R_drew)); exact Kd.R_mono (Kd.R_far (p := ⟨gb315, 1, none⟩) (Kd.R_far (p := ⟨gb315, 0, none⟩) (Kd.R_mono HO_3.out (fun k_ hk => (⟨hk, hk.2⟩ : _ ∧ k_ ≠ gb315))) (fun _ hk => hk.2) (.int .i64 t310)) (fun _ hk => hk.2) (.int .i64 t311)) (fun _ hk => ⟨⟨hk.1.1.2, hk.1.2⟩, hk.1.1.1⟩)) hg hat); replace HO314 := Aside0.mk (Kd.R_after (ok := (fun k_ => some k_ ≠ (.slice Ao21 x3_2.length co21 : Value).ownBlock ∧ k_ ≠ gb315)) (by (with_reducible repeat (first | apply Kd.R_alloc | apply Kd.R_drewN | apply Kd.R_drew)); exact Kd.R_mono (Kd.R_far (p := ⟨gb315, 1, none⟩) (Kd.R_far (p := ⟨gb315, 0, none⟩) (Kd.R_mono HO314.out (fun k_ hk => (⟨hk, hk.2⟩ : _ ∧ k_ ≠ gb315))) (fun _ hk => hk.2) (.int .i64 t310)) (fun _ hk => hk.2) (.int .i64 t311)) (fun _ hk => ⟨⟨hk.1.1.1.2, hk.1.2⟩, hk.1.1.2⟩)) hg hat); replace BK315 := Aside0.mk (blk_grown (g := gb315) (o := .cells #[.int .i64 t310, .int .i64 t311] 33 (0, 0)) (by refine zL ?_; refine blk_put (cs := #[.int .i64 t310, .int .i64 0]) ?_ 1 _ rfl; refine zL ?_; refine blk_put (cs := #[.int .i64 0, .int .i64 0]) ?_ 0 _ rfl; refine zL ?_; exact BK315.out) hg (Kd.R_away HO_7.out (fun _ hk => hk.2))); replace HB := Aside0.mk (hb); have HO318 := Aside0.mk (ho); clear HO_7; clear ho hb hg hat))
           go_roundg k2
           case measure => have := HK1.out; have := HK2.out; omega
           case rel => exact ⟨(t312), (y316), H', ⟨by have := HK1.out; have := HK2.out; omega⟩, ⟨by (with_reducible repeat (first | apply Kd.R_alloc | apply Kd.R_drewN | apply Kd.R_drew)); exact Kd.R_mono HO314.out (fun _ hk => hk.2)⟩, ⟨by (with_reducible repeat (first | apply Kd.R_alloc | apply Kd.R_drewN | apply Kd.R_drew)); exact Kd.R_mono HO318.out (fun _ hk => hk.2.1)⟩, ⟨zB HB⟩⟩
         · rw [if_neg c20] at H
           exact absurd H (by simp)
       · rw [if_neg c18] at H
         have c18b0 : decide (0 < (x3_2.length : Int)) = false := decide_eq_false c18
         have c18b1 : decide (0 < x3_2.length) = false := decide_eq_false (by omega)
         clear c18
         obtain rfl := Option.some.inj H
         obtain ⟨Ao26, co26, eo26⟩ := Kd.R_slice HO_3.out
         subst eo26
         go_wp2
         go_ret
         exact ⟨_, by first | rfl | (simp [errW_none, errW_some] <;> rfl) | (simp [*, errW_none, errW_some] <;> rfl), by (with_reducible repeat (first | apply Kd.R_alloc | apply Kd.R_drewN | apply Kd.R_drew)); exact Kd.R_mono HO_7.out (fun _ hk => trivial), by repeat (first | (with_reducible first | exact HB.out | apply below_alloc | apply pw_below_drewN | apply below_drew1) | exact HB.out)⟩
end Go.Proofs.YtbimdjciacnioaaDoor.Q
end

section
namespace Go.Proofs.YtbimdjciacnioaaDoor.Q
open Go.RowKit Go.Proofs.YtbimdjciacnioaaDoorW.PrintWords Go.Proofs.YtbimdjciacnioaaDoorW.PrintLast Go.Proofs.YtbimdjciacnioaaDoorW.PrintMore
attribute [local go_sem] max2_int min2_int max_two min_two max_three min_three max_four min_four
set_option linter.unusedVariables false
set_option linter.unusedSimpArgs false
mutual
def intrusionref05_Intersect.l0 : Nat → List (S33) → List (S33) → List (S33) → Int → Option ((List (S33)))
  | 0, _, _, _, _ => none
  | k + 1, x5, x6, x7, x8 => if x8 < (x5.length : Int) then (intrusionref05_Intersect.l1 k x5 x6 x7 x8 0) else ((intrusionref05_Normal.f k x7).bind fun t328 => (some t328))
def intrusionref05_Intersect.l1 : Nat → List (S33) → List (S33) → List (S33) → Int → Int → Option ((List (S33)))
  | 0, _, _, _, _, _ => none
  | k + 1, x5, x6, x7, x8, x9 => if x9 < (x6.length : Int) then (if 0 ≤ x8 then (if x8 < (x5.length : Int) then (if 0 ≤ x9 then ((intrusionref05_cut.f ((rd_T33 x5 x8).f0) ((rd_T33 x5 x8).f1) ((rd_T33 x6 x9).f0) ((rd_T33 x6 x9).f1)).bind fun bt334 => (if bt334.2.2 = true then (if x7.length < 8796093022208 then (intrusionref05_Intersect.l1 k x5 x6 (x7 ++ [(⟨bt334.1, bt334.2.1⟩ : S33)]) x8 (wrap64 (x9 + 1))) else (none)) else (intrusionref05_Intersect.l1 k x5 x6 x7 x8 (wrap64 (x9 + 1))))) else (none)) else (none)) else (none)) else (intrusionref05_Intersect.l0 k x5 x6 x7 (wrap64 (x8 + 1)))
end
def intrusionref05_Intersect.f (k : Nat) (l0 : List (S33)) (l1 : List (S33)) : Option ((List (S33))) := (intrusionref05_Normal.f k l0).bind fun t319 => ((intrusionref05_Normal.f k l1).bind fun t322 => (intrusionref05_Intersect.l0 k t319 t322 (([] : List (S33))) 0))
theorem intrusionref05_Intersect.mono_l : ∀ k, (∀ y0 y1 y2 y3, LeO (intrusionref05_Intersect.l0 k y0 y1 y2 y3) (intrusionref05_Intersect.l0 (k + 1) y0 y1 y2 y3)) ∧ (∀ y0 y1 y2 y3 y4, LeO (intrusionref05_Intersect.l1 k y0 y1 y2 y3 y4) (intrusionref05_Intersect.l1 (k + 1) y0 y1 y2 y3 y4))
  | 0 => ⟨fun _ _ _ _ r h => by simp [intrusionref05_Intersect.l0] at h, fun _ _ _ _ _ r h => by simp [intrusionref05_Intersect.l1] at h⟩
  | k + 1 => by
    obtain ⟨ih0, ih1⟩ := intrusionref05_Intersect.mono_l k
    refine ⟨?_, ?_⟩
    · intro y0 y1 y2 y3
      unfold intrusionref05_Intersect.l0
      repeat' first
      | (with_reducible exact ih0 _ _ _ _)
      | (with_reducible exact ih1 _ _ _ _ _)
      | (with_reducible exact intrusionref05_Normal.mono _ _)
      | (with_reducible exact LeO.refl _)
      | (with_reducible exact LeO.none _)
      | (with_reducible refine LeO.ite ?_ ?_)
      | (with_reducible refine LeO.bind ?_ (fun _ => ?_))
      | exact ih0 _ _ _ _
      | exact ih1 _ _ _ _ _
      | exact intrusionref05_Normal.mono _ _
      | exact LeO.none _
      | refine LeO.ite ?_ ?_
      | refine LeO.bind ?_ (fun _ => ?_)
    · intro y0 y1 y2 y3 y4
      unfold intrusionref05_Intersect.l1
      repeat' first
      | (with_reducible exact ih0 _ _ _ _)
      | (with_reducible exact ih1 _ _ _ _ _)
      | (with_reducible exact intrusionref05_Normal.mono _ _)
      | (with_reducible exact LeO.refl _)
      | (with_reducible exact LeO.none _)
      | (with_reducible refine LeO.ite ?_ ?_)
      | (with_reducible refine LeO.bind ?_ (fun _ => ?_))
      | exact ih0 _ _ _ _
      | exact ih1 _ _ _ _ _
      | exact intrusionref05_Normal.mono _ _
      | exact LeO.none _
      | refine LeO.ite ?_ ?_
      | refine LeO.bind ?_ (fun _ => ?_)
theorem intrusionref05_Intersect.mono : ∀ a0 a1 k, LeO (intrusionref05_Intersect.f k a0 a1) (intrusionref05_Intersect.f (k + 1) a0 a1) := by
  intro a0 a1 k
  obtain ⟨ih0, ih1⟩ := intrusionref05_Intersect.mono_l k
  unfold intrusionref05_Intersect.f
  repeat' first
      | (with_reducible exact ih0 _ _ _ _)
      | (with_reducible exact ih1 _ _ _ _ _)
      | (with_reducible exact intrusionref05_Normal.mono _ _)
      | (with_reducible exact LeO.refl _)
      | (with_reducible exact LeO.none _)
      | (with_reducible refine LeO.ite ?_ ?_)
      | (with_reducible refine LeO.bind ?_ (fun _ => ?_))
      | exact ih0 _ _ _ _
      | exact ih1 _ _ _ _ _
      | exact intrusionref05_Normal.mono _ _
      | exact LeO.none _
      | refine LeO.ite ?_ ?_
      | refine LeO.bind ?_ (fun _ => ?_)
def intrusionref05_Intersect.T9 : Bool × List (List Nat × List Nat) := (true, [([], []), ([], []), ([0, 1], [0, 1]), ([2], [2]), ([], []), ([], []), ([4, 5], [4, 5]), ([6], [6]), ([7], [7]), ([], []), ([], []), ([9, 10], [9, 10]), ([11], [11]), ([12], [12]), ([3, 8, 13], [3, 8, 13]), ([14], [14]), ([15], [15]), ([15], [15]), ([], []), ([18, 16, 14, 0, 1, 2, 3, 4, 5, 6, 7, 8, 9, 10, 11, 12, 13, 14, 15, 16, 18], [16, 18]), ([17, 19, 0, 1, 2, 3, 4, 5, 6, 7, 8, 9, 10, 11, 12, 13, 14, 15, 16, 17, 18, 19], [17])])
def intrusionref05_Intersect.B9 : List Nat := [0, 0, 3, 7, 0, 0, 48, 112, 240, 0, 0, 1536, 3584, 7680, 16383, 32767, 65535, 65535, 0, 393215, 1048575]
theorem intrusionref05_Intersect.tab9 : rtab .any (opsOf Tryd.f52 9) = intrusionref05_Intersect.T9 := by kernel_rfl
theorem intrusionref05_Intersect.bits9 : waitsOk intrusionref05_Intersect.T9.2 intrusionref05_Intersect.B9 = true := by kernel_rfl
set_option maxHeartbeats 8000000 in
set_option maxRecDepth 100000 in
theorem intrusionref05_Intersect.calls (k : Nat) (A0 : Option Addr) (c0 : Nat) (l0 : List (S33)) (A1 : Option Addr) (c1 : Nat) (l1 : List (S33)) (r : List (S33)) (w : World) (hr0 : Kd.C k33 w A0 l0.length l0) (hc0 : l0.length ≤ c0) (hr1 : Kd.C k33 w A1 l1.length l1) (hc1 : l1.length ≤ c1) (h : intrusionref05_Intersect.f k l0 l1 = some r) :
 Calls Tryd.prog 52 #[.slice A0 l0.length c0, .slice A1 l1.length c1] w fun e w' => ∃ v0_ : Value, e = .returned (v0_) ∧ Kd.R k33 33 w' w.heap.size (fun _ => True) v0_ r ∧ Below w.heap.size w w' := by
 have hu33 := Tryd.underlying33
 have HR0 := Aside0.mk hr0
 have HC0 := Aside0.mk hc0
 clear hr0 hc0
 have HR1 := Aside0.mk hr1
 have HC1 := Aside0.mk hc1
 clear hr1 hc1
 have HB := Aside0.mk (Below.refl w.heap.size w)
 unfold intrusionref05_Intersect.f at h; have H := h
 clear h
 replace H := Option.bind_eq_some_iff.mp H
 obtain ⟨t319, A30, H⟩ := H
 try dsimp only at H
 have A3 := Aside0.mk A30
 clear A30
 replace H := Option.bind_eq_some_iff.mp H
 obtain ⟨t322, A40, H⟩ := H
 try dsimp only at H
 have A4 := Aside0.mk A40
 clear A40
 obtain ⟨y325, hy325⟩ : ∃ y_ : List (S33), y_ = (([] : List (S33))) := ⟨_, rfl⟩
 rw [← hy325] at H; try dsimp only [Option.bind_some] at H
 have Ny325 := Aside0.mk hy325
 clear hy325
 have H' := Aside0.mk H
 clear H
 go_enter Tryd.func52, Tryd.ntmps52
 go_wp2_with (first | ((with_reducible refine gate_callee (f := 67) rfl ?_); refine goesL_ (some 13) rfl rfl Tryd.func67 (by kernel_rfl) rfl #[.slice A0 l0.length c0] rfl (by (try simp only [List.map_toArray, List.map_cons, List.map_nil]); first | done | rfl | (simp only [List.length_drop, List.length_take]; rfl)) ?_; (with_reducible refine (intrusionref05_Normal.calls k _ _ l0 t319 _ ?side1 ?side2 A3.out).mono ?_); (case side1 => repeat (first | exact HR0.out | (with_reducible refine Kd.C_alloc ?_ _) | (with_reducible refine Kd.C_drewN ?_ _) | (with_reducible refine Kd.C_drew ?_))); (case side2 => exact HC0.out); rintro e w5 ⟨v320, rfl, ho0, hb⟩; refine ⟨_, rfl, ?_⟩; have HO321 := Aside0.mk (Kd.R_lower ho0 (below_size (zB HB))); replace HB := Aside0.mk (below_step (zB HB) hb); (try clear hb); (try clear ho0)) | ((with_reducible refine gate_callee (f := 67) rfl ?_); refine goesL_ (some 15) rfl rfl Tryd.func67 (by kernel_rfl) rfl #[.slice A1 l1.length c1] rfl (by (try simp only [List.map_toArray, List.map_cons, List.map_nil]); first | done | rfl | (simp only [List.length_drop, List.length_take]; rfl)) ?_; (with_reducible refine (intrusionref05_Normal.calls k _ _ l1 t322 _ ?side1 ?side2 A4.out).mono ?_); (case side1 => repeat (first | exact (Kd.C_below HR1.out HB.out) | (with_reducible refine Kd.C_alloc ?_ _) | (with_reducible refine Kd.C_drewN ?_ _) | (with_reducible refine Kd.C_drew ?_))); (case side2 => exact HC1.out); rintro e w6 ⟨v323, rfl, ho0, hb⟩; refine ⟨_, rfl, ?_⟩; have HO324 := Aside0.mk (Kd.R_lower (Kd.R_new' ho0 (Kd.R_lt (zR HO321))) (below_size (zB HB))); replace HO321 := Aside0.mk (Kd.R_elder' (zR HO321) (Kd.R_base ho0) hb); replace HB := Aside0.mk (below_step (zB HB) hb); (try clear hb); (try clear ho0)) | ((with_reducible refine gate_dst (N := 16) rfl ?_); refine Kd.R_lit k33 _ 33 ?hg (N := 16) ?hd (xs := ([] : List (S33))) (inner := []) (ok := fun _ => True) (okp := fun _ => True) ?hr ?hp (fun _ hk => hk) trivial (Below.refl _ _) (Nat.le_refl _) (by simp) ?_; (case hd => rfl); (case hg => rfl); (case hr => first | (go_simp; done) | (go_simp; rfl)); (case hp => exact (Reps.none _ _)); intro v326 w7 ho8 hb hg_ hnew_; clear hg_ hnew_; (first | rw [← Ny325.out] at ho8 | (simp only [Int.reduceToNat] at ho8; rw [← Ny325.out] at ho8)); have HO327 := Aside0.mk (Kd.R_lower (Kd.R_new' (Kd.R_new' ho8 (Kd.R_lt (zR HO321))) (Kd.R_lt (zR HO324))) (below_size (zB HB))); replace HO321 := Aside0.mk (Kd.R_elder' (zR HO321) (Kd.R_base ho8) hb); replace HO324 := Aside0.mk (Kd.R_elder' (zR HO324) (Kd.R_base ho8) hb); replace HB := Aside0.mk (below_step (zB HB) hb); clear hb ho8))
 go_loopg [7, 8] k (fun kq v7 v8 w' => ∃ (x7_1 : List (S33)) (x8_1 : Int), v8 = .int .i64 x8_1 ∧ Aside0 (intrusionref05_Intersect.l0 kq t319 t322 x7_1 x8_1 = some r) ∧ Aside0 (kq ≤ k) ∧ Aside0 (Kd.R k33 33 w' w.heap.size (fun k_ => some k_ ≠ (v323 : Value).ownBlock ∧ some k_ ≠ (v7 : Value).ownBlock) v320 t319) ∧ Aside0 (Kd.R k33 33 w' w.heap.size (fun k_ => some k_ ≠ (v320 : Value).ownBlock ∧ some k_ ≠ (v7 : Value).ownBlock) v323 t322) ∧ Aside0 (Kd.R k33 33 w' w.heap.size (fun k_ => some k_ ≠ (v320 : Value).ownBlock ∧ some k_ ≠ (v323 : Value).ownBlock) v7 x7_1) ∧ Aside0 (Below w.heap.size w w'))
 case atStart => exact ⟨(y325), (0), (by first | rfl | (simp; done) | (simp [*]; done)), H', ⟨Nat.le_refl _⟩, ⟨by (with_reducible repeat (first | apply Kd.R_alloc | apply Kd.R_drewN | apply Kd.R_drew)); exact Kd.R_mono HO321.out (fun _ hk => ⟨hk.1.2, hk.2⟩)⟩, ⟨by (with_reducible repeat (first | apply Kd.R_alloc | apply Kd.R_drewN | apply Kd.R_drew)); exact Kd.R_mono HO324.out (fun _ hk => ⟨hk.1.2, hk.2⟩)⟩, ⟨by (with_reducible repeat (first | apply Kd.R_alloc | apply Kd.R_drewN | apply Kd.R_drew)); exact Kd.R_mono HO327.out (fun _ hk => ⟨hk.1.2, hk.2⟩)⟩, ⟨zB HB⟩⟩
 case round =>
  clear H'
  try clear c1
  try clear p2
  try clear c5
  try clear c6
  obtain ⟨x7_1, x8_1, rfl, HA, HK1, HO_5, HO_6, HO_7, HB⟩ := hrel
  cases gk with
  | zero => exact absurd HA.out (by simp [intrusionref05_Intersect.l0])
  | succ k1 =>
   have H := HA.out
   clear HA
   simp only [intrusionref05_Intersect.l0] at H
   by_cases c9 : x8_1 < (t319.length : Int)
   · rw [if_pos c9] at H
     have c9b0 : decide (x8_1 < (t319.length : Int)) = true := decide_eq_true c9
     clear c9
     have H' := Aside0.mk H
     clear H
     obtain ⟨Ao10, co10, eo10⟩ := Kd.R_slice HO_5.out
     subst eo10
     go_wp2
     go_loopg [7, 9] k1 (fun kq v7 v9 w' => ∃ (x7_2 : List (S33)) (x9_2 : Int), v9 = .int .i64 x9_2 ∧ Aside0 (intrusionref05_Intersect.l1 kq t319 t322 x7_2 x8_1 x9_2 = some r) ∧ Aside0 (kq ≤ k1) ∧ Aside0 (Kd.R k33 33 w' w.heap.size (fun k_ => some k_ ≠ (v323 : Value).ownBlock ∧ some k_ ≠ (v7 : Value).ownBlock) (.slice Ao10 t319.length co10) t319) ∧ Aside0 (Kd.R k33 33 w' w.heap.size (fun k_ => some k_ ≠ ((.slice Ao10 t319.length co10) : Value).ownBlock ∧ some k_ ≠ (v7 : Value).ownBlock) v323 t322) ∧ Aside0 (Kd.R k33 33 w' w.heap.size (fun k_ => some k_ ≠ ((.slice Ao10 t319.length co10) : Value).ownBlock ∧ some k_ ≠ (v323 : Value).ownBlock) v7 x7_2) ∧ Aside0 (Below w.heap.size w w'))
     case atStart => exact ⟨(x7_1), (0), (by first | rfl | (simp; done) | (simp [*]; done)), H', ⟨Nat.le_refl _⟩, ⟨zR HO_5⟩, ⟨zR HO_6⟩, ⟨zR HO_7⟩, ⟨zB HB⟩⟩
     case round =>
      clear H'
      try clear c1
      try clear p2
      try clear c5
      try clear c6
      try clear c9
      try clear c9b0
      try clear p2
      obtain ⟨x7_2, x9_2, rfl, HA, HK2, HO_5, HO_6, HO_7, HB⟩ := hrel
      cases gk with
      | zero => exact absurd HA.out (by simp [intrusionref05_Intersect.l1])
      | succ k2 =>
       have H := HA.out
       clear HA
       simp only [intrusionref05_Intersect.l1] at H
       by_cases c11 : x9_2 < (t322.length : Int)
       · rw [if_pos c11] at H
         have c11b0 : decide (x9_2 < (t322.length : Int)) = true := decide_eq_true c11
         clear c11
         by_cases c12 : 0 ≤ x8_1
         · rw [if_pos c12] at H
           have c12b0 : decide (0 ≤ x8_1) = true := decide_eq_true c12
           clear c12
           by_cases c13 : x8_1 < (t319.length : Int)
           · rw [if_pos c13] at H
             have c13b0 : decide (x8_1 < (t319.length : Int)) = true := decide_eq_true c13
             clear c13
             by_cases c14 : 0 ≤ x9_2
             · rw [if_pos c14] at H
               have c14b0 : decide (0 ≤ x9_2) = true := decide_eq_true c14
               clear c14
               replace H := Option.bind_eq_some_iff.mp H
               obtain ⟨⟨t334, t335, t336⟩, A150, H⟩ := H
               try dsimp only at H
               have A15 := Aside0.mk A150
               clear A150
               by_cases c16 : t336 = true
               · subst c16
                 rw [if_pos rfl] at H
                 by_cases c17 : x7_2.length < 8796093022208
                 · rw [if_pos c17] at H
                   have LMc17 := Aside0.mk c17
                   clear c17
                   obtain ⟨y338, hy338⟩ : ∃ y_ : List (S33), y_ = (x7_2 ++ [(⟨t334, t335⟩ : S33)]) := ⟨_, rfl⟩
                   rw [← hy338] at H; try dsimp only [Option.bind_some] at H
                   have Ny338 := Aside0.mk hy338
                   clear hy338
                   have H' := Aside0.mk H
                   clear H
                   obtain ⟨Ao18, co18, eo18⟩ := Kd.R_slice HO_6.out
                   subst eo18
                   try go_wp2
                   replace HO_5 := Aside0.mk (Kd.R_drew HO_5.out)
                   replace HO_6 := Aside0.mk (Kd.R_drew HO_6.out)
                   replace HO_7 := Aside0.mk (Kd.R_drew HO_7.out)
                   replace HB := Aside0.mk (below_drew1 HB.out)
                   have p331 : 0 ≤ (x8_1 : Int) := za
                   have q331 : x8_1 < (t319.length : Int) := za
                   obtain ⟨ad331, e331, hx331_0, hx331_1⟩ := at_T33 (Kd.R_reads' HO_5.out).2.2 x8_1 p331 q331
                   cases e331
                   replace p331 := eq_true p331
                   replace q331 := eq_true q331
                   have p332 : 0 ≤ (x9_2 : Int) := za
                   have q332 : x9_2 < (t322.length : Int) := za
                   obtain ⟨ad332, e332, hx332_0, hx332_1⟩ := at_T33 (Kd.R_reads' HO_6.out).2.2 x9_2 p332 q332
                   cases e332
                   replace p332 := eq_true p332
                   replace q332 := eq_true q332
                   have p333 : 0 ≤ (x9_2 : Int) := za
                   have q333 : x9_2 < (t322.length : Int) := za
                   obtain ⟨ad333, e333, hx333_0, hx333_1⟩ := at_T33 (Kd.R_reads' HO_6.out).2.2 x9_2 p333 q333
                   obtain rfl : ad332 = ad333 := (by injection e333)
                   replace p333 := eq_true p333
                   replace q333 := eq_true q333
                   refine start_ (n := 21) (S := fun w' => w'.cell? (ad331.add ((x8_1).toNat * 2)) = some (.int .i64 ((rd_T33 t319 x8_1).f0)) ∧ w'.cell? ⟨(ad331.add ((x8_1).toNat * 2)).block, (ad331.add ((x8_1).toNat * 2)).off + 1, none⟩ = some (.int .i64 ((rd_T33 t319 x8_1).f1)) ∧ w'.cell? (ad332.add ((x9_2).toNat * 2)) = some (.int .i64 ((rd_T33 t322 x9_2).f0)) ∧ w'.cell? ⟨(ad332.add ((x9_2).toNat * 2)).block, (ad332.add ((x9_2).toNat * 2)).off + 1, none⟩ = some (.int .i64 ((rd_T33 t322 x9_2).f1)) ∧ w'.cell? (ad332.add ((x9_2).toNat * 2)) = some (.int .i64 ((rd_T33 t322 x9_2).f0)) ∧ w'.cell? ⟨(ad332.add ((x9_2).toNat * 2)).block, (ad332.add ((x9_2).toNat * 2)).off + 1, none⟩ = some (.int .i64 ((rd_T33 t322 x9_2).f1))) (ds := []) #[false, false, false, false, false, false, false, false, false, false, false, false, false, false, false, false, false, false, false, false, false] (by kernel_rfl) rfl rfl ⟨hx331_0, hx331_1, hx332_0, hx332_1, hx333_0, hx333_1⟩ (fun hHeld => ?_); refine with_tabW intrusionref05_Intersect.tab9 intrusionref05_Intersect.bits9 (fun HT_ HW_ => ?_)
                   generalize wr.drew = w19 at HO_5 HO_6 HO_7 HB hx331_0 hx331_1 hx332_0 hx332_1 hx333_0 hx333_1 hHeld ⊢
                   refine zp 0 30 HT_ ?_; refine zp 1 31 HT_ ?_; refine zp 2 32 HT_ ?_; refine zp 4 34 HT_ ?_; refine zp 5 35 HT_ ?_; refine zp 6 36 HT_ ?_; refine zp 7 37 HT_ ?_; refine zp 9 39 HT_ ?_; refine zp 10 40 HT_ ?_; refine zp 11 41 HT_ ?_; refine zp 12 42 HT_ ?_; refine zt 3 33 HT_ HW_ hHeld ?_; refine zt 8 38 HT_ HW_ hHeld ?_; refine zt 13 43 HT_ HW_ hHeld ?_
                   refine join_ (σ := Nat) 2 #[true, true, true, true, true, true, true, true, true, true, true, true, true, true, true, true, true, true, true, false, false] (fun s_ => [(44, .tuple #[.agg #[.int .i64 t334, .int .i64 t335], .bool true]), (10, .pointer (some ⟨s_, 0, none⟩)), (29, .tuple #[.agg #[.int .i64 t334, .int .i64 t335], .bool true]), (45, .agg #[.int .i64 t334, .int .i64 t335]), (46, .bool true)]) (fun s_ w' => (w'.cell? (ad331.add ((x8_1).toNat * 2)) = some (.int .i64 ((rd_T33 t319 x8_1).f0)) ∧ w'.cell? ⟨(ad331.add ((x8_1).toNat * 2)).block, (ad331.add ((x8_1).toNat * 2)).off + 1, none⟩ = some (.int .i64 ((rd_T33 t319 x8_1).f1)) ∧ w'.cell? (ad332.add ((x9_2).toNat * 2)) = some (.int .i64 ((rd_T33 t322 x9_2).f0)) ∧ w'.cell? ⟨(ad332.add ((x9_2).toNat * 2)).block, (ad332.add ((x9_2).toNat * 2)).off + 1, none⟩ = some (.int .i64 ((rd_T33 t322 x9_2).f1)) ∧ w'.cell? (ad332.add ((x9_2).toNat * 2)) = some (.int .i64 ((rd_T33 t322 x9_2).f0)) ∧ w'.cell? ⟨(ad332.add ((x9_2).toNat * 2)).block, (ad332.add ((x9_2).toNat * 2)).off + 1, none⟩ = some (.int .i64 ((rd_T33 t322 x9_2).f1))) ∧ (Kd.R k33 33 w' w.heap.size (fun k_ => some k_ ≠ (.slice (some ad332) t322.length co18 : Value).ownBlock ∧ some k_ ≠ (u7 : Value).ownBlock ∧ k_ ≠ s_) (.slice (some ad331) t319.length co10) t319) ∧ (Kd.R k33 33 w' w.heap.size (fun k_ => some k_ ≠ (.slice (some ad331) t319.length co10 : Value).ownBlock ∧ some k_ ≠ (u7 : Value).ownBlock ∧ k_ ≠ s_) (.slice (some ad332) t322.length co18) t322) ∧ (Kd.R k33 33 w' w.heap.size (fun k_ => some k_ ≠ (.slice (some ad331) t319.length co10 : Value).ownBlock ∧ some k_ ≠ (.slice (some ad332) t322.length co18 : Value).ownBlock ∧ k_ ≠ s_) u7 x7_2) ∧ (w'.heap[s_]? = some (.cells #[.int .i64 0, .int .i64 0] 33 (0, 0))) ∧ (w.heap.size ≤ s_) ∧ (w.heap.size ≤ s_) ∧ (Below w.heap.size w w')) ?_ ?_
                   rotate_left
                   · intro hCont
                     refine two_ (i := 14) (j := 18) (Ni := some 44) (Nj := some 10) #[true, true, true, true, true, true, true, true, true, true, true, true, true, true, true, false, false, false, false, false, false] #[true, true, true, true, true, true, true, true, true, true, true, true, true, true, false, false, false, false, true, false, false] rfl rfl rfl rfl (two_of HT_.out (by kernel_rfl)) (by decide) (by decide) (fun K hK => ?_) (fun K hK => ?_)
                     · skip
                       refine zg Tryd.func68 #[.agg #[.int .i64 ((rd_T33 t319 x8_1).f0), .int .i64 ((rd_T33 t319 x8_1).f1)], .int .i64 ((rd_T33 t322 x9_2).f0), .int .i64 ((rd_T33 t322 x9_2).f1)] ?_
                       with_reducible refine (intrusionref05_cut.calls ((rd_T33 t319 x8_1).f0) ((rd_T33 t319 x8_1).f1) ((rd_T33 t322 x9_2).f0) ((rd_T33 t322 x9_2).f1) t334 t335 true _ A15.out).mono ?_
                       rintro e w20 ⟨rfl, hb⟩
                       have HS0_ := (hb.cell (World.block_lt_of_cell? _ _ (hHeld.1))).trans (hHeld.1)
                       have HS1_ := (hb.cell (World.block_lt_of_cell? _ _ (hHeld.2.1))).trans (hHeld.2.1)
                       have HS2_ := (hb.cell (World.block_lt_of_cell? _ _ (hHeld.2.2.1))).trans (hHeld.2.2.1)
                       have HS3_ := (hb.cell (World.block_lt_of_cell? _ _ (hHeld.2.2.2.1))).trans (hHeld.2.2.2.1)
                       have HS4_ := (hb.cell (World.block_lt_of_cell? _ _ (hHeld.2.2.2.2.1))).trans (hHeld.2.2.2.2.1)
                       have HS5_ := (hb.cell (World.block_lt_of_cell? _ _ (hHeld.2.2.2.2.2))).trans (hHeld.2.2.2.2.2)
                       refine ⟨_, rfl, ?_⟩
                       replace HO_5 := Aside0.mk (Kd.R_below (zR HO_5) hb)
                       replace HO_6 := Aside0.mk (Kd.R_below (zR HO_6) hb)
                       replace HO_7 := Aside0.mk (Kd.R_below (zR HO_7) hb)
                       replace HB := Aside0.mk (below_step (zB HB) hb)
                       (try clear hb)
                       refine hK.out _ _ ⟨HS0_, HS1_, HS2_, HS3_, HS4_, HS5_⟩ (fun hHeld => ?_)
                       clear hK K
                       refine zn 44 ?_; refine zp 15 29 HT_ ?_; refine zp 16 45 HT_ ?_; refine zp 17 46 HT_ ?_; refine zo 18 10 HT_ (fun K hK => ?_)
                       refine box_step ?hg (N := 10) ?hd (cs := #[.int .i64 0, .int .i64 0]) (t := 33) ?hr ?_; (case hd => rfl); (case hg => rfl); (case hr => first | (go_simp; done) | (go_simp; rfl))
                       intro gb337 hg w21 hbox hb
                       have HS0_ := (hb.cell (World.block_lt_of_cell? _ _ (hHeld.1))).trans (hHeld.1)
                       have HS1_ := (hb.cell (World.block_lt_of_cell? _ _ (hHeld.2.1))).trans (hHeld.2.1)
                       have HS2_ := (hb.cell (World.block_lt_of_cell? _ _ (hHeld.2.2.1))).trans (hHeld.2.2.1)
                       have HS3_ := (hb.cell (World.block_lt_of_cell? _ _ (hHeld.2.2.2.1))).trans (hHeld.2.2.2.1)
                       have HS4_ := (hb.cell (World.block_lt_of_cell? _ _ (hHeld.2.2.2.2.1))).trans (hHeld.2.2.2.2.1)
                       have HS5_ := (hb.cell (World.block_lt_of_cell? _ _ (hHeld.2.2.2.2.2))).trans (hHeld.2.2.2.2.2)
                       replace HO_5 := Aside0.mk (Kd.R_below (Kd.R_elderB (zR HO_5) gb337 (Nat.le_of_eq hg.symm)) hb)
                       replace HO_6 := Aside0.mk (Kd.R_below (Kd.R_elderB (zR HO_6) gb337 (Nat.le_of_eq hg.symm)) hb)
                       replace HO_7 := Aside0.mk (Kd.R_below (Kd.R_elderB (zR HO_7) gb337 (Nat.le_of_eq hg.symm)) hb)
                       have BK337 := Aside0.mk (hbox)
                       have GW337 := Aside0.mk ((by rw [hg]; exact (below_size (zB HB)) : w.heap.size ≤ gb337))
                       have GE337 := Aside0.mk ((by rw [hg]; exact (below_size (zB HB)) : w.heap.size ≤ gb337))
                       replace HB := Aside0.mk (below_step (zB HB) hb)
                       clear hb hbox hg
                       refine hK.out _ _ ⟨HS0_, HS1_, HS2_, HS3_, HS4_, HS5_⟩ (fun hHeld => ?_)
                       clear hK K
                       refine zn 10 ?_
                       exact norm_ (by simp only [putAll, Act.put, List.setIfInBounds_toArray, List.set_cons_zero, List.set_cons_succ]) (hCont (gb337) _ ⟨hHeld, (by (with_reducible repeat (first | apply Kd.R_alloc | apply Kd.R_drewN | apply Kd.R_drew)); exact Kd.R_mono HO_5.out (fun _ hk => ⟨hk.1.1, ⟨hk.1.2, hk.2⟩⟩)), (by (with_reducible repeat (first | apply Kd.R_alloc | apply Kd.R_drewN | apply Kd.R_drew)); exact Kd.R_mono HO_6.out (fun _ hk => ⟨hk.1.1, ⟨hk.1.2, hk.2⟩⟩)), (by (with_reducible repeat (first | apply Kd.R_alloc | apply Kd.R_drewN | apply Kd.R_drew)); exact Kd.R_mono HO_7.out (fun _ hk => ⟨hk.1.1, ⟨hk.1.2, hk.2⟩⟩)), (zK BK337), GW337.out, GE337.out, (zB HB)⟩)
                     · skip
                       refine box_step ?hg (N := 10) ?hd (cs := #[.int .i64 0, .int .i64 0]) (t := 33) ?hr ?_; (case hd => rfl); (case hg => rfl); (case hr => first | (go_simp; done) | (go_simp; rfl))
                       intro gb337 hg w20 hbox hb
                       have HS0_ := (hb.cell (World.block_lt_of_cell? _ _ (hHeld.1))).trans (hHeld.1)
                       have HS1_ := (hb.cell (World.block_lt_of_cell? _ _ (hHeld.2.1))).trans (hHeld.2.1)
                       have HS2_ := (hb.cell (World.block_lt_of_cell? _ _ (hHeld.2.2.1))).trans (hHeld.2.2.1)
                       have HS3_ := (hb.cell (World.block_lt_of_cell? _ _ (hHeld.2.2.2.1))).trans (hHeld.2.2.2.1)
                       have HS4_ := (hb.cell (World.block_lt_of_cell? _ _ (hHeld.2.2.2.2.1))).trans (hHeld.2.2.2.2.1)
                       have HS5_ := (hb.cell (World.block_lt_of_cell? _ _ (hHeld.2.2.2.2.2))).trans (hHeld.2.2.2.2.2)
                       replace HO_5 := Aside0.mk (Kd.R_below (Kd.R_elderB (zR HO_5) gb337 (Nat.le_of_eq hg.symm)) hb)
                       replace HO_6 := Aside0.mk (Kd.R_below (Kd.R_elderB (zR HO_6) gb337 (Nat.le_of_eq hg.symm)) hb)
                       replace HO_7 := Aside0.mk (Kd.R_below (Kd.R_elderB (zR HO_7) gb337 (Nat.le_of_eq hg.symm)) hb)
                       have BK337 := Aside0.mk (hbox)
                       have GW337 := Aside0.mk ((by rw [hg]; exact (below_size (zB HB)) : w.heap.size ≤ gb337))
                       have GE337 := Aside0.mk ((by rw [hg]; exact (below_size (zB HB)) : w.heap.size ≤ gb337))
                       replace HB := Aside0.mk (below_step (zB HB) hb)
                       clear hb hbox hg
                       refine hK.out _ _ ⟨HS0_, HS1_, HS2_, HS3_, HS4_, HS5_⟩ (fun hHeld => ?_)
                       clear hK K
                       refine zn 10 ?_; refine zo 14 44 HT_ (fun K hK => ?_)
                       refine zg Tryd.func68 #[.agg #[.int .i64 ((rd_T33 t319 x8_1).f0), .int .i64 ((rd_T33 t319 x8_1).f1)], .int .i64 ((rd_T33 t322 x9_2).f0), .int .i64 ((rd_T33 t322 x9_2).f1)] ?_
                       with_reducible refine (intrusionref05_cut.calls ((rd_T33 t319 x8_1).f0) ((rd_T33 t319 x8_1).f1) ((rd_T33 t322 x9_2).f0) ((rd_T33 t322 x9_2).f1) t334 t335 true _ A15.out).mono ?_
                       rintro e w21 ⟨rfl, hb⟩
                       have HS0_ := (hb.cell (World.block_lt_of_cell? _ _ (hHeld.1))).trans (hHeld.1)
                       have HS1_ := (hb.cell (World.block_lt_of_cell? _ _ (hHeld.2.1))).trans (hHeld.2.1)
                       have HS2_ := (hb.cell (World.block_lt_of_cell? _ _ (hHeld.2.2.1))).trans (hHeld.2.2.1)
                       have HS3_ := (hb.cell (World.block_lt_of_cell? _ _ (hHeld.2.2.2.1))).trans (hHeld.2.2.2.1)
                       have HS4_ := (hb.cell (World.block_lt_of_cell? _ _ (hHeld.2.2.2.2.1))).trans (hHeld.2.2.2.2.1)
                       have HS5_ := (hb.cell (World.block_lt_of_cell? _ _ (hHeld.2.2.2.2.2))).trans (hHeld.2.2.2.2.2)
                       refine ⟨_, rfl, ?_⟩
                       replace HO_5 := Aside0.mk (Kd.R_below (zR HO_5) hb)
                       replace HO_6 := Aside0.mk (Kd.R_below (zR HO_6) hb)
                       replace HO_7 := Aside0.mk (Kd.R_below (zR HO_7) hb)
                       replace BK337 := Aside0.mk (blk_below (g := gb337) (o := .cells #[.int .i64 0, .int .i64 0] 33 (0, 0)) (zK BK337) hb)
                       replace HB := Aside0.mk (below_step (zB HB) hb)
                       (try clear hb)
                       refine hK.out _ _ ⟨HS0_, HS1_, HS2_, HS3_, HS4_, HS5_⟩ (fun hHeld => ?_)
                       clear hK K
                       refine zn 44 ?_; refine zp 15 29 HT_ ?_; refine zp 16 45 HT_ ?_; refine zp 17 46 HT_ ?_
                       exact norm_ (by simp only [putAll, Act.put, List.setIfInBounds_toArray, List.set_cons_zero, List.set_cons_succ]) (hCont (gb337) _ ⟨hHeld, (by (with_reducible repeat (first | apply Kd.R_alloc | apply Kd.R_drewN | apply Kd.R_drew)); exact Kd.R_mono HO_5.out (fun _ hk => ⟨hk.1.1, ⟨hk.1.2, hk.2⟩⟩)), (by (with_reducible repeat (first | apply Kd.R_alloc | apply Kd.R_drewN | apply Kd.R_drew)); exact Kd.R_mono HO_6.out (fun _ hk => ⟨hk.1.1, ⟨hk.1.2, hk.2⟩⟩)), (by (with_reducible repeat (first | apply Kd.R_alloc | apply Kd.R_drewN | apply Kd.R_drew)); exact Kd.R_mono HO_7.out (fun _ hk => ⟨hk.1.1, ⟨hk.1.2, hk.2⟩⟩)), (zK BK337), GW337.out, GE337.out, (zB HB)⟩)
                   rintro gb337 w22 ⟨hS_, h0_, h1_, h2_, h3_, h4_, h5_, h6_⟩
                   have n0_ : Aside0 (Kd.R k33 33 w22 w.heap.size (fun k_ => some k_ ≠ (.slice (some ad332) t322.length co18 : Value).ownBlock ∧ some k_ ≠ (u7 : Value).ownBlock ∧ k_ ≠ gb337) (.slice (some ad331) t319.length co10) t319) := ⟨h0_⟩
                   have n1_ : Aside0 (Kd.R k33 33 w22 w.heap.size (fun k_ => some k_ ≠ (.slice (some ad331) t319.length co10 : Value).ownBlock ∧ some k_ ≠ (u7 : Value).ownBlock ∧ k_ ≠ gb337) (.slice (some ad332) t322.length co18) t322) := ⟨h1_⟩
                   have n2_ : Aside0 (Kd.R k33 33 w22 w.heap.size (fun k_ => some k_ ≠ (.slice (some ad331) t319.length co10 : Value).ownBlock ∧ some k_ ≠ (.slice (some ad332) t322.length co18 : Value).ownBlock ∧ k_ ≠ gb337) u7 x7_2) := ⟨h2_⟩
                   have n3_ : Aside0 (w22.heap[gb337]? = some (.cells #[.int .i64 0, .int .i64 0] 33 (0, 0))) := ⟨h3_⟩
                   have n4_ : Aside0 (w.heap.size ≤ gb337) := ⟨h4_⟩
                   have n5_ : Aside0 (w.heap.size ≤ gb337) := ⟨h5_⟩
                   have n6_ : Aside0 (Below w.heap.size w w22) := ⟨h6_⟩
                   clear HO_5
                   clear HO_6
                   clear HO_7
                   clear HB
                   clear h0_ h1_ h2_ h3_ h4_ h5_ h6_
                   have HO_5 := n0_
                   have HO_6 := n1_
                   have HO_7 := n2_
                   have BK337 := n3_
                   have GW337 := n4_
                   have GE337 := n5_
                   have HB := n6_
                   clear n0_ n1_ n2_ n3_ n4_ n5_ n6_
                   have hHeld : w22.cell? (ad331.add ((x8_1).toNat * 2)) = some (.int .i64 ((rd_T33 t319 x8_1).f0)) ∧ w22.cell? ⟨(ad331.add ((x8_1).toNat * 2)).block, (ad331.add ((x8_1).toNat * 2)).off + 1, none⟩ = some (.int .i64 ((rd_T33 t319 x8_1).f1)) ∧ w22.cell? (ad332.add ((x9_2).toNat * 2)) = some (.int .i64 ((rd_T33 t322 x9_2).f0)) ∧ w22.cell? ⟨(ad332.add ((x9_2).toNat * 2)).block, (ad332.add ((x9_2).toNat * 2)).off + 1, none⟩ = some (.int .i64 ((rd_T33 t322 x9_2).f1)) ∧ w22.cell? (ad332.add ((x9_2).toNat * 2)) = some (.int .i64 ((rd_T33 t322 x9_2).f0)) ∧ w22.cell? ⟨(ad332.add ((x9_2).toNat * 2)).block, (ad332.add ((x9_2).toNat * 2)).off + 1, none⟩ = some (.int .i64 ((rd_T33 t322 x9_2).f1)) := hS_
                   refine norm_ (a' := ?_) ?_ ?_
                   rotate_left
                   · simp only [putAll, Act.put, List.setIfInBounds_toArray, List.set_cons_zero, List.set_cons_succ]
                     rfl
                   refine one_ (i := 19) (N := none) #[true, true, true, true, true, true, true, true, true, true, true, true, true, true, true, true, true, true, true, true, false] rfl rfl (one_of HT_.out (by kernel_rfl)) (by decide) (fun K hK => ?_)
                   have hs23 : w22.cell? ⟨gb337, 0, none⟩ = some (.int .i64 0) := zc BK337 0
                   have hfs23 := blk_frozen BK337.out 0
                   have hs24 : w22.cell? ⟨gb337, 1, none⟩ = some (.int .i64 0) := zc BK337 1
                   have hfs24 := blk_frozen BK337.out 1
                   refine skip_ (w1 := ?_) (by rfl) rfl ?_ ?_
                   rotate_left
                   · go_simp
                     rfl
                   refine hK.out _ _ ⟨((cell_far (p := ⟨gb337, _, none⟩) (by first | exact Kd.own_blk (Kd.R_away HO_5.out (fun _ hk => hk.2.2)) | (rw [add_block]; exact Kd.own_blk (Kd.R_away HO_5.out (fun _ hk => hk.2.2))) | (show (Addr.add _ _).block ≠ _; rw [add_block]; exact Kd.own_blk (Kd.R_away HO_5.out (fun _ hk => hk.2.2))) | (dsimp only; exact Kd.own_blk (Kd.R_away HO_5.out (fun _ hk => hk.2.2)))) _).trans (((cell_far (p := ⟨gb337, _, none⟩) (by first | exact Kd.own_blk (Kd.R_away HO_5.out (fun _ hk => hk.2.2)) | (rw [add_block]; exact Kd.own_blk (Kd.R_away HO_5.out (fun _ hk => hk.2.2))) | (show (Addr.add _ _).block ≠ _; rw [add_block]; exact Kd.own_blk (Kd.R_away HO_5.out (fun _ hk => hk.2.2))) | (dsimp only; exact Kd.own_blk (Kd.R_away HO_5.out (fun _ hk => hk.2.2)))) _).trans (hHeld.1)))), ((cell_far (p := ⟨gb337, _, none⟩) (by first | exact Kd.own_blk (Kd.R_away HO_5.out (fun _ hk => hk.2.2)) | (rw [add_block]; exact Kd.own_blk (Kd.R_away HO_5.out (fun _ hk => hk.2.2))) | (show (Addr.add _ _).block ≠ _; rw [add_block]; exact Kd.own_blk (Kd.R_away HO_5.out (fun _ hk => hk.2.2))) | (dsimp only; exact Kd.own_blk (Kd.R_away HO_5.out (fun _ hk => hk.2.2)))) _).trans (((cell_far (p := ⟨gb337, _, none⟩) (by first | exact Kd.own_blk (Kd.R_away HO_5.out (fun _ hk => hk.2.2)) | (rw [add_block]; exact Kd.own_blk (Kd.R_away HO_5.out (fun _ hk => hk.2.2))) | (show (Addr.add _ _).block ≠ _; rw [add_block]; exact Kd.own_blk (Kd.R_away HO_5.out (fun _ hk => hk.2.2))) | (dsimp only; exact Kd.own_blk (Kd.R_away HO_5.out (fun _ hk => hk.2.2)))) _).trans (hHeld.2.1)))), ((cell_far (p := ⟨gb337, _, none⟩) (by first | exact Kd.own_blk (Kd.R_away HO_6.out (fun _ hk => hk.2.2)) | (rw [add_block]; exact Kd.own_blk (Kd.R_away HO_6.out (fun _ hk => hk.2.2))) | (show (Addr.add _ _).block ≠ _; rw [add_block]; exact Kd.own_blk (Kd.R_away HO_6.out (fun _ hk => hk.2.2))) | (dsimp only; exact Kd.own_blk (Kd.R_away HO_6.out (fun _ hk => hk.2.2)))) _).trans (((cell_far (p := ⟨gb337, _, none⟩) (by first | exact Kd.own_blk (Kd.R_away HO_6.out (fun _ hk => hk.2.2)) | (rw [add_block]; exact Kd.own_blk (Kd.R_away HO_6.out (fun _ hk => hk.2.2))) | (show (Addr.add _ _).block ≠ _; rw [add_block]; exact Kd.own_blk (Kd.R_away HO_6.out (fun _ hk => hk.2.2))) | (dsimp only; exact Kd.own_blk (Kd.R_away HO_6.out (fun _ hk => hk.2.2)))) _).trans (hHeld.2.2.1)))), ((cell_far (p := ⟨gb337, _, none⟩) (by first | exact Kd.own_blk (Kd.R_away HO_6.out (fun _ hk => hk.2.2)) | (rw [add_block]; exact Kd.own_blk (Kd.R_away HO_6.out (fun _ hk => hk.2.2))) | (show (Addr.add _ _).block ≠ _; rw [add_block]; exact Kd.own_blk (Kd.R_away HO_6.out (fun _ hk => hk.2.2))) | (dsimp only; exact Kd.own_blk (Kd.R_away HO_6.out (fun _ hk => hk.2.2)))) _).trans (((cell_far (p := ⟨gb337, _, none⟩) (by first | exact Kd.own_blk (Kd.R_away HO_6.out (fun _ hk => hk.2.2)) | (rw [add_block]; exact Kd.own_blk (Kd.R_away HO_6.out (fun _ hk => hk.2.2))) | (show (Addr.add _ _).block ≠ _; rw [add_block]; exact Kd.own_blk (Kd.R_away HO_6.out (fun _ hk => hk.2.2))) | (dsimp only; exact Kd.own_blk (Kd.R_away HO_6.out (fun _ hk => hk.2.2)))) _).trans (hHeld.2.2.2.1)))), ((cell_far (p := ⟨gb337, _, none⟩) (by first | exact Kd.own_blk (Kd.R_away HO_6.out (fun _ hk => hk.2.2)) | (rw [add_block]; exact Kd.own_blk (Kd.R_away HO_6.out (fun _ hk => hk.2.2))) | (show (Addr.add _ _).block ≠ _; rw [add_block]; exact Kd.own_blk (Kd.R_away HO_6.out (fun _ hk => hk.2.2))) | (dsimp only; exact Kd.own_blk (Kd.R_away HO_6.out (fun _ hk => hk.2.2)))) _).trans (((cell_far (p := ⟨gb337, _, none⟩) (by first | exact Kd.own_blk (Kd.R_away HO_6.out (fun _ hk => hk.2.2)) | (rw [add_block]; exact Kd.own_blk (Kd.R_away HO_6.out (fun _ hk => hk.2.2))) | (show (Addr.add _ _).block ≠ _; rw [add_block]; exact Kd.own_blk (Kd.R_away HO_6.out (fun _ hk => hk.2.2))) | (dsimp only; exact Kd.own_blk (Kd.R_away HO_6.out (fun _ hk => hk.2.2)))) _).trans (hHeld.2.2.2.2.1)))), ((cell_far (p := ⟨gb337, _, none⟩) (by first | exact Kd.own_blk (Kd.R_away HO_6.out (fun _ hk => hk.2.2)) | (rw [add_block]; exact Kd.own_blk (Kd.R_away HO_6.out (fun _ hk => hk.2.2))) | (show (Addr.add _ _).block ≠ _; rw [add_block]; exact Kd.own_blk (Kd.R_away HO_6.out (fun _ hk => hk.2.2))) | (dsimp only; exact Kd.own_blk (Kd.R_away HO_6.out (fun _ hk => hk.2.2)))) _).trans (((cell_far (p := ⟨gb337, _, none⟩) (by first | exact Kd.own_blk (Kd.R_away HO_6.out (fun _ hk => hk.2.2)) | (rw [add_block]; exact Kd.own_blk (Kd.R_away HO_6.out (fun _ hk => hk.2.2))) | (show (Addr.add _ _).block ≠ _; rw [add_block]; exact Kd.own_blk (Kd.R_away HO_6.out (fun _ hk => hk.2.2))) | (dsimp only; exact Kd.own_blk (Kd.R_away HO_6.out (fun _ hk => hk.2.2)))) _).trans (hHeld.2.2.2.2.2))))⟩ (fun hHeld => ?_)
                   clear hK K
                   refine zp 20 11 HT_ ?_; refine zd HT_ ?_
                   obtain ⟨hcz25_0, hcz25_1⟩ := zc2 BK337
                   obtain ⟨hfz25_0, hfz25_1⟩ := zf2 BK337
                   try go_wp2_with (first | ((with_reducible refine gate_builtin (b := .append) (xs := #[.tmp 48, .tmp 50]) rfl ?_); at_builtin; refine Kd.R_append k33 (w0 := w) w.heap.size rfl (.tmp 48) (.tmp 50) 23 33 (.agg #[(.int .i64 0), (.int .i64 0)]) 16 rfl Tryd.underlying23 info33 rfl (by decide) (by omega) u7 x7_2 (⟨t334, t335⟩ : S33) [.int .i64 t334, .int .i64 t335] (fun k_ => some k_ ≠ (.slice (some ad331) t319.length co10 : Value).ownBlock ∧ some k_ ≠ (.slice (some ad332) t322.length co18 : Value).ownBlock ∧ k_ ≠ gb337) (fun _ => False) rfl (by first | (go_simp; done) | (go_simp; rfl)) ?aP (fun _ hk => hk.elim) ?aF ?aO ?aB ?aS ?aL ?_; (case aP => exact k33_mkM _ _ _ (⟨t334, t335⟩ : S33)); (case aB => exact (zB HB)); (case aF => exact (fun k_ hk => ⟨Kd.fresh' (Kd.R_lt (zQ (Kd.R_mono (Kd.R_far (p := ⟨gb337, 1, none⟩) (Kd.R_far (p := ⟨gb337, 0, none⟩) (Kd.R_mono HO_5.out (fun k_ hk => (⟨hk, hk.2.2⟩ : _ ∧ k_ ≠ gb337))) (fun _ hk => hk.2) (.int .i64 t334)) (fun _ hk => hk.2) (.int .i64 t335)) (fun _ h_ => h_.1)))) k_ hk, Kd.fresh' (Kd.R_lt (zQ (Kd.R_mono (Kd.R_far (p := ⟨gb337, 1, none⟩) (Kd.R_far (p := ⟨gb337, 0, none⟩) (Kd.R_mono HO_6.out (fun k_ hk => (⟨hk, hk.2.2⟩ : _ ∧ k_ ≠ gb337))) (fun _ hk => hk.2) (.int .i64 t334)) (fun _ hk => hk.2) (.int .i64 t335)) (fun _ h_ => h_.1)))) k_ hk, Kd.freshB (g := gb337) (o := .cells #[.int .i64 t334, .int .i64 t335] 33 (0, 0)) (by refine zL ?_; refine blk_put (cs := #[.int .i64 t334, .int .i64 0]) ?_ 1 _ rfl; refine zL ?_; refine blk_put (cs := #[.int .i64 0, .int .i64 0]) ?_ 0 _ rfl; refine zL ?_; exact BK337.out) k_ hk⟩)); (case aO => exact (by (with_reducible repeat (first | apply Kd.R_alloc | apply Kd.R_drewN | apply Kd.R_drew)); exact Kd.R_mono (Kd.R_far (p := ⟨gb337, 1, none⟩) (Kd.R_far (p := ⟨gb337, 0, none⟩) (Kd.R_mono HO_7.out (fun k_ hk => (⟨hk, hk.2.2⟩ : _ ∧ k_ ≠ gb337))) (fun _ hk => hk.2) (.int .i64 t334)) (fun _ hk => hk.2) (.int .i64 t335)) (fun _ hk => ⟨hk.1.1, ⟨hk.1.2.1, hk.1.2.2⟩⟩))); (case aS => exact (below_size (zB HB))); (case aL => have := LMc17.out; omega); intro v339 w26 ho hb hg hat; rw [← Ny338.out] at ho; replace HO_5 := Aside0.mk (Kd.R_after (ok := (fun k_ => some k_ ≠ (.slice (some ad332) t322.length co18 : Value).ownBlock ∧ k_ ≠ gb337)) (by (with_reducible repeat (first | apply Kd.R_alloc | apply Kd.R_drewN | apply Kd.R_drew)); exact Kd.R_mono (Kd.R_far (p := ⟨gb337, 1, none⟩) (Kd.R_far (p := ⟨gb337, 0, none⟩) (Kd.R_mono HO_5.out (fun k_ hk => (⟨hk, hk.2.2⟩ : _ ∧ k_ ≠ gb337))) (fun _ hk => hk.2) (.int .i64 t334)) (fun _ hk => hk.2) (.int .i64 t335)) (fun _ hk => ⟨⟨hk.1.1, hk.1.2.2⟩, hk.1.2.1⟩)) hg hat); replace HO_6 := Aside0.mk (Kd.R_after (ok := (fun k_ => some k_ ≠ (.slice (some ad331) t319.length co10 : Value).ownBlock ∧ k_ ≠ gb337)) (by (with_reducible repeat (first | apply Kd.R_alloc | apply Kd.R_drewN | apply Kd.R_drew)); exact Kd.R_mono (Kd.R_far (p := ⟨gb337, 1, none⟩) (Kd.R_far (p := ⟨gb337, 0, none⟩) (Kd.R_mono HO_6.out (fun k_ hk => (⟨hk, hk.2.2⟩ : _ ∧ k_ ≠ gb337))) (fun _ hk => hk.2) (.int .i64 t334)) (fun _ hk => hk.2) (.int .i64 t335)) (fun _ hk => ⟨⟨hk.1.1, hk.1.2.2⟩, hk.1.2.1⟩)) hg hat); replace BK337 := Aside0.mk (blk_grown (g := gb337) (o := .cells #[.int .i64 t334, .int .i64 t335] 33 (0, 0)) (by refine zL ?_; refine blk_put (cs := #[.int .i64 t334, .int .i64 0]) ?_ 1 _ rfl; refine zL ?_; refine blk_put (cs := #[.int .i64 0, .int .i64 0]) ?_ 0 _ rfl; refine zL ?_; exact BK337.out) hg (Kd.R_away HO_7.out (fun _ hk => hk.2.2))); replace HB := Aside0.mk (hb); have HO340 := Aside0.mk (ho); clear HO_7; clear ho hb hg hat))
                   go_roundg k2
                   case measure => have := HK1.out; have := HK2.out; omega
                   case rel => exact ⟨(y338), (wrap64 (x9_2 + 1)), (by first | rfl | (simp; done) | (simp [*]; done)), H', ⟨by have := HK1.out; have := HK2.out; omega⟩, ⟨by (with_reducible repeat (first | apply Kd.R_alloc | apply Kd.R_drewN | apply Kd.R_drew)); exact Kd.R_mono HO_5.out (fun _ hk => ⟨hk.1.1, hk.2⟩)⟩, ⟨by (with_reducible repeat (first | apply Kd.R_alloc | apply Kd.R_drewN | apply Kd.R_drew)); exact Kd.R_mono HO_6.out (fun _ hk => ⟨hk.1.1, hk.2⟩)⟩, ⟨by (with_reducible repeat (first | apply Kd.R_alloc | apply Kd.R_drewN | apply Kd.R_drew)); exact Kd.R_mono HO340.out (fun _ hk => ⟨hk.1, hk.2.1⟩)⟩, ⟨zB HB⟩⟩
                 · rw [if_neg c17] at H
                   exact absurd H (by simp)
               · replace c16 := Bool.eq_false_iff.mpr c16
                 subst c16
                 rw [if_neg zF] at H
                 have H' := Aside0.mk H
                 clear H
                 obtain ⟨Ao27, co27, eo27⟩ := Kd.R_slice HO_6.out
                 subst eo27
                 try go_wp2
                 replace HO_5 := Aside0.mk (Kd.R_drew HO_5.out)
                 replace HO_6 := Aside0.mk (Kd.R_drew HO_6.out)
                 replace HO_7 := Aside0.mk (Kd.R_drew HO_7.out)
                 replace HB := Aside0.mk (below_drew1 HB.out)
                 have p331 : 0 ≤ (x8_1 : Int) := za
                 have q331 : x8_1 < (t319.length : Int) := za
                 obtain ⟨ad331, e331, hx331_0, hx331_1⟩ := at_T33 (Kd.R_reads' HO_5.out).2.2 x8_1 p331 q331
                 cases e331
                 replace p331 := eq_true p331
                 replace q331 := eq_true q331
                 have p332 : 0 ≤ (x9_2 : Int) := za
                 have q332 : x9_2 < (t322.length : Int) := za
                 obtain ⟨ad332, e332, hx332_0, hx332_1⟩ := at_T33 (Kd.R_reads' HO_6.out).2.2 x9_2 p332 q332
                 cases e332
                 replace p332 := eq_true p332
                 replace q332 := eq_true q332
                 have p333 : 0 ≤ (x9_2 : Int) := za
                 have q333 : x9_2 < (t322.length : Int) := za
                 obtain ⟨ad333, e333, hx333_0, hx333_1⟩ := at_T33 (Kd.R_reads' HO_6.out).2.2 x9_2 p333 q333
                 obtain rfl : ad332 = ad333 := (by injection e333)
                 replace p333 := eq_true p333
                 replace q333 := eq_true q333
                 refine start_ (n := 21) (S := fun w' => w'.cell? (ad331.add ((x8_1).toNat * 2)) = some (.int .i64 ((rd_T33 t319 x8_1).f0)) ∧ w'.cell? ⟨(ad331.add ((x8_1).toNat * 2)).block, (ad331.add ((x8_1).toNat * 2)).off + 1, none⟩ = some (.int .i64 ((rd_T33 t319 x8_1).f1)) ∧ w'.cell? (ad332.add ((x9_2).toNat * 2)) = some (.int .i64 ((rd_T33 t322 x9_2).f0)) ∧ w'.cell? ⟨(ad332.add ((x9_2).toNat * 2)).block, (ad332.add ((x9_2).toNat * 2)).off + 1, none⟩ = some (.int .i64 ((rd_T33 t322 x9_2).f1)) ∧ w'.cell? (ad332.add ((x9_2).toNat * 2)) = some (.int .i64 ((rd_T33 t322 x9_2).f0)) ∧ w'.cell? ⟨(ad332.add ((x9_2).toNat * 2)).block, (ad332.add ((x9_2).toNat * 2)).off + 1, none⟩ = some (.int .i64 ((rd_T33 t322 x9_2).f1))) (ds := []) #[false, false, false, false, false, false, false, false, false, false, false, false, false, false, false, false, false, false, false, false, false] (by kernel_rfl) rfl rfl ⟨hx331_0, hx331_1, hx332_0, hx332_1, hx333_0, hx333_1⟩ (fun hHeld => ?_); refine with_tabW intrusionref05_Intersect.tab9 intrusionref05_Intersect.bits9 (fun HT_ HW_ => ?_)
                 generalize wr.drew = w28 at HO_5 HO_6 HO_7 HB hx331_0 hx331_1 hx332_0 hx332_1 hx333_0 hx333_1 hHeld ⊢
                 refine zp 0 30 HT_ ?_; refine zp 1 31 HT_ ?_; refine zp 2 32 HT_ ?_; refine zp 4 34 HT_ ?_; refine zp 5 35 HT_ ?_; refine zp 6 36 HT_ ?_; refine zp 7 37 HT_ ?_; refine zp 9 39 HT_ ?_; refine zp 10 40 HT_ ?_; refine zp 11 41 HT_ ?_; refine zp 12 42 HT_ ?_; refine zt 3 33 HT_ HW_ hHeld ?_; refine zt 8 38 HT_ HW_ hHeld ?_; refine zt 13 43 HT_ HW_ hHeld ?_
                 refine join_ (σ := Nat) 2 #[true, true, true, true, true, true, true, true, true, true, true, true, true, true, true, true, true, true, true, false, false] (fun s_ => [(44, .tuple #[.agg #[.int .i64 t334, .int .i64 t335], .bool false]), (10, .pointer (some ⟨s_, 0, none⟩)), (29, .tuple #[.agg #[.int .i64 t334, .int .i64 t335], .bool false]), (45, .agg #[.int .i64 t334, .int .i64 t335]), (46, .bool false)]) (fun s_ w' => (w'.cell? (ad331.add ((x8_1).toNat * 2)) = some (.int .i64 ((rd_T33 t319 x8_1).f0)) ∧ w'.cell? ⟨(ad331.add ((x8_1).toNat * 2)).block, (ad331.add ((x8_1).toNat * 2)).off + 1, none⟩ = some (.int .i64 ((rd_T33 t319 x8_1).f1)) ∧ w'.cell? (ad332.add ((x9_2).toNat * 2)) = some (.int .i64 ((rd_T33 t322 x9_2).f0)) ∧ w'.cell? ⟨(ad332.add ((x9_2).toNat * 2)).block, (ad332.add ((x9_2).toNat * 2)).off + 1, none⟩ = some (.int .i64 ((rd_T33 t322 x9_2).f1)) ∧ w'.cell? (ad332.add ((x9_2).toNat * 2)) = some (.int .i64 ((rd_T33 t322 x9_2).f0)) ∧ w'.cell? ⟨(ad332.add ((x9_2).toNat * 2)).block, (ad332.add ((x9_2).toNat * 2)).off + 1, none⟩ = some (.int .i64 ((rd_T33 t322 x9_2).f1))) ∧ (Kd.R k33 33 w' w.heap.size (fun k_ => some k_ ≠ (.slice (some ad332) t322.length co27 : Value).ownBlock ∧ some k_ ≠ (u7 : Value).ownBlock ∧ k_ ≠ s_) (.slice (some ad331) t319.length co10) t319) ∧ (Kd.R k33 33 w' w.heap.size (fun k_ => some k_ ≠ (.slice (some ad331) t319.length co10 : Value).ownBlock ∧ some k_ ≠ (u7 : Value).ownBlock ∧ k_ ≠ s_) (.slice (some ad332) t322.length co27) t322) ∧ (Kd.R k33 33 w' w.heap.size (fun k_ => some k_ ≠ (.slice (some ad331) t319.length co10 : Value).ownBlock ∧ some k_ ≠ (.slice (some ad332) t322.length co27 : Value).ownBlock ∧ k_ ≠ s_) u7 x7_2) ∧ (w'.heap[s_]? = some (.cells #[.int .i64 0, .int .i64 0] 33 (0, 0))) ∧ (w.heap.size ≤ s_) ∧ (w.heap.size ≤ s_) ∧ (Below w.heap.size w w')) ?_ ?_
                 rotate_left
                 · intro hCont
                   refine two_ (i := 14) (j := 18) (Ni := some 44) (Nj := some 10) #[true, true, true, true, true, true, true, true, true, true, true, true, true, true, true, false, false, false, false, false, false] #[true, true, true, true, true, true, true, true, true, true, true, true, true, true, false, false, false, false, true, false, false] rfl rfl rfl rfl (two_of HT_.out (by kernel_rfl)) (by decide) (by decide) (fun K hK => ?_) (fun K hK => ?_)
                   · skip
                     refine zg Tryd.func68 #[.agg #[.int .i64 ((rd_T33 t319 x8_1).f0), .int .i64 ((rd_T33 t319 x8_1).f1)], .int .i64 ((rd_T33 t322 x9_2).f0), .int .i64 ((rd_T33 t322 x9_2).f1)] ?_
                     with_reducible refine (intrusionref05_cut.calls ((rd_T33 t319 x8_1).f0) ((rd_T33 t319 x8_1).f1) ((rd_T33 t322 x9_2).f0) ((rd_T33 t322 x9_2).f1) t334 t335 false _ A15.out).mono ?_
                     rintro e w29 ⟨rfl, hb⟩
                     have HS0_ := (hb.cell (World.block_lt_of_cell? _ _ (hHeld.1))).trans (hHeld.1)
                     have HS1_ := (hb.cell (World.block_lt_of_cell? _ _ (hHeld.2.1))).trans (hHeld.2.1)
                     have HS2_ := (hb.cell (World.block_lt_of_cell? _ _ (hHeld.2.2.1))).trans (hHeld.2.2.1)
                     have HS3_ := (hb.cell (World.block_lt_of_cell? _ _ (hHeld.2.2.2.1))).trans (hHeld.2.2.2.1)
                     have HS4_ := (hb.cell (World.block_lt_of_cell? _ _ (hHeld.2.2.2.2.1))).trans (hHeld.2.2.2.2.1)
                     have HS5_ := (hb.cell (World.block_lt_of_cell? _ _ (hHeld.2.2.2.2.2))).trans (hHeld.2.2.2.2.2)
                     refine ⟨_, rfl, ?_⟩
                     replace HO_5 := Aside0.mk (Kd.R_below (zR HO_5) hb)
                     replace HO_6 := Aside0.mk (Kd.R_below (zR HO_6) hb)
                     replace HO_7 := Aside0.mk (Kd.R_below (zR HO_7) hb)
                     replace HB := Aside0.mk (below_step (zB HB) hb)
                     (try clear hb)
                     refine hK.out _ _ ⟨HS0_, HS1_, HS2_, HS3_, HS4_, HS5_⟩ (fun hHeld => ?_)
                     clear hK K
                     refine zn 44 ?_; refine zp 15 29 HT_ ?_; refine zp 16 45 HT_ ?_; refine zp 17 46 HT_ ?_; refine zo 18 10 HT_ (fun K hK => ?_)
                     refine box_step ?hg (N := 10) ?hd (cs := #[.int .i64 0, .int .i64 0]) (t := 33) ?hr ?_; (case hd => rfl); (case hg => rfl); (case hr => first | (go_simp; done) | (go_simp; rfl))
                     intro gb337 hg w30 hbox hb
                     have HS0_ := (hb.cell (World.block_lt_of_cell? _ _ (hHeld.1))).trans (hHeld.1)
                     have HS1_ := (hb.cell (World.block_lt_of_cell? _ _ (hHeld.2.1))).trans (hHeld.2.1)
                     have HS2_ := (hb.cell (World.block_lt_of_cell? _ _ (hHeld.2.2.1))).trans (hHeld.2.2.1)
                     have HS3_ := (hb.cell (World.block_lt_of_cell? _ _ (hHeld.2.2.2.1))).trans (hHeld.2.2.2.1)
                     have HS4_ := (hb.cell (World.block_lt_of_cell? _ _ (hHeld.2.2.2.2.1))).trans (hHeld.2.2.2.2.1)
                     have HS5_ := (hb.cell (World.block_lt_of_cell? _ _ (hHeld.2.2.2.2.2))).trans (hHeld.2.2.2.2.2)
                     replace HO_5 := Aside0.mk (Kd.R_below (Kd.R_elderB (zR HO_5) gb337 (Nat.le_of_eq hg.symm)) hb)
                     replace HO_6 := Aside0.mk (Kd.R_below (Kd.R_elderB (zR HO_6) gb337 (Nat.le_of_eq hg.symm)) hb)
                     replace HO_7 := Aside0.mk (Kd.R_below (Kd.R_elderB (zR HO_7) gb337 (Nat.le_of_eq hg.symm)) hb)
                     have BK337 := Aside0.mk (hbox)
                     have GW337 := Aside0.mk ((by rw [hg]; exact (below_size (zB HB)) : w.heap.size ≤ gb337))
                     have GE337 := Aside0.mk ((by rw [hg]; exact (below_size (zB HB)) : w.heap.size ≤ gb337))
                     replace HB := Aside0.mk (below_step (zB HB) hb)
                     clear hb hbox hg
                     refine hK.out _ _ ⟨HS0_, HS1_, HS2_, HS3_, HS4_, HS5_⟩ (fun hHeld => ?_)
                     clear hK K
                     refine zn 10 ?_
                     exact norm_ (by simp only [putAll, Act.put, List.setIfInBounds_toArray, List.set_cons_zero, List.set_cons_succ]) (hCont (gb337) _ ⟨hHeld, (by (with_reducible repeat (first | apply Kd.R_alloc | apply Kd.R_drewN | apply Kd.R_drew)); exact Kd.R_mono HO_5.out (fun _ hk => ⟨hk.1.1, ⟨hk.1.2, hk.2⟩⟩)), (by (with_reducible repeat (first | apply Kd.R_alloc | apply Kd.R_drewN | apply Kd.R_drew)); exact Kd.R_mono HO_6.out (fun _ hk => ⟨hk.1.1, ⟨hk.1.2, hk.2⟩⟩)), (by (with_reducible repeat (first | apply Kd.R_alloc | apply Kd.R_drewN | apply Kd.R_drew)); exact Kd.R_mono HO_7.out (fun _ hk => ⟨hk.1.1, ⟨hk.1.2, hk.2⟩⟩)), (zK BK337), GW337.out, GE337.out, (zB HB)⟩)
                   · skip
                     refine box_step ?hg (N := 10) ?hd (cs := #[.int .i64 0, .int .i64 0]) (t := 33) ?hr ?_; (case hd => rfl); (case hg => rfl); (case hr => first | (go_simp; done) | (go_simp; rfl))
                     intro gb337 hg w29 hbox hb
                     have HS0_ := (hb.cell (World.block_lt_of_cell? _ _ (hHeld.1))).trans (hHeld.1)
                     have HS1_ := (hb.cell (World.block_lt_of_cell? _ _ (hHeld.2.1))).trans (hHeld.2.1)
                     have HS2_ := (hb.cell (World.block_lt_of_cell? _ _ (hHeld.2.2.1))).trans (hHeld.2.2.1)
                     have HS3_ := (hb.cell (World.block_lt_of_cell? _ _ (hHeld.2.2.2.1))).trans (hHeld.2.2.2.1)
                     have HS4_ := (hb.cell (World.block_lt_of_cell? _ _ (hHeld.2.2.2.2.1))).trans (hHeld.2.2.2.2.1)
                     have HS5_ := (hb.cell (World.block_lt_of_cell? _ _ (hHeld.2.2.2.2.2))).trans (hHeld.2.2.2.2.2)
                     replace HO_5 := Aside0.mk (Kd.R_below (Kd.R_elderB (zR HO_5) gb337 (Nat.le_of_eq hg.symm)) hb)
                     replace HO_6 := Aside0.mk (Kd.R_below (Kd.R_elderB (zR HO_6) gb337 (Nat.le_of_eq hg.symm)) hb)
                     replace HO_7 := Aside0.mk (Kd.R_below (Kd.R_elderB (zR HO_7) gb337 (Nat.le_of_eq hg.symm)) hb)
                     have BK337 := Aside0.mk (hbox)
                     have GW337 := Aside0.mk ((by rw [hg]; exact (below_size (zB HB)) : w.heap.size ≤ gb337))
                     have GE337 := Aside0.mk ((by rw [hg]; exact (below_size (zB HB)) : w.heap.size ≤ gb337))
                     replace HB := Aside0.mk (below_step (zB HB) hb)
                     clear hb hbox hg
                     refine hK.out _ _ ⟨HS0_, HS1_, HS2_, HS3_, HS4_, HS5_⟩ (fun hHeld => ?_)
                     clear hK K
                     refine zn 10 ?_; refine zo 14 44 HT_ (fun K hK => ?_)
                     refine zg Tryd.func68 #[.agg #[.int .i64 ((rd_T33 t319 x8_1).f0), .int .i64 ((rd_T33 t319 x8_1).f1)], .int .i64 ((rd_T33 t322 x9_2).f0), .int .i64 ((rd_T33 t322 x9_2).f1)] ?_
                     with_reducible refine (intrusionref05_cut.calls ((rd_T33 t319 x8_1).f0) ((rd_T33 t319 x8_1).f1) ((rd_T33 t322 x9_2).f0) ((rd_T33 t322 x9_2).f1) t334 t335 false _ A15.out).mono ?_
                     rintro e w30 ⟨rfl, hb⟩
                     have HS0_ := (hb.cell (World.block_lt_of_cell? _ _ (hHeld.1))).trans (hHeld.1)
                     have HS1_ := (hb.cell (World.block_lt_of_cell? _ _ (hHeld.2.1))).trans (hHeld.2.1)
                     have HS2_ := (hb.cell (World.block_lt_of_cell? _ _ (hHeld.2.2.1))).trans (hHeld.2.2.1)
                     have HS3_ := (hb.cell (World.block_lt_of_cell? _ _ (hHeld.2.2.2.1))).trans (hHeld.2.2.2.1)
                     have HS4_ := (hb.cell (World.block_lt_of_cell? _ _ (hHeld.2.2.2.2.1))).trans (hHeld.2.2.2.2.1)
                     have HS5_ := (hb.cell (World.block_lt_of_cell? _ _ (hHeld.2.2.2.2.2))).trans (hHeld.2.2.2.2.2)
                     refine ⟨_, rfl, ?_⟩
                     replace HO_5 := Aside0.mk (Kd.R_below (zR HO_5) hb)
                     replace HO_6 := Aside0.mk (Kd.R_below (zR HO_6) hb)
                     replace HO_7 := Aside0.mk (Kd.R_below (zR HO_7) hb)
                     replace BK337 := Aside0.mk (blk_below (g := gb337) (o := .cells #[.int .i64 0, .int .i64 0] 33 (0, 0)) (zK BK337) hb)
                     replace HB := Aside0.mk (below_step (zB HB) hb)
                     (try clear hb)
                     refine hK.out _ _ ⟨HS0_, HS1_, HS2_, HS3_, HS4_, HS5_⟩ (fun hHeld => ?_)
                     clear hK K
                     refine zn 44 ?_; refine zp 15 29 HT_ ?_; refine zp 16 45 HT_ ?_; refine zp 17 46 HT_ ?_
                     exact norm_ (by simp only [putAll, Act.put, List.setIfInBounds_toArray, List.set_cons_zero, List.set_cons_succ]) (hCont (gb337) _ ⟨hHeld, (by (with_reducible repeat (first | apply Kd.R_alloc | apply Kd.R_drewN | apply Kd.R_drew)); exact Kd.R_mono HO_5.out (fun _ hk => ⟨hk.1.1, ⟨hk.1.2, hk.2⟩⟩)), (by (with_reducible repeat (first | apply Kd.R_alloc | apply Kd.R_drewN | apply Kd.R_drew)); exact Kd.R_mono HO_6.out (fun _ hk => ⟨hk.1.1, ⟨hk.1.2, hk.2⟩⟩)), (by (with_reducible repeat (first | apply Kd.R_alloc | apply Kd.R_drewN | apply Kd.R_drew)); exact Kd.R_mono HO_7.out (fun _ hk => ⟨hk.1.1, ⟨hk.1.2, hk.2⟩⟩)), (zK BK337), GW337.out, GE337.out, (zB HB)⟩)
                 rintro gb337 w31 ⟨hS_, h0_, h1_, h2_, h3_, h4_, h5_, h6_⟩
                 have n0_ : Aside0 (Kd.R k33 33 w31 w.heap.size (fun k_ => some k_ ≠ (.slice (some ad332) t322.length co27 : Value).ownBlock ∧ some k_ ≠ (u7 : Value).ownBlock ∧ k_ ≠ gb337) (.slice (some ad331) t319.length co10) t319) := ⟨h0_⟩
                 have n1_ : Aside0 (Kd.R k33 33 w31 w.heap.size (fun k_ => some k_ ≠ (.slice (some ad331) t319.length co10 : Value).ownBlock ∧ some k_ ≠ (u7 : Value).ownBlock ∧ k_ ≠ gb337) (.slice (some ad332) t322.length co27) t322) := ⟨h1_⟩
                 have n2_ : Aside0 (Kd.R k33 33 w31 w.heap.size (fun k_ => some k_ ≠ (.slice (some ad331) t319.length co10 : Value).ownBlock ∧ some k_ ≠ (.slice (some ad332) t322.length co27 : Value).ownBlock ∧ k_ ≠ gb337) u7 x7_2) := ⟨h2_⟩
                 have n3_ : Aside0 (w31.heap[gb337]? = some (.cells #[.int .i64 0, .int .i64 0] 33 (0, 0))) := ⟨h3_⟩
                 have n4_ : Aside0 (w.heap.size ≤ gb337) := ⟨h4_⟩
                 have n5_ : Aside0 (w.heap.size ≤ gb337) := ⟨h5_⟩
                 have n6_ : Aside0 (Below w.heap.size w w31) := ⟨h6_⟩
                 clear HO_5
                 clear HO_6
                 clear HO_7
                 clear HB
                 clear h0_ h1_ h2_ h3_ h4_ h5_ h6_
                 have HO_5 := n0_
                 have HO_6 := n1_
                 have HO_7 := n2_
                 have BK337 := n3_
                 have GW337 := n4_
                 have GE337 := n5_
                 have HB := n6_
                 clear n0_ n1_ n2_ n3_ n4_ n5_ n6_
                 have hHeld : w31.cell? (ad331.add ((x8_1).toNat * 2)) = some (.int .i64 ((rd_T33 t319 x8_1).f0)) ∧ w31.cell? ⟨(ad331.add ((x8_1).toNat * 2)).block, (ad331.add ((x8_1).toNat * 2)).off + 1, none⟩ = some (.int .i64 ((rd_T33 t319 x8_1).f1)) ∧ w31.cell? (ad332.add ((x9_2).toNat * 2)) = some (.int .i64 ((rd_T33 t322 x9_2).f0)) ∧ w31.cell? ⟨(ad332.add ((x9_2).toNat * 2)).block, (ad332.add ((x9_2).toNat * 2)).off + 1, none⟩ = some (.int .i64 ((rd_T33 t322 x9_2).f1)) ∧ w31.cell? (ad332.add ((x9_2).toNat * 2)) = some (.int .i64 ((rd_T33 t322 x9_2).f0)) ∧ w31.cell? ⟨(ad332.add ((x9_2).toNat * 2)).block, (ad332.add ((x9_2).toNat * 2)).off + 1, none⟩ = some (.int .i64 ((rd_T33 t322 x9_2).f1)) := hS_
                 refine norm_ (a' := ?_) ?_ ?_
                 rotate_left
                 · simp only [putAll, Act.put, List.setIfInBounds_toArray, List.set_cons_zero, List.set_cons_succ]
                   rfl
                 refine one_ (i := 19) (N := none) #[true, true, true, true, true, true, true, true, true, true, true, true, true, true, true, true, true, true, true, true, false] rfl rfl (one_of HT_.out (by kernel_rfl)) (by decide) (fun K hK => ?_)
                 have hs32 : w31.cell? ⟨gb337, 0, none⟩ = some (.int .i64 0) := zc BK337 0
                 have hfs32 := blk_frozen BK337.out 0
                 have hs33 : w31.cell? ⟨gb337, 1, none⟩ = some (.int .i64 0) := zc BK337 1
                 have hfs33 := blk_frozen BK337.out 1
                 refine skip_ (w1 := ?_) (by rfl) rfl ?_ ?_
                 rotate_left
                 · go_simp
                   rfl
                 refine hK.out _ _ ⟨((cell_far (p := ⟨gb337, _, none⟩) (by first | exact Kd.own_blk (Kd.R_away HO_5.out (fun _ hk => hk.2.2)) | (rw [add_block]; exact Kd.own_blk (Kd.R_away HO_5.out (fun _ hk => hk.2.2))) | (show (Addr.add _ _).block ≠ _; rw [add_block]; exact Kd.own_blk (Kd.R_away HO_5.out (fun _ hk => hk.2.2))) | (dsimp only; exact Kd.own_blk (Kd.R_away HO_5.out (fun _ hk => hk.2.2)))) _).trans (((cell_far (p := ⟨gb337, _, none⟩) (by first | exact Kd.own_blk (Kd.R_away HO_5.out (fun _ hk => hk.2.2)) | (rw [add_block]; exact Kd.own_blk (Kd.R_away HO_5.out (fun _ hk => hk.2.2))) | (show (Addr.add _ _).block ≠ _; rw [add_block]; exact Kd.own_blk (Kd.R_away HO_5.out (fun _ hk => hk.2.2))) | (dsimp only; exact Kd.own_blk (Kd.R_away HO_5.out (fun _ hk => hk.2.2)))) _).trans (hHeld.1)))), ((cell_far (p := ⟨gb337, _, none⟩) (by first | exact Kd.own_blk (Kd.R_away HO_5.out (fun _ hk => hk.2.2)) | (rw [add_block]; exact Kd.own_blk (Kd.R_away HO_5.out (fun _ hk => hk.2.2))) | (show (Addr.add _ _).block ≠ _; rw [add_block]; exact Kd.own_blk (Kd.R_away HO_5.out (fun _ hk => hk.2.2))) | (dsimp only; exact Kd.own_blk (Kd.R_away HO_5.out (fun _ hk => hk.2.2)))) _).trans (((cell_far (p := ⟨gb337, _, none⟩) (by first | exact Kd.own_blk (Kd.R_away HO_5.out (fun _ hk => hk.2.2)) | (rw [add_block]; exact Kd.own_blk (Kd.R_away HO_5.out (fun _ hk => hk.2.2))) | (show (Addr.add _ _).block ≠ _; rw [add_block]; exact Kd.own_blk (Kd.R_away HO_5.out (fun _ hk => hk.2.2))) | (dsimp only; exact Kd.own_blk (Kd.R_away HO_5.out (fun _ hk => hk.2.2)))) _).trans (hHeld.2.1)))), ((cell_far (p := ⟨gb337, _, none⟩) (by first | exact Kd.own_blk (Kd.R_away HO_6.out (fun _ hk => hk.2.2)) | (rw [add_block]; exact Kd.own_blk (Kd.R_away HO_6.out (fun _ hk => hk.2.2))) | (show (Addr.add _ _).block ≠ _; rw [add_block]; exact Kd.own_blk (Kd.R_away HO_6.out (fun _ hk => hk.2.2))) | (dsimp only; exact Kd.own_blk (Kd.R_away HO_6.out (fun _ hk => hk.2.2)))) _).trans (((cell_far (p := ⟨gb337, _, none⟩) (by first | exact Kd.own_blk (Kd.R_away HO_6.out (fun _ hk => hk.2.2)) | (rw [add_block]; exact Kd.own_blk (Kd.R_away HO_6.out (fun _ hk => hk.2.2))) | (show (Addr.add _ _).block ≠ _; rw [add_block]; exact Kd.own_blk (Kd.R_away HO_6.out (fun _ hk => hk.2.2))) | (dsimp only; exact Kd.own_blk (Kd.R_away HO_6.out (fun _ hk => hk.2.2)))) _).trans (hHeld.2.2.1)))), ((cell_far (p := ⟨gb337, _, none⟩) (by first | exact Kd.own_blk (Kd.R_away HO_6.out (fun _ hk => hk.2.2)) | (rw [add_block]; exact Kd.own_blk (Kd.R_away HO_6.out (fun _ hk => hk.2.2))) | (show (Addr.add _ _).block ≠ _; rw [add_block]; exact Kd.own_blk (Kd.R_away HO_6.out (fun _ hk => hk.2.2))) | (dsimp only; exact Kd.own_blk (Kd.R_away HO_6.out (fun _ hk => hk.2.2)))) _).trans (((cell_far (p := ⟨gb337, _, none⟩) (by first | exact Kd.own_blk (Kd.R_away HO_6.out (fun _ hk => hk.2.2)) | (rw [add_block]; exact Kd.own_blk (Kd.R_away HO_6.out (fun _ hk => hk.2.2))) | (show (Addr.add _ _).block ≠ _; rw [add_block]; exact Kd.own_blk (Kd.R_away HO_6.out (fun _ hk => hk.2.2))) | (dsimp only; exact Kd.own_blk (Kd.R_away HO_6.out (fun _ hk => hk.2.2)))) _).trans (hHeld.2.2.2.1)))), ((cell_far (p := ⟨gb337, _, none⟩) (by first | exact Kd.own_blk (Kd.R_away HO_6.out (fun _ hk => hk.2.2)) | (rw [add_block]; exact Kd.own_blk (Kd.R_away HO_6.out (fun _ hk => hk.2.2))) | (show (Addr.add _ _).block ≠ _; rw [add_block]; exact Kd.own_blk (Kd.R_away HO_6.out (fun _ hk => hk.2.2))) | (dsimp only; exact Kd.own_blk (Kd.R_away HO_6.out (fun _ hk => hk.2.2)))) _).trans (((cell_far (p := ⟨gb337, _, none⟩) (by first | exact Kd.own_blk (Kd.R_away HO_6.out (fun _ hk => hk.2.2)) | (rw [add_block]; exact Kd.own_blk (Kd.R_away HO_6.out (fun _ hk => hk.2.2))) | (show (Addr.add _ _).block ≠ _; rw [add_block]; exact Kd.own_blk (Kd.R_away HO_6.out (fun _ hk => hk.2.2))) | (dsimp only; exact Kd.own_blk (Kd.R_away HO_6.out (fun _ hk => hk.2.2)))) _).trans (hHeld.2.2.2.2.1)))), ((cell_far (p := ⟨gb337, _, none⟩) (by first | exact Kd.own_blk (Kd.R_away HO_6.out (fun _ hk => hk.2.2)) | (rw [add_block]; exact Kd.own_blk (Kd.R_away HO_6.out (fun _ hk => hk.2.2))) | (show (Addr.add _ _).block ≠ _; rw [add_block]; exact Kd.own_blk (Kd.R_away HO_6.out (fun _ hk => hk.2.2))) | (dsimp only; exact Kd.own_blk (Kd.R_away HO_6.out (fun _ hk => hk.2.2)))) _).trans (((cell_far (p := ⟨gb337, _, none⟩) (by first | exact Kd.own_blk (Kd.R_away HO_6.out (fun _ hk => hk.2.2)) | (rw [add_block]; exact Kd.own_blk (Kd.R_away HO_6.out (fun _ hk => hk.2.2))) | (show (Addr.add _ _).block ≠ _; rw [add_block]; exact Kd.own_blk (Kd.R_away HO_6.out (fun _ hk => hk.2.2))) | (dsimp only; exact Kd.own_blk (Kd.R_away HO_6.out (fun _ hk => hk.2.2)))) _).trans (hHeld.2.2.2.2.2))))⟩ (fun hHeld => ?_)
                 clear hK K
                 refine zp 20 11 HT_ ?_; refine zd HT_ ?_
                 try go_wp2
                 go_roundg k2
                 case measure => have := HK1.out; have := HK2.out; omega
                 case rel => exact ⟨(x7_2), (wrap64 (x9_2 + 1)), (by first | rfl | (simp; done) | (simp [*]; done)), H', ⟨by have := HK1.out; have := HK2.out; omega⟩, ⟨by (with_reducible repeat (first | apply Kd.R_alloc | apply Kd.R_drewN | apply Kd.R_drew)); exact Kd.R_mono (Kd.R_far (p := ⟨gb337, 1, none⟩) (Kd.R_far (p := ⟨gb337, 0, none⟩) (Kd.R_mono HO_5.out (fun k_ hk => (⟨hk, hk.2.2⟩ : _ ∧ k_ ≠ gb337))) (fun _ hk => hk.2) (.int .i64 t334)) (fun _ hk => hk.2) (.int .i64 t335)) (fun _ hk => ⟨hk.1.1, hk.1.2.1⟩)⟩, ⟨by (with_reducible repeat (first | apply Kd.R_alloc | apply Kd.R_drewN | apply Kd.R_drew)); exact Kd.R_mono (Kd.R_far (p := ⟨gb337, 1, none⟩) (Kd.R_far (p := ⟨gb337, 0, none⟩) (Kd.R_mono HO_6.out (fun k_ hk => (⟨hk, hk.2.2⟩ : _ ∧ k_ ≠ gb337))) (fun _ hk => hk.2) (.int .i64 t334)) (fun _ hk => hk.2) (.int .i64 t335)) (fun _ hk => ⟨hk.1.1, hk.1.2.1⟩)⟩, ⟨by (with_reducible repeat (first | apply Kd.R_alloc | apply Kd.R_drewN | apply Kd.R_drew)); exact Kd.R_mono (Kd.R_far (p := ⟨gb337, 1, none⟩) (Kd.R_far (p := ⟨gb337, 0, none⟩) (Kd.R_mono HO_7.out (fun k_ hk => (⟨hk, hk.2.2⟩ : _ ∧ k_ ≠ gb337))) (fun _ hk => hk.2) (.int .i64 t334)) (fun _ hk => hk.2) (.int .i64 t335)) (fun _ hk => ⟨hk.1.1, hk.1.2.1⟩)⟩, ⟨zB HB⟩⟩
             · rw [if_neg c14] at H
               exact absurd H (by simp)
           · rw [if_neg c13] at H
             exact absurd H (by simp)
         · rw [if_neg c12] at H
           exact absurd H (by simp)
       · rw [if_neg c11] at H
         have c11b0 : decide (x9_2 < (t322.length : Int)) = false := decide_eq_false c11
         clear c11
         have H' := Aside0.mk H
         clear H
         obtain ⟨Ao34, co34, eo34⟩ := Kd.R_slice HO_6.out
         subst eo34
         go_wp2
         go_roundg k2
         case measure => have := HK1.out; have := HK2.out; omega
         case rel => exact ⟨(x7_2), (wrap64 (x8_1 + 1)), (by first | rfl | (simp; done) | (simp [*]; done)), H', ⟨by have := HK1.out; have := HK2.out; omega⟩, ⟨zR HO_5⟩, ⟨zR HO_6⟩, ⟨zR HO_7⟩, ⟨zB HB⟩⟩
   · rw [if_neg c9] at H
     have c9b0 : decide (x8_1 < (t319.length : Int)) = false := decide_eq_false c9
     clear c9
     replace H := Option.bind_eq_some_iff.mp H
     obtain ⟨t328, A350, H⟩ := H
     try dsimp only at H
     have A35 := Aside0.mk A350
     clear A350
     obtain rfl := Option.some.inj H
     obtain ⟨Ao36, co36, eo36⟩ := Kd.R_slice HO_5.out
     subst eo36
     obtain ⟨Ao37, co37, eo37⟩ := Kd.R_slice HO_7.out
     subst eo37
     go_wp2_with (first | ((with_reducible refine gate_callee (f := 67) rfl ?_); refine goesL_ (some 53) rfl rfl Tryd.func67 (by kernel_rfl) rfl #[.slice Ao37 x7_1.length co37] rfl (by (try simp only [List.map_toArray, List.map_cons, List.map_nil]); first | done | rfl | (simp only [List.length_drop, List.length_take]; rfl)) ?_; (with_reducible refine (intrusionref05_Normal.calls k1 _ _ x7_1 t328 _ ?side1 ?side2 A35.out).mono ?_); (case side1 => repeat (first | exact (Kd.R_reads' HO_7.out).2.2 | (with_reducible refine Kd.C_alloc ?_ _) | (with_reducible refine Kd.C_drewN ?_ _) | (with_reducible refine Kd.C_drew ?_))); (case side2 => exact (Kd.R_reads' HO_7.out).2.1); rintro e w38 ⟨v329, rfl, ho0, hb⟩; refine ⟨_, rfl, ?_⟩; have HO330 := Aside0.mk (Kd.R_lower (Kd.R_new' (Kd.R_new' (Kd.R_new' ho0 (Kd.R_lt (zR HO_5))) (Kd.R_lt (zR HO_6))) (Kd.R_lt (zR HO_7))) (below_size (zB HB))); replace HO_5 := Aside0.mk (Kd.R_elder' (zR HO_5) (Kd.R_base ho0) hb); replace HO_6 := Aside0.mk (Kd.R_elder' (zR HO_6) (Kd.R_base ho0) hb); replace HO_7 := Aside0.mk (Kd.R_elder' (zR HO_7) (Kd.R_base ho0) hb); replace HB := Aside0.mk (below_step (zB HB) hb); (try clear hb); (try clear ho0)))
     go_ret
     exact ⟨_, by first | rfl | (simp [errW_none, errW_some] <;> rfl) | (simp [*, errW_none, errW_some] <;> rfl), by (with_reducible repeat (first | apply Kd.R_alloc | apply Kd.R_drewN | apply Kd.R_drew)); exact Kd.R_mono HO330.out (fun _ hk => trivial), by repeat (first | (with_reducible first | exact HB.out | apply below_alloc | apply pw_below_drewN | apply below_drew1) | exact HB.out)⟩
end Go.Proofs.YtbimdjciacnioaaDoor.Q
end

section
namespace Go.Proofs.YtbimdjciacnioaaDoor.Q
open Go.RowKit Go.Proofs.YtbimdjciacnioaaDoorW.PrintWords Go.Proofs.YtbimdjciacnioaaDoorW.PrintLast Go.Proofs.YtbimdjciacnioaaDoorW.PrintMore
attribute [local go_sem] max2_int min2_int max_two min_two max_three min_three max_four min_four
set_option linter.unusedVariables false
set_option linter.unusedSimpArgs false
def intrusionref08_ports.f (k : Nat) (l0 : List (S33)) : Option ((List (S33))) := (intrusionref08_All.f).bind fun t341 => ((intrusionref05_Intersect.f k l0 t341).bind fun t344 => (some t344))
theorem intrusionref08_ports.mono : ∀ a0 k, LeO (intrusionref08_ports.f k a0) (intrusionref08_ports.f (k + 1) a0) := by
  intro a0 k
  unfold intrusionref08_ports.f
  repeat' first
      | (with_reducible exact intrusionref05_Intersect.mono _ _ _)
      | (with_reducible exact LeO.refl _)
      | (with_reducible exact LeO.none _)
      | (with_reducible refine LeO.ite ?_ ?_)
      | (with_reducible refine LeO.bind ?_ (fun _ => ?_))
      | exact intrusionref05_Intersect.mono _ _ _
      | exact LeO.none _
      | refine LeO.ite ?_ ?_
      | refine LeO.bind ?_ (fun _ => ?_)
set_option maxHeartbeats 8000000 in
set_option maxRecDepth 100000 in
theorem intrusionref08_ports.calls (k : Nat) (A0 : Option Addr) (c0 : Nat) (l0 : List (S33)) (r : List (S33)) (w : World) (hr0 : Kd.C k33 w A0 l0.length l0) (hc0 : l0.length ≤ c0) (h : intrusionref08_ports.f k l0 = some r) :
 Calls Tryd.prog 33 #[.slice A0 l0.length c0] w fun e w' => ∃ v0_ : Value, e = .returned (v0_) ∧ Kd.R k33 33 w' w.heap.size (fun _ => True) v0_ r ∧ Below w.heap.size w w' := by
 have HR0 := Aside0.mk hr0
 have HC0 := Aside0.mk hc0
 clear hr0 hc0
 have HB := Aside0.mk (Below.refl w.heap.size w)
 unfold intrusionref08_ports.f at h; have H := h
 clear h
 replace H := Option.bind_eq_some_iff.mp H
 obtain ⟨t341, A20, H⟩ := H
 try dsimp only at H
 have A2 := Aside0.mk A20
 clear A20
 replace H := Option.bind_eq_some_iff.mp H
 obtain ⟨t344, A30, H⟩ := H
 try dsimp only at H
 have A3 := Aside0.mk A30
 clear A30
 obtain rfl := Option.some.inj H
 go_enter Tryd.func33, Tryd.ntmps33
 go_wp2_with (first | ((with_reducible refine gate_callee (f := 28) rfl ?_); refine goesL_ (some 4) rfl rfl Tryd.func28 (by kernel_rfl) rfl #[] rfl (by (try simp only [List.map_toArray, List.map_cons, List.map_nil]); first | done | rfl | (simp only [List.length_drop, List.length_take]; rfl)) ?_; (with_reducible refine (intrusionref08_All.calls  t341 _ A2.out).mono ?_); rintro e w4 ⟨v342, rfl, ho0, hb⟩; refine ⟨_, rfl, ?_⟩; have HO343 := Aside0.mk (Kd.R_lower ho0 (below_size (zB HB))); replace HB := Aside0.mk (below_step (zB HB) hb); (try clear hb); (try clear ho0); obtain ⟨Ao5, co5, eo5⟩ := Kd.R_slice HO343.out; subst eo5) | ((with_reducible refine gate_callee (f := 52) rfl ?_); refine goesL_ (some 5) rfl rfl Tryd.func52 (by kernel_rfl) rfl #[.slice A0 l0.length c0, .slice Ao5 t341.length co5] rfl (by (try simp only [List.map_toArray, List.map_cons, List.map_nil]); first | done | rfl | (simp only [List.length_drop, List.length_take]; rfl)) ?_; (with_reducible refine (intrusionref05_Intersect.calls k _ _ l0 _ _ t341 t344 _ ?side1 ?side2 ?side3 ?side4 A3.out).mono ?_); (case side1 => repeat (first | exact (Kd.C_below HR0.out HB.out) | (with_reducible refine Kd.C_alloc ?_ _) | (with_reducible refine Kd.C_drewN ?_ _) | (with_reducible refine Kd.C_drew ?_))); (case side2 => exact HC0.out); (case side3 => repeat (first | exact (Kd.R_reads' HO343.out).2.2 | (with_reducible refine Kd.C_alloc ?_ _) | (with_reducible refine Kd.C_drewN ?_ _) | (with_reducible refine Kd.C_drew ?_))); (case side4 => exact (Kd.R_reads' HO343.out).2.1); rintro e w6 ⟨v345, rfl, ho0, hb⟩; refine ⟨_, rfl, ?_⟩; have HO346 := Aside0.mk (Kd.R_lower (Kd.R_new' ho0 (Kd.R_lt (zR HO343))) (below_size (zB HB))); replace HO343 := Aside0.mk (Kd.R_elder' (zR HO343) (Kd.R_base ho0) hb); replace HB := Aside0.mk (below_step (zB HB) hb); (try clear hb); (try clear ho0)))
 go_ret
 exact ⟨_, by first | rfl | (simp [errW_none, errW_some] <;> rfl) | (simp [*, errW_none, errW_some] <;> rfl), by (with_reducible repeat (first | apply Kd.R_alloc | apply Kd.R_drewN | apply Kd.R_drew)); exact Kd.R_mono HO346.out (fun _ hk => trivial), by repeat (first | (with_reducible first | exact HB.out | apply below_alloc | apply pw_below_drewN | apply below_drew1) | exact HB.out)⟩
end Go.Proofs.YtbimdjciacnioaaDoor.Q
end

section
namespace Go.Proofs.YtbimdjciacnioaaDoor.Q
open Go.RowKit Go.Proofs.YtbimdjciacnioaaDoorW.PrintWords Go.Proofs.YtbimdjciacnioaaDoorW.PrintLast Go.Proofs.YtbimdjciacnioaaDoorW.PrintMore
attribute [local go_sem] max2_int min2_int max_two min_two max_three min_three max_four min_four
set_option linter.unusedVariables false
set_option linter.unusedSimpArgs false
mutual
def intrusionref05_Complement.l0 : Nat → Int → Int → List (S33) → List (S33) → Int → Option ((List (S33)))
  | 0, _, _, _, _, _ => none
  | k + 1, x1, x2, x7, x8, x9 => if x9 < (x7.length : Int) then (intrusionref05_Complement.j1 k x1 x2 x7 x8 x9 (decide (x1 ≤ x2))) else (intrusionref05_Complement.j1 k x1 x2 x7 x8 x9 false)
def intrusionref05_Complement.j1 : Nat → Int → Int → List (S33) → List (S33) → Int → Bool → Option ((List (S33)))
  | 0, _, _, _, _, _, _ => none
  | k + 1, x1, x2, x7, x8, x9, x26 => if x26 = true then (if 0 ≤ x9 then (if x9 < (x7.length : Int) then (if x1 ≤ (mn x2 (wrap64 (((rd_T33 x7 x9).f0) - 1))) then (if x8.length < 8796093022208 then (intrusionref05_Complement.l0 k (mx x1 (wrap64 (((rd_T33 x7 x9).f1) + 1))) x2 x7 (x8 ++ [(⟨x1, mn x2 (wrap64 (((rd_T33 x7 x9).f0) - 1))⟩ : S33)]) (wrap64 (x9 + 1))) else (none)) else (intrusionref05_Complement.l0 k (mx x1 (wrap64 (((rd_T33 x7 x9).f1) + 1))) x2 x7 x8 (wrap64 (x9 + 1)))) else (none)) else (none)) else (if x1 ≤ x2 then (if x8.length < 8796093022208 then (some (x8 ++ [(⟨x1, x2⟩ : S33)])) else (none)) else (some x8))
end
def intrusionref05_Complement.f (k : Nat) (l0 : List (S33)) (a1 : Int) (a2 : Int) : Option ((List (S33))) := (intrusionref05_Normal.f k l0).bind fun t347 => (intrusionref05_Complement.l0 k (mx a1 0) (mn a2 4294967296) t347 (([] : List (S33))) 0)
theorem intrusionref05_Complement.mono_l : ∀ k, (∀ y0 y1 y2 y3 y4, LeO (intrusionref05_Complement.l0 k y0 y1 y2 y3 y4) (intrusionref05_Complement.l0 (k + 1) y0 y1 y2 y3 y4)) ∧ (∀ y0 y1 y2 y3 y4 y5, LeO (intrusionref05_Complement.j1 k y0 y1 y2 y3 y4 y5) (intrusionref05_Complement.j1 (k + 1) y0 y1 y2 y3 y4 y5))
  | 0 => ⟨fun _ _ _ _ _ r h => by simp [intrusionref05_Complement.l0] at h, fun _ _ _ _ _ _ r h => by simp [intrusionref05_Complement.j1] at h⟩
  | k + 1 => by
    obtain ⟨ih0, ih1⟩ := intrusionref05_Complement.mono_l k
    refine ⟨?_, ?_⟩
    · intro y0 y1 y2 y3 y4
      unfold intrusionref05_Complement.l0
      repeat' first
      | (with_reducible exact ih0 _ _ _ _ _)
      | (with_reducible exact ih1 _ _ _ _ _ _)
      | (with_reducible exact intrusionref05_Normal.mono _ _)
      | (with_reducible exact LeO.refl _)
      | (with_reducible exact LeO.none _)
      | (with_reducible refine LeO.ite ?_ ?_)
      | (with_reducible refine LeO.bind ?_ (fun _ => ?_))
      | exact ih0 _ _ _ _ _
      | exact ih1 _ _ _ _ _ _
      | exact intrusionref05_Normal.mono _ _
      | exact LeO.none _
      | refine LeO.ite ?_ ?_
      | refine LeO.bind ?_ (fun _ => ?_)
    · intro y0 y1 y2 y3 y4 y5
      unfold intrusionref05_Complement.j1
      repeat' first
      | (with_reducible exact ih0 _ _ _ _ _)
      | (with_reducible exact ih1 _ _ _ _ _ _)
      | (with_reducible exact intrusionref05_Normal.mono _ _)
      | (with_reducible exact LeO.refl _)
      | (with_reducible exact LeO.none _)
      | (with_reducible refine LeO.ite ?_ ?_)
      | (with_reducible refine LeO.bind ?_ (fun _ => ?_))
      | exact ih0 _ _ _ _ _
      | exact ih1 _ _ _ _ _ _
      | exact intrusionref05_Normal.mono _ _
      | exact LeO.none _
      | refine LeO.ite ?_ ?_
      | refine LeO.bind ?_ (fun _ => ?_)
theorem intrusionref05_Complement.mono : ∀ a0 a1 a2 k, LeO (intrusionref05_Complement.f k a0 a1 a2) (intrusionref05_Complement.f (k + 1) a0 a1 a2) := by
  intro a0 a1 a2 k
  obtain ⟨ih0, ih1⟩ := intrusionref05_Complement.mono_l k
  unfold intrusionref05_Complement.f
  repeat' first
      | (with_reducible exact ih0 _ _ _ _ _)
      | (with_reducible exact ih1 _ _ _ _ _ _)
      | (with_reducible exact intrusionref05_Normal.mono _ _)
      | (with_reducible exact LeO.refl _)
      | (with_reducible exact LeO.none _)
      | (with_reducible refine LeO.ite ?_ ?_)
      | (with_reducible refine LeO.bind ?_ (fun _ => ?_))
      | exact ih0 _ _ _ _ _
      | exact ih1 _ _ _ _ _ _
      | exact intrusionref05_Normal.mono _ _
      | exact LeO.none _
      | refine LeO.ite ?_ ?_
      | refine LeO.bind ?_ (fun _ => ?_)
set_option maxHeartbeats 8000000 in
set_option maxRecDepth 100000 in
theorem intrusionref05_Complement.calls (k : Nat) (A0 : Option Addr) (c0 : Nat) (l0 : List (S33)) (a1 : Int) (a2 : Int) (r : List (S33)) (w : World) (hr0 : Kd.C k33 w A0 l0.length l0) (hc0 : l0.length ≤ c0) (h : intrusionref05_Complement.f k l0 a1 a2 = some r) :
 Calls Tryd.prog 53 #[.slice A0 l0.length c0, .int .i64 a1, .int .i64 a2] w fun e w' => ∃ v0_ : Value, e = .returned (v0_) ∧ Kd.R k33 33 w' w.heap.size (fun _ => True) v0_ r ∧ Below w.heap.size w w' := by
 have hu33 := Tryd.underlying33
 have HR0 := Aside0.mk hr0
 have HC0 := Aside0.mk hc0
 clear hr0 hc0
 have HB := Aside0.mk (Below.refl w.heap.size w)
 unfold intrusionref05_Complement.f at h; have H := h
 clear h
 obtain ⟨ji4, hji4⟩ : ∃ j_ : Int, (mx a1 0) = j_ := ⟨_, rfl⟩
 replace H : ((intrusionref05_Normal.f k l0).bind fun t347 => (intrusionref05_Complement.l0 k ji4 (mn a2 4294967296) t347 (([] : List (S33))) 0)) = some r := by first | (rw [hji4] at H; exact H) | (simp only [hji4] at H ⊢; exact H)
 (try (have hji4l : 0 ≤ ji4 := by (rw [← hji4]; unfold mx; (repeat' split) <;> omega)))
 (try (have hji4m : 0 ≤ ji4 := by omega))
 have hji4_ : (if a1 < 0 then 0 else a1) = ji4 := hji4
 obtain ⟨ji5, hji5⟩ : ∃ j_ : Int, (mn a2 4294967296) = j_ := ⟨_, rfl⟩
 replace H : ((intrusionref05_Normal.f k l0).bind fun t347 => (intrusionref05_Complement.l0 k ji4 ji5 t347 (([] : List (S33))) 0)) = some r := by first | (rw [hji5] at H; exact H) | (simp only [hji5] at H ⊢; exact H)
 (try (have hji5h : ji5 ≤ 4294967296 := by (rw [← hji5]; unfold mn; (repeat' split) <;> omega)))
 (try (have hji5g : ji5 ≤ 64 := by omega))
 have hji5_ : (if 4294967296 < a2 then 4294967296 else a2) = ji5 := hji5
 replace H := Option.bind_eq_some_iff.mp H
 obtain ⟨t347, A60, H⟩ := H
 try dsimp only at H
 have A6 := Aside0.mk A60
 clear A60
 obtain ⟨y350, hy350⟩ : ∃ y_ : List (S33), y_ = (([] : List (S33))) := ⟨_, rfl⟩
 rw [← hy350] at H; try dsimp only [Option.bind_some] at H
 have Ny350 := Aside0.mk hy350
 clear hy350
 have H' := Aside0.mk H
 clear H
 go_enter Tryd.func53, Tryd.ntmps53
 go_wp2_with (first | ((with_reducible refine gate_callee (f := 67) rfl ?_); refine goesL_ (some 16) rfl rfl Tryd.func67 (by kernel_rfl) rfl #[.slice A0 l0.length c0] rfl (by (try simp only [List.map_toArray, List.map_cons, List.map_nil]); first | done | rfl | (simp only [List.length_drop, List.length_take]; rfl)) ?_; (with_reducible refine (intrusionref05_Normal.calls k _ _ l0 t347 _ ?side1 ?side2 A6.out).mono ?_); (case side1 => repeat (first | exact HR0.out | (with_reducible refine Kd.C_alloc ?_ _) | (with_reducible refine Kd.C_drewN ?_ _) | (with_reducible refine Kd.C_drew ?_))); (case side2 => exact HC0.out); rintro e w7 ⟨v348, rfl, ho0, hb⟩; refine ⟨_, rfl, ?_⟩; have HO349 := Aside0.mk (Kd.R_lower ho0 (below_size (zB HB))); replace HB := Aside0.mk (below_step (zB HB) hb); (try clear hb); (try clear ho0)) | ((with_reducible refine gate_dst (N := 17) rfl ?_); refine Kd.R_lit k33 _ 33 ?hg (N := 17) ?hd (xs := ([] : List (S33))) (inner := []) (ok := fun _ => True) (okp := fun _ => True) ?hr ?hp (fun _ hk => hk) trivial (Below.refl _ _) (Nat.le_refl _) (by simp) ?_; (case hd => rfl); (case hg => rfl); (case hr => first | (go_simp; done) | (go_simp; rfl)); (case hp => exact (Reps.none _ _)); intro v351 w8 ho9 hb hg_ hnew_; clear hg_ hnew_; (first | rw [← Ny350.out] at ho9 | (simp only [Int.reduceToNat] at ho9; rw [← Ny350.out] at ho9)); have HO352 := Aside0.mk (Kd.R_lower (Kd.R_new' ho9 (Kd.R_lt (zR HO349))) (below_size (zB HB))); replace HO349 := Aside0.mk (Kd.R_elder' (zR HO349) (Kd.R_base ho9) hb); replace HB := Aside0.mk (below_step (zB HB) hb); clear hb ho9))
 go_loopg [1, 8, 9] k (fun kq v1 v8 v9 w' => ∃ (x1_1 : Int) (x8_1 : List (S33)) (x9_1 : Int), v1 = .int .i64 x1_1 ∧ v9 = .int .i64 x9_1 ∧ Aside0 (intrusionref05_Complement.l0 kq x1_1 ji5 t347 x8_1 x9_1 = some r) ∧ Aside0 (kq ≤ k) ∧ Aside0 (Kd.R k33 33 w' w.heap.size (fun k_ => some k_ ≠ (v8 : Value).ownBlock) v348 t347) ∧ Aside0 (Kd.R k33 33 w' w.heap.size (fun k_ => some k_ ≠ (v348 : Value).ownBlock) v8 x8_1) ∧ Aside0 (Below w.heap.size w w'))
 case atStart => exact ⟨(ji4), (y350), (0), (by first | rfl | (simp; done) | (simp only [← hji4] <;> (first | rfl | simp)) | (simp [*]; done)), (by first | rfl | (simp; done) | (simp [*]; done)), H', ⟨Nat.le_refl _⟩, ⟨by (with_reducible repeat (first | apply Kd.R_alloc | apply Kd.R_drewN | apply Kd.R_drew)); exact Kd.R_mono HO349.out (fun _ hk => hk.2)⟩, ⟨by (with_reducible repeat (first | apply Kd.R_alloc | apply Kd.R_drewN | apply Kd.R_drew)); exact Kd.R_mono HO352.out (fun _ hk => hk.2)⟩, ⟨zB HB⟩⟩
 case round =>
  clear H'
  try clear p2
  try clear c5
  try clear c6
  obtain ⟨x1_1, x8_1, x9_1, rfl, rfl, HA, HK1, HO_7, HO_8, HB⟩ := hrel
  cases gk with
  | zero => exact absurd HA.out (by simp [intrusionref05_Complement.l0])
  | succ k1 =>
   have H := HA.out
   clear HA
   simp only [intrusionref05_Complement.l0] at H
   have HC10 := Aside0.mk H
   clear H
   go_upto_region 6 with (fail)
   go_cut [26] (fun v26 wc => ∃ (kq : Nat) (x26_9 : Bool), v26 = .bool x26_9 ∧ Aside0 (intrusionref05_Complement.j1 kq x1_1 ji5 t347 x8_1 x9_1 x26_9 = some r) ∧ Aside0 (kq ≤ k1) ∧ Aside0 (Kd.R k33 33 wc w.heap.size (fun k_ => some k_ ≠ (u8 : Value).ownBlock) v348 t347) ∧ Aside0 (Kd.R k33 33 wc w.heap.size (fun k_ => some k_ ≠ (v348 : Value).ownBlock) u8 x8_1) ∧ Aside0 (Below w.heap.size w wc))
   case first =>
    have H := HC10.out
    clear HC10
    by_cases c11 : x9_1 < (t347.length : Int)
    · rw [if_pos c11] at H
      have c11b0 : decide (x9_1 < (t347.length : Int)) = true := decide_eq_true c11
      clear c11
      (first | rw [c11b0] | (simp only [i64_w, i32_w]; rw [c11b0]) | skip)
      have H' := Aside0.mk H
      clear H
      obtain ⟨Ao12, co12, eo12⟩ := Kd.R_slice HO_7.out
      subst eo12
      go_wp2
      go_meet
      case rel => exact ⟨_, (decide (x1_1 ≤ ji5)), (by first | rfl | (simp; done) | (simp only [← hji5] <;> (first | rfl | simp)) | (simp [*]; done)), H', ⟨by have := HK1.out; first | omega | exact Nat.le_refl _⟩, ⟨zR HO_7⟩, ⟨zR HO_8⟩, ⟨zB HB⟩⟩
    · rw [if_neg c11] at H
      have c11b0 : decide (x9_1 < (t347.length : Int)) = false := decide_eq_false c11
      clear c11
      (first | rw [c11b0] | (simp only [i64_w, i32_w]; rw [c11b0]) | skip)
      have H' := Aside0.mk H
      clear H
      obtain ⟨Ao13, co13, eo13⟩ := Kd.R_slice HO_7.out
      subst eo13
      go_wp2
      go_meet
      case rel => exact ⟨_, (false), (by first | rfl | (simp; done) | (simp [*]; done)), H', ⟨by have := HK1.out; first | omega | exact Nat.le_refl _⟩, ⟨zR HO_7⟩, ⟨zR HO_8⟩, ⟨zB HB⟩⟩
   case rest =>
    clear HC10
    try clear c1
    try clear p2
    try clear c5
    try clear c6
    try clear c11
    try clear c11b0
    try clear p2
    obtain ⟨kq, x26_9, rfl, HA, HJ9, HO_7, HO_8, HB⟩ := hcut
    cases kq with
    | zero => exact absurd HA.out (by simp [intrusionref05_Complement.j1])
    | succ kj9 =>
     have H := HA.out
     clear HA
     simp only [intrusionref05_Complement.j1] at H
     by_cases c14 : x26_9 = true
     · subst c14
       rw [if_pos rfl] at H
       by_cases c15 : 0 ≤ x9_1
       · rw [if_pos c15] at H
         have c15b0 : decide (0 ≤ x9_1) = true := decide_eq_true c15
         clear c15
         by_cases c16 : x9_1 < (t347.length : Int)
         · rw [if_pos c16] at H
           have c16b0 : decide (x9_1 < (t347.length : Int)) = true := decide_eq_true c16
           clear c16
           obtain ⟨ji17, hji17⟩ : ∃ j_ : Int, (mn ji5 (wrap64 (((rd_T33 t347 x9_1).f0) - 1))) = j_ := ⟨_, rfl⟩
           replace H : (if x1_1 ≤ (ji17) then (if x8_1.length < 8796093022208 then (intrusionref05_Complement.l0 kj9 (mx x1_1 (wrap64 (((rd_T33 t347 x9_1).f1) + 1))) ji5 t347 (x8_1 ++ [(⟨x1_1, ji17⟩ : S33)]) (wrap64 (x9_1 + 1))) else (none)) else (intrusionref05_Complement.l0 kj9 (mx x1_1 (wrap64 (((rd_T33 t347 x9_1).f1) + 1))) ji5 t347 x8_1 (wrap64 (x9_1 + 1)))) = some r := by first | (rw [hji17] at H; exact H) | (simp only [hji17] at H ⊢; exact H)
           have hji17_ : (if (wrap64 (((rd_T33 t347 x9_1).f0) - 1)) < ji5 then (wrap64 (((rd_T33 t347 x9_1).f0) - 1)) else ji5) = ji17 := hji17
           by_cases c18 : x1_1 ≤ (ji17)
           · rw [if_pos c18] at H
             have c18b0 : decide (x1_1 ≤ (ji17)) = true := decide_eq_true c18
             clear c18
             by_cases c19 : x8_1.length < 8796093022208
             · rw [if_pos c19] at H
               have LMc19 := Aside0.mk c19
               clear c19
               obtain ⟨y355, hy355⟩ : ∃ y_ : List (S33), y_ = (x8_1 ++ [(⟨x1_1, ji17⟩ : S33)]) := ⟨_, rfl⟩
               rw [← hy355] at H; try dsimp only [Option.bind_some] at H
               have Ny355 := Aside0.mk hy355
               clear hy355
               obtain ⟨ji20, hji20⟩ : ∃ j_ : Int, (mx x1_1 (wrap64 (((rd_T33 t347 x9_1).f1) + 1))) = j_ := ⟨_, rfl⟩
               replace H : (intrusionref05_Complement.l0 kj9 ji20 ji5 t347 y355 (wrap64 (x9_1 + 1))) = some r := by first | (rw [hji20] at H; exact H) | (simp only [hji20] at H ⊢; exact H)
               have hji20_ : (if x1_1 < (wrap64 (((rd_T33 t347 x9_1).f1) + 1)) then (wrap64 (((rd_T33 t347 x9_1).f1) + 1)) else x1_1) = ji20 := hji20
               have H' := Aside0.mk H
               clear H
               obtain ⟨Ao21, co21, eo21⟩ := Kd.R_slice HO_7.out
               subst eo21
               have p353 : 0 ≤ (x9_1 : Int) := za
               have q353 : x9_1 < (t347.length : Int) := za
               obtain ⟨ad353, e353, hx353_0, hx353_1⟩ := at_T33 (Kd.R_reads' HO_7.out).2.2 x9_1 p353 q353
               cases e353
               replace p353 := eq_true p353
               replace q353 := eq_true q353
               go_wp2_with (first | ((with_reducible refine gate_dst (N := 10) rfl ?_); refine zx 10 #[.int .i64 0, .int .i64 0] 33 ?_; intro gb354 hg w22 hbox hb; replace HO_7 := Aside0.mk (Kd.R_below (Kd.R_elderB (zR HO_7) gb354 (Nat.le_of_eq hg.symm)) hb); replace HO_8 := Aside0.mk (Kd.R_below (Kd.R_elderB (zR HO_8) gb354 (Nat.le_of_eq hg.symm)) hb); have BK354 := Aside0.mk (hbox); have GW354 := Aside0.mk ((by rw [hg]; exact (below_size (zB HB)) : w.heap.size ≤ gb354)); have GE354 := Aside0.mk ((by rw [hg]; exact (below_size (zB HB)) : w.heap.size ≤ gb354)); replace HB := Aside0.mk (below_step (zB HB) hb); clear hb hbox hg; obtain ⟨hcz23_0, hcz23_1⟩ := zc2 BK354; obtain ⟨hfz23_0, hfz23_1⟩ := zf2 BK354) | ((with_reducible refine gate_builtin (b := .append) (xs := #[.tmp 44, .tmp 46]) rfl ?_); at_builtin; refine Kd.R_append k33 (w0 := w) w.heap.size rfl (.tmp 44) (.tmp 46) 23 33 (.agg #[(.int .i64 0), (.int .i64 0)]) 16 rfl Tryd.underlying23 info33 rfl (by decide) (by omega) u8 x8_1 (⟨x1_1, ji17⟩ : S33) [.int .i64 x1_1, .int .i64 ji17] (fun k_ => some k_ ≠ (.slice (some ad353) t347.length co21 : Value).ownBlock ∧ k_ ≠ gb354) (fun _ => False) rfl (by first | (go_simp; done) | (go_simp; rfl)) ?aP (fun _ hk => hk.elim) ?aF ?aO ?aB ?aS ?aL ?_; (case aP => exact k33_mkM _ _ _ (⟨x1_1, ji17⟩ : S33)); (case aB => exact (zB HB)); (case aF => exact (fun k_ hk => ⟨Kd.fresh' (Kd.R_lt (zQ (Kd.R_mono (Kd.R_far (p := ⟨gb354, 1, none⟩) (Kd.R_far (p := ⟨gb354, 0, none⟩) (Kd.R_mono HO_7.out (fun k_ hk => (⟨hk, hk.2⟩ : _ ∧ k_ ≠ gb354))) (fun _ hk => hk.2) (.int .i64 x1_1)) (fun _ hk => hk.2) (.int .i64 ji17)) (fun _ h_ => h_.1)))) k_ hk, Kd.freshB (g := gb354) (o := .cells #[.int .i64 x1_1, .int .i64 ji17] 33 (0, 0)) (by refine zL ?_; refine blk_put (cs := #[.int .i64 x1_1, .int .i64 0]) ?_ 1 _ rfl; refine zL ?_; refine blk_put (cs := #[.int .i64 0, .int .i64 0]) ?_ 0 _ rfl; refine zL ?_; exact BK354.out) k_ hk⟩)); (case aO => exact (by (with_reducible repeat (first | apply Kd.R_alloc | apply Kd.R_drewN | apply Kd.R_drew)); exact Kd.R_mono (Kd.R_far (p := ⟨gb354, 1, none⟩) (Kd.R_far (p := ⟨gb354, 0, none⟩) (Kd.R_mono HO_8.out (fun k_ hk => (⟨hk, hk.2⟩ : _ ∧ k_ ≠ gb354))) (fun _ hk => hk.2) (.int .i64 x1_1)) (fun _ hk => hk.2) (.int .i64 ji17)) (fun _ hk => ⟨hk.1.1, hk.1.2⟩))); (case aS => exact (below_size (zB HB))); (case aL => have := LMc19.out; omega); intro v356 w24 ho hb hg hat; rw [← Ny355.out] at ho; replace HO_7 := Aside0.mk (Kd.R_after (ok := (fun k_ => k_ ≠ gb354)) (by (with_reducible repeat (first | apply Kd.R_alloc | apply Kd.R_drewN | apply Kd.R_drew)); exact Kd.R_mono (Kd.R_far (p := ⟨gb354, 1, none⟩) (Kd.R_far (p := ⟨gb354, 0, none⟩) (Kd.R_mono HO_7.out (fun k_ hk => (⟨hk, hk.2⟩ : _ ∧ k_ ≠ gb354))) (fun _ hk => hk.2) (.int .i64 x1_1)) (fun _ hk => hk.2) (.int .i64 ji17)) (fun _ hk => ⟨hk.1.2, hk.1.1⟩)) hg hat); replace BK354 := Aside0.mk (blk_grown (g := gb354) (o := .cells #[.int .i64 x1_1, .int .i64 ji17] 33 (0, 0)) (by refine zL ?_; refine blk_put (cs := #[.int .i64 x1_1, .int .i64 0]) ?_ 1 _ rfl; refine zL ?_; refine blk_put (cs := #[.int .i64 0, .int .i64 0]) ?_ 0 _ rfl; refine zL ?_; exact BK354.out) hg (Kd.R_away HO_8.out (fun _ hk => hk.2))); replace HB := Aside0.mk (hb); have HO357 := Aside0.mk (ho); clear HO_8; clear ho hb hg hat; have p358 : 0 ≤ (x9_1 : Int) := za; have q358 : x9_1 < (t347.length : Int) := za; obtain ⟨ad358, e358, hx358_0, hx358_1⟩ := at_T33 (Kd.R_reads' HO_7.out).2.2 x9_1 p358 q358; obtain rfl : ad353 = ad358 := (by injection e358); replace p358 := eq_true p358; replace q358 := eq_true q358))
               go_roundg kj9
               case measure => have := HK1.out; have := HJ9.out; omega
               case rel => exact ⟨(ji20), (y355), (wrap64 (x9_1 + 1)), (by first | rfl | (simp; done) | (simp only [← hji20] <;> (first | rfl | simp)) | (simp [*]; done)), (by first | rfl | (simp; done) | (simp [*]; done)), H', ⟨by have := HK1.out; have := HJ9.out; omega⟩, ⟨by (with_reducible repeat (first | apply Kd.R_alloc | apply Kd.R_drewN | apply Kd.R_drew)); exact Kd.R_mono HO_7.out (fun _ hk => hk.2)⟩, ⟨by (with_reducible repeat (first | apply Kd.R_alloc | apply Kd.R_drewN | apply Kd.R_drew)); exact Kd.R_mono HO357.out (fun _ hk => hk.1)⟩, ⟨zB HB⟩⟩
             · rw [if_neg c19] at H
               exact absurd H (by simp)
           · rw [if_neg c18] at H
             have c18b0 : decide (x1_1 ≤ (ji17)) = false := decide_eq_false c18
             clear c18
             obtain ⟨ji25, hji25⟩ : ∃ j_ : Int, (mx x1_1 (wrap64 (((rd_T33 t347 x9_1).f1) + 1))) = j_ := ⟨_, rfl⟩
             replace H : (intrusionref05_Complement.l0 kj9 ji25 ji5 t347 x8_1 (wrap64 (x9_1 + 1))) = some r := by first | (rw [hji25] at H; exact H) | (simp only [hji25] at H ⊢; exact H)
             have hji25_ : (if x1_1 < (wrap64 (((rd_T33 t347 x9_1).f1) + 1)) then (wrap64 (((rd_T33 t347 x9_1).f1) + 1)) else x1_1) = ji25 := hji25
             have H' := Aside0.mk H
             clear H
             obtain ⟨Ao26, co26, eo26⟩ := Kd.R_slice HO_7.out
             subst eo26
             have p353 : 0 ≤ (x9_1 : Int) := za
             have q353 : x9_1 < (t347.length : Int) := za
             obtain ⟨ad353, e353, hx353_0, hx353_1⟩ := at_T33 (Kd.R_reads' HO_7.out).2.2 x9_1 p353 q353
             cases e353
             replace p353 := eq_true p353
             replace q353 := eq_true q353
             go_wp2_with (first | ((with_reducible refine gate_dst (N := 10) rfl ?_); refine zx 10 #[.int .i64 0, .int .i64 0] 33 ?_; intro gb354 hg w27 hbox hb; replace HO_7 := Aside0.mk (Kd.R_below (Kd.R_elderB (zR HO_7) gb354 (Nat.le_of_eq hg.symm)) hb); replace HO_8 := Aside0.mk (Kd.R_below (Kd.R_elderB (zR HO_8) gb354 (Nat.le_of_eq hg.symm)) hb); have BK354 := Aside0.mk (hbox); have GW354 := Aside0.mk ((by rw [hg]; exact (below_size (zB HB)) : w.heap.size ≤ gb354)); have GE354 := Aside0.mk ((by rw [hg]; exact (below_size (zB HB)) : w.heap.size ≤ gb354)); replace HB := Aside0.mk (below_step (zB HB) hb); clear hb hbox hg; obtain ⟨hcz28_0, hcz28_1⟩ := zc2 BK354; obtain ⟨hfz28_0, hfz28_1⟩ := zf2 BK354; have p359 : 0 ≤ (x9_1 : Int) := za; have q359 : x9_1 < (t347.length : Int) := za; obtain ⟨ad359, e359, hx359_0, hx359_1⟩ := at_T33 (Kd.R_reads' HO_7.out).2.2 x9_1 p359 q359; obtain rfl : ad353 = ad359 := (by injection e359); have hn359_0 : ad353.block ≠ gb354 := (by first | exact Kd.own_blk (Kd.R_ne HO_7.out BK354.out (by decide)) | exact Kd.own_blk (Kd.R_away HO_7.out (fun _ hk => by first | exact hk.2 | exact hk | exact hk.1 | exact hk.2.2 | exact hk.1.2))); have hn359_1 : ad353.block ≠ gb354 := (by first | exact Kd.own_blk (Kd.R_ne HO_7.out BK354.out (by decide)) | exact Kd.own_blk (Kd.R_away HO_7.out (fun _ hk => by first | exact hk.2 | exact hk | exact hk.1 | exact hk.2.2 | exact hk.1.2))); replace hx359_0 := (cell_far (p := ⟨gb354, 0, none⟩) (by first | (rw [add_block]; exact hn359_0) | (show (Addr.add _ _).block ≠ _; rw [add_block]; exact hn359_0) | exact hn359_0) (.int .i64 x1_1)).trans hx359_0; replace hx359_1 := (cell_far (p := ⟨gb354, 0, none⟩) (by first | (rw [add_block]; exact hn359_0) | (show (Addr.add _ _).block ≠ _; rw [add_block]; exact hn359_0) | exact hn359_0) (.int .i64 x1_1)).trans hx359_1; replace hx359_0 := (cell_far (p := ⟨gb354, 1, none⟩) (by first | (rw [add_block]; exact hn359_1) | (show (Addr.add _ _).block ≠ _; rw [add_block]; exact hn359_1) | exact hn359_1) (.int .i64 ji17)).trans hx359_0; replace hx359_1 := (cell_far (p := ⟨gb354, 1, none⟩) (by first | (rw [add_block]; exact hn359_1) | (show (Addr.add _ _).block ≠ _; rw [add_block]; exact hn359_1) | exact hn359_1) (.int .i64 ji17)).trans hx359_1; clear hn359_0; clear hn359_1; replace p359 := eq_true p359; replace q359 := eq_true q359))
             go_roundg kj9
             case measure => have := HK1.out; have := HJ9.out; omega
             case rel => exact ⟨(ji25), (x8_1), (wrap64 (x9_1 + 1)), (by first | rfl | (simp; done) | (simp only [← hji25] <;> (first | rfl | simp)) | (simp [*]; done)), (by first | rfl | (simp; done) | (simp [*]; done)), H', ⟨by have := HK1.out; have := HJ9.out; omega⟩, ⟨by (with_reducible repeat (first | apply Kd.R_alloc | apply Kd.R_drewN | apply Kd.R_drew)); exact Kd.R_mono (Kd.R_far (p := ⟨gb354, 1, none⟩) (Kd.R_far (p := ⟨gb354, 0, none⟩) (Kd.R_mono HO_7.out (fun k_ hk => (⟨hk, hk.2⟩ : _ ∧ k_ ≠ gb354))) (fun _ hk => hk.2) (.int .i64 x1_1)) (fun _ hk => hk.2) (.int .i64 ji17)) (fun _ hk => hk.1.1)⟩, ⟨by (with_reducible repeat (first | apply Kd.R_alloc | apply Kd.R_drewN | apply Kd.R_drew)); exact Kd.R_mono (Kd.R_far (p := ⟨gb354, 1, none⟩) (Kd.R_far (p := ⟨gb354, 0, none⟩) (Kd.R_mono HO_8.out (fun k_ hk => (⟨hk, hk.2⟩ : _ ∧ k_ ≠ gb354))) (fun _ hk => hk.2) (.int .i64 x1_1)) (fun _ hk => hk.2) (.int .i64 ji17)) (fun _ hk => hk.1.1)⟩, ⟨zB HB⟩⟩
         · rw [if_neg c16] at H
           exact absurd H (by simp)
       · rw [if_neg c15] at H
         exact absurd H (by simp)
     · replace c14 := Bool.eq_false_iff.mpr c14
       subst c14
       rw [if_neg zF] at H
       by_cases c29 : x1_1 ≤ ji5
       · rw [if_pos c29] at H
         have c29b0 : decide (x1_1 ≤ ji5) = true := decide_eq_true c29
         clear c29
         by_cases c30 : x8_1.length < 8796093022208
         · rw [if_pos c30] at H
           have LMc30 := Aside0.mk c30
           clear c30
           obtain ⟨y360, hy360⟩ : ∃ y_ : List (S33), y_ = (x8_1 ++ [(⟨x1_1, ji5⟩ : S33)]) := ⟨_, rfl⟩
           rw [← hy360] at H; try dsimp only [Option.bind_some] at H
           have Ny360 := Aside0.mk hy360
           clear hy360
           obtain rfl := Option.some.inj H
           go_wp2_with (first | ((with_reducible refine gate_builtin (b := .append) (xs := #[.tmp 59, .tmp 63]) rfl ?_); at_builtin; refine Kd.R_append k33 (w0 := w) w.heap.size rfl (.tmp 59) (.tmp 63) 23 33 (.agg #[(.int .i64 0), (.int .i64 0)]) 16 rfl Tryd.underlying23 info33 rfl (by decide) (by omega) u8 x8_1 (⟨x1_1, ji5⟩ : S33) [.int .i64 x1_1, .int .i64 ji5] (fun k_ => some k_ ≠ (v348 : Value).ownBlock) (fun _ => False) rfl rfl ?aP (fun _ hk => hk.elim) ?aF ?aO ?aB ?aS ?aL ?_; (case aP => exact k33_mkM _ _ _ (⟨x1_1, ji5⟩ : S33)); (case aB => exact (zB HB)); (case aF => exact (fun k_ hk => Kd.fresh' (Kd.R_lt (zR HO_7)) k_ hk)); (case aO => exact (zR HO_8)); (case aS => exact (below_size (zB HB))); (case aL => have := LMc30.out; omega); intro v361 w31 ho hb hg hat; rw [← Ny360.out] at ho; replace HO_7 := Aside0.mk (Kd.R_after (ok := (fun _ => True)) (by (with_reducible repeat (first | apply Kd.R_alloc | apply Kd.R_drewN | apply Kd.R_drew)); exact Kd.R_mono HO_7.out (fun _ hk => ⟨trivial, hk⟩)) hg hat); replace HB := Aside0.mk (hb); have HO362 := Aside0.mk (ho); clear HO_8; clear ho hb hg hat))
           go_ret
           exact ⟨_, by first | rfl | (simp [errW_none, errW_some] <;> rfl) | (simp only [← hji4, ← hji5]; first | rfl | (simp [errW_none, errW_some] <;> rfl)) | (simp [*, errW_none, errW_some] <;> rfl), by (with_reducible repeat (first | apply Kd.R_alloc | apply Kd.R_drewN | apply Kd.R_drew)); exact Kd.R_mono HO362.out (fun _ hk => trivial), by repeat (first | (with_reducible first | exact HB.out | apply below_alloc | apply pw_below_drewN | apply below_drew1) | exact HB.out)⟩
         · rw [if_neg c30] at H
           exact absurd H (by simp)
       · rw [if_neg c29] at H
         have c29b0 : decide (x1_1 ≤ ji5) = false := decide_eq_false c29
         clear c29
         obtain rfl := Option.some.inj H
         go_wp2
         go_ret
         exact ⟨_, by first | rfl | (simp [errW_none, errW_some] <;> rfl) | (simp only [← hji4, ← hji5]; first | rfl | (simp [errW_none, errW_some] <;> rfl)) | (simp [*, errW_none, errW_some] <;> rfl), by (with_reducible repeat (first | apply Kd.R_alloc | apply Kd.R_drewN | apply Kd.R_drew)); exact Kd.R_mono HO_8.out (fun _ hk => trivial), by repeat (first | (with_reducible first | exact HB.out | apply below_alloc | apply pw_below_drewN | apply below_drew1) | exact HB.out)⟩
end Go.Proofs.YtbimdjciacnioaaDoor.Q
end

section
namespace Go.Proofs.YtbimdjciacnioaaDoor.Q
open Go.RowKit Go.Proofs.YtbimdjciacnioaaDoorW.PrintWords Go.Proofs.YtbimdjciacnioaaDoorW.PrintLast Go.Proofs.YtbimdjciacnioaaDoorW.PrintMore
attribute [local go_sem] max2_int min2_int max_two min_two max_three min_three max_four min_four
set_option linter.unusedVariables false
set_option linter.unusedSimpArgs false
def intrusionref05_Minus.f (k : Nat) (l0 : List (S33)) (l1 : List (S33)) : Option ((List (S33))) := (intrusionref05_Complement.f k l1 0 4294967296).bind fun t363 => ((intrusionref05_Intersect.f k l0 t363).bind fun t366 => (some t366))
theorem intrusionref05_Minus.mono : ∀ a0 a1 k, LeO (intrusionref05_Minus.f k a0 a1) (intrusionref05_Minus.f (k + 1) a0 a1) := by
  intro a0 a1 k
  unfold intrusionref05_Minus.f
  repeat' first
      | (with_reducible exact intrusionref05_Complement.mono _ _ _ _)
      | (with_reducible exact intrusionref05_Intersect.mono _ _ _)
      | (with_reducible exact LeO.refl _)
      | (with_reducible exact LeO.none _)
      | (with_reducible refine LeO.ite ?_ ?_)
      | (with_reducible refine LeO.bind ?_ (fun _ => ?_))
      | exact intrusionref05_Complement.mono _ _ _ _
      | exact intrusionref05_Intersect.mono _ _ _
      | exact LeO.none _
      | refine LeO.ite ?_ ?_
      | refine LeO.bind ?_ (fun _ => ?_)
set_option maxHeartbeats 8000000 in
set_option maxRecDepth 100000 in
theorem intrusionref05_Minus.calls (k : Nat) (A0 : Option Addr) (c0 : Nat) (l0 : List (S33)) (A1 : Option Addr) (c1 : Nat) (l1 : List (S33)) (r : List (S33)) (w : World) (hr0 : Kd.C k33 w A0 l0.length l0) (hc0 : l0.length ≤ c0) (hr1 : Kd.C k33 w A1 l1.length l1) (hc1 : l1.length ≤ c1) (h : intrusionref05_Minus.f k l0 l1 = some r) :
 Calls Tryd.prog 35 #[.slice A0 l0.length c0, .slice A1 l1.length c1] w fun e w' => ∃ v0_ : Value, e = .returned (v0_) ∧ Kd.R k33 33 w' w.heap.size (fun _ => True) v0_ r ∧ Below w.heap.size w w' := by
 have HR0 := Aside0.mk hr0
 have HC0 := Aside0.mk hc0
 clear hr0 hc0
 have HR1 := Aside0.mk hr1
 have HC1 := Aside0.mk hc1
 clear hr1 hc1
 have HB := Aside0.mk (Below.refl w.heap.size w)
 unfold intrusionref05_Minus.f at h; have H := h
 clear h
 replace H := Option.bind_eq_some_iff.mp H
 obtain ⟨t363, A30, H⟩ := H
 try dsimp only at H
 have A3 := Aside0.mk A30
 clear A30
 replace H := Option.bind_eq_some_iff.mp H
 obtain ⟨t366, A40, H⟩ := H
 try dsimp only at H
 have A4 := Aside0.mk A40
 clear A40
 obtain rfl := Option.some.inj H
 go_enter Tryd.func35, Tryd.ntmps35
 go_wp2_with (first | ((with_reducible refine gate_callee (f := 53) rfl ?_); refine goesL_ (some 7) rfl rfl Tryd.func53 (by kernel_rfl) rfl #[.slice A1 l1.length c1, .int .i64 0, .int .i64 4294967296] rfl (by (try simp only [List.map_toArray, List.map_cons, List.map_nil]); first | done | rfl | (simp only [List.length_drop, List.length_take]; rfl)) ?_; (with_reducible refine (intrusionref05_Complement.calls k _ _ l1 0 4294967296 t363 _ ?side1 ?side2 A3.out).mono ?_); (case side1 => repeat (first | exact HR1.out | (with_reducible refine Kd.C_alloc ?_ _) | (with_reducible refine Kd.C_drewN ?_ _) | (with_reducible refine Kd.C_drew ?_))); (case side2 => exact HC1.out); rintro e w5 ⟨v364, rfl, ho0, hb⟩; refine ⟨_, rfl, ?_⟩; have HO365 := Aside0.mk (Kd.R_lower ho0 (below_size (zB HB))); replace HB := Aside0.mk (below_step (zB HB) hb); (try clear hb); (try clear ho0); obtain ⟨Ao6, co6, eo6⟩ := Kd.R_slice HO365.out; subst eo6) | ((with_reducible refine gate_callee (f := 52) rfl ?_); refine goesL_ (some 8) rfl rfl Tryd.func52 (by kernel_rfl) rfl #[.slice A0 l0.length c0, .slice Ao6 t363.length co6] rfl (by (try simp only [List.map_toArray, List.map_cons, List.map_nil]); first | done | rfl | (simp only [List.length_drop, List.length_take]; rfl)) ?_; (with_reducible refine (intrusionref05_Intersect.calls k _ _ l0 _ _ t363 t366 _ ?side1 ?side2 ?side3 ?side4 A4.out).mono ?_); (case side1 => repeat (first | exact (Kd.C_below HR0.out HB.out) | (with_reducible refine Kd.C_alloc ?_ _) | (with_reducible refine Kd.C_drewN ?_ _) | (with_reducible refine Kd.C_drew ?_))); (case side2 => exact HC0.out); (case side3 => repeat (first | exact (Kd.R_reads' HO365.out).2.2 | (with_reducible refine Kd.C_alloc ?_ _) | (with_reducible refine Kd.C_drewN ?_ _) | (with_reducible refine Kd.C_drew ?_))); (case side4 => exact (Kd.R_reads' HO365.out).2.1); rintro e w7 ⟨v367, rfl, ho0, hb⟩; refine ⟨_, rfl, ?_⟩; have HO368 := Aside0.mk (Kd.R_lower (Kd.R_new' ho0 (Kd.R_lt (zR HO365))) (below_size (zB HB))); replace HO365 := Aside0.mk (Kd.R_elder' (zR HO365) (Kd.R_base ho0) hb); replace HB := Aside0.mk (below_step (zB HB) hb); (try clear hb); (try clear ho0)))
 go_ret
 exact ⟨_, by first | rfl | (simp [errW_none, errW_some] <;> rfl) | (simp [*, errW_none, errW_some] <;> rfl), by (with_reducible repeat (first | apply Kd.R_alloc | apply Kd.R_drewN | apply Kd.R_drew)); exact Kd.R_mono HO368.out (fun _ hk => trivial), by repeat (first | (with_reducible first | exact HB.out | apply below_alloc | apply pw_below_drewN | apply below_drew1) | exact HB.out)⟩
end Go.Proofs.YtbimdjciacnioaaDoor.Q
end

section
namespace Go.Proofs.YtbimdjciacnioaaDoor.Q
open Go.RowKit Go.Proofs.YtbimdjciacnioaaDoorW.PrintWords Go.Proofs.YtbimdjciacnioaaDoorW.PrintLast Go.Proofs.YtbimdjciacnioaaDoorW.PrintMore
attribute [local go_sem] max2_int min2_int max_two min_two max_three min_three max_four min_four
set_option linter.unusedVariables false
set_option linter.unusedSimpArgs false
def intrusionref08_Eval.f (k : Nat) (l0 : List (S33)) (l1 : List (S33)) : Option ((List (S33))) := if (l0.length : Int) = 0 then ((intrusionref08_All.f).bind fun t369 => ((intrusionref08_ports.f k t369).bind fun t372 => ((intrusionref05_Minus.f k t372 l1).bind fun t375 => (some t375)))) else ((intrusionref08_ports.f k l0).bind fun t378 => ((intrusionref05_Minus.f k t378 l1).bind fun t381 => (some t381)))
theorem intrusionref08_Eval.mono : ∀ a0 a1 k, LeO (intrusionref08_Eval.f k a0 a1) (intrusionref08_Eval.f (k + 1) a0 a1) := by
  intro a0 a1 k
  unfold intrusionref08_Eval.f
  repeat' first
      | (with_reducible exact intrusionref05_Minus.mono _ _ _)
      | (with_reducible exact intrusionref08_ports.mono _ _)
      | (with_reducible exact LeO.refl _)
      | (with_reducible exact LeO.none _)
      | (with_reducible refine LeO.ite ?_ ?_)
      | (with_reducible refine LeO.bind ?_ (fun _ => ?_))
      | exact intrusionref05_Minus.mono _ _ _
      | exact intrusionref08_ports.mono _ _
      | exact LeO.none _
      | refine LeO.ite ?_ ?_
      | refine LeO.bind ?_ (fun _ => ?_)
set_option maxHeartbeats 8000000 in
set_option maxRecDepth 100000 in
theorem intrusionref08_Eval.calls (k : Nat) (A0 : Option Addr) (c0 : Nat) (l0 : List (S33)) (A1 : Option Addr) (c1 : Nat) (l1 : List (S33)) (r : List (S33)) (w : World) (hr0 : Kd.C k33 w A0 l0.length l0) (hc0 : l0.length ≤ c0) (hr1 : Kd.C k33 w A1 l1.length l1) (hc1 : l1.length ≤ c1) (h : intrusionref08_Eval.f k l0 l1 = some r) :
 Calls Tryd.prog 17 #[.slice A0 l0.length c0, .slice A1 l1.length c1] w fun e w' => ∃ v0_ : Value, e = .returned (v0_) ∧ Kd.R k33 33 w' w.heap.size (fun _ => True) v0_ r ∧ Below w.heap.size w w' := by
 have HR0 := Aside0.mk hr0
 have HC0 := Aside0.mk hc0
 clear hr0 hc0
 have HR1 := Aside0.mk hr1
 have HC1 := Aside0.mk hc1
 clear hr1 hc1
 have HB := Aside0.mk (Below.refl w.heap.size w)
 unfold intrusionref08_Eval.f at h; have H := h
 clear h
 by_cases c3 : (l0.length : Int) = 0
 · rw [if_pos c3] at H
   have c3b0 : ((l0.length : Int) == 0) = true := beq_iff_eq.mpr c3
   have c3b1 : ((l0.length : Int) != 0) = false := bne_eq_false_iff_eq.mpr c3
   clear c3
   replace H := Option.bind_eq_some_iff.mp H
   obtain ⟨t369, A40, H⟩ := H
   try dsimp only at H
   have A4 := Aside0.mk A40
   clear A40
   replace H := Option.bind_eq_some_iff.mp H
   obtain ⟨t372, A50, H⟩ := H
   try dsimp only at H
   have A5 := Aside0.mk A50
   clear A50
   replace H := Option.bind_eq_some_iff.mp H
   obtain ⟨t375, A60, H⟩ := H
   try dsimp only at H
   have A6 := Aside0.mk A60
   clear A60
   obtain rfl := Option.some.inj H
   go_enter Tryd.func17, Tryd.ntmps17
   go_wp2_with (first | ((with_reducible refine gate_callee (f := 28) rfl ?_); refine goesL_ (some 8) rfl rfl Tryd.func28 (by kernel_rfl) rfl #[] rfl (by (try simp only [List.map_toArray, List.map_cons, List.map_nil]); first | done | rfl | (simp only [List.length_drop, List.length_take]; rfl)) ?_; (with_reducible refine (intrusionref08_All.calls  t369 _ A4.out).mono ?_); rintro e w7 ⟨v370, rfl, ho0, hb⟩; refine ⟨_, rfl, ?_⟩; have HO371 := Aside0.mk (Kd.R_lower ho0 (below_size (zB HB))); replace HB := Aside0.mk (below_step (zB HB) hb); (try clear hb); (try clear ho0); obtain ⟨Ao8, co8, eo8⟩ := Kd.R_slice HO371.out; subst eo8) | ((with_reducible refine gate_callee (f := 33) rfl ?_); refine goesL_ (some 10) rfl rfl Tryd.func33 (by kernel_rfl) rfl #[.slice Ao8 t369.length co8] rfl (by (try simp only [List.map_toArray, List.map_cons, List.map_nil]); first | done | rfl | (simp only [List.length_drop, List.length_take]; rfl)) ?_; (with_reducible refine (intrusionref08_ports.calls k _ _ t369 t372 _ ?side1 ?side2 A5.out).mono ?_); (case side1 => repeat (first | exact (Kd.R_reads' HO371.out).2.2 | (with_reducible refine Kd.C_alloc ?_ _) | (with_reducible refine Kd.C_drewN ?_ _) | (with_reducible refine Kd.C_drew ?_))); (case side2 => exact (Kd.R_reads' HO371.out).2.1); rintro e w9 ⟨v373, rfl, ho0, hb⟩; refine ⟨_, rfl, ?_⟩; have HO374 := Aside0.mk (Kd.R_lower (Kd.R_new' ho0 (Kd.R_lt (zR HO371))) (below_size (zB HB))); replace HO371 := Aside0.mk (Kd.R_elder' (zR HO371) (Kd.R_base ho0) hb); replace HB := Aside0.mk (below_step (zB HB) hb); (try clear hb); (try clear ho0); obtain ⟨Ao10, co10, eo10⟩ := Kd.R_slice HO374.out; subst eo10) | ((with_reducible refine gate_callee (f := 35) rfl ?_); refine goesL_ (some 12) rfl rfl Tryd.func35 (by kernel_rfl) rfl #[.slice Ao10 t372.length co10, .slice A1 l1.length c1] rfl (by (try simp only [List.map_toArray, List.map_cons, List.map_nil]); first | done | rfl | (simp only [List.length_drop, List.length_take]; rfl)) ?_; (with_reducible refine (intrusionref05_Minus.calls k _ _ t372 _ _ l1 t375 _ ?side1 ?side2 ?side3 ?side4 A6.out).mono ?_); (case side1 => repeat (first | exact (Kd.R_reads' HO374.out).2.2 | (with_reducible refine Kd.C_alloc ?_ _) | (with_reducible refine Kd.C_drewN ?_ _) | (with_reducible refine Kd.C_drew ?_))); (case side2 => exact (Kd.R_reads' HO374.out).2.1); (case side3 => repeat (first | exact (Kd.C_below HR1.out HB.out) | (with_reducible refine Kd.C_alloc ?_ _) | (with_reducible refine Kd.C_drewN ?_ _) | (with_reducible refine Kd.C_drew ?_))); (case side4 => exact HC1.out); rintro e w11 ⟨v376, rfl, ho0, hb⟩; refine ⟨_, rfl, ?_⟩; have HO377 := Aside0.mk (Kd.R_lower (Kd.R_new' (Kd.R_new' ho0 (Kd.R_lt (zR HO371))) (Kd.R_lt (zR HO374))) (below_size (zB HB))); replace HO371 := Aside0.mk (Kd.R_elder' (zR HO371) (Kd.R_base ho0) hb); replace HO374 := Aside0.mk (Kd.R_elder' (zR HO374) (Kd.R_base ho0) hb); replace HB := Aside0.mk (below_step (zB HB) hb); (try clear hb); (try clear ho0)))
   go_ret
   exact ⟨_, by first | rfl | (simp [errW_none, errW_some] <;> rfl) | (simp [*, errW_none, errW_some] <;> rfl), by (with_reducible repeat (first | apply Kd.R_alloc | apply Kd.R_drewN | apply Kd.R_drew)); exact Kd.R_mono HO377.out (fun _ hk => trivial), by repeat (first | (with_reducible first | exact HB.out | apply below_alloc | apply pw_below_drewN | apply below_drew1) | exact HB.out)⟩
 · rw [if_neg c3] at H
   have c3b0 : ((l0.length : Int) == 0) = false := beq_eq_false_iff_ne.mpr c3
   have c3b1 : ((l0.length : Int) != 0) = true := bne_iff_ne.mpr c3
   have c3b2 : ¬ (l0 = []) := fun h_ => c3 (by rw [h_]; rfl)
   replace H := Option.bind_eq_some_iff.mp H
   obtain ⟨t378, A120, H⟩ := H
   try dsimp only at H
   have A12 := Aside0.mk A120
   clear A120
   replace H := Option.bind_eq_some_iff.mp H
   obtain ⟨t381, A130, H⟩ := H
   try dsimp only at H
   have A13 := Aside0.mk A130
   clear A130
   obtain rfl := Option.some.inj H
   go_enter Tryd.func17, Tryd.ntmps17
   go_wp2_with (first | ((with_reducible refine gate_callee (f := 33) rfl ?_); refine goesL_ (some 10) rfl rfl Tryd.func33 (by kernel_rfl) rfl #[.slice A0 l0.length c0] rfl (by (try simp only [List.map_toArray, List.map_cons, List.map_nil]); first | done | rfl | (simp only [List.length_drop, List.length_take]; rfl)) ?_; (with_reducible refine (intrusionref08_ports.calls k _ _ l0 t378 _ ?side1 ?side2 A12.out).mono ?_); (case side1 => repeat (first | exact HR0.out | (with_reducible refine Kd.C_alloc ?_ _) | (with_reducible refine Kd.C_drewN ?_ _) | (with_reducible refine Kd.C_drew ?_))); (case side2 => exact HC0.out); rintro e w14 ⟨v379, rfl, ho0, hb⟩; refine ⟨_, rfl, ?_⟩; have HO380 := Aside0.mk (Kd.R_lower ho0 (below_size (zB HB))); replace HB := Aside0.mk (below_step (zB HB) hb); (try clear hb); (try clear ho0); obtain ⟨Ao15, co15, eo15⟩ := Kd.R_slice HO380.out; subst eo15) | ((with_reducible refine gate_callee (f := 35) rfl ?_); refine goesL_ (some 12) rfl rfl Tryd.func35 (by kernel_rfl) rfl #[.slice Ao15 t378.length co15, .slice A1 l1.length c1] rfl (by (try simp only [List.map_toArray, List.map_cons, List.map_nil]); first | done | rfl | (simp only [List.length_drop, List.length_take]; rfl)) ?_; (with_reducible refine (intrusionref05_Minus.calls k _ _ t378 _ _ l1 t381 _ ?side1 ?side2 ?side3 ?side4 A13.out).mono ?_); (case side1 => repeat (first | exact (Kd.R_reads' HO380.out).2.2 | (with_reducible refine Kd.C_alloc ?_ _) | (with_reducible refine Kd.C_drewN ?_ _) | (with_reducible refine Kd.C_drew ?_))); (case side2 => exact (Kd.R_reads' HO380.out).2.1); (case side3 => repeat (first | exact (Kd.C_below HR1.out HB.out) | (with_reducible refine Kd.C_alloc ?_ _) | (with_reducible refine Kd.C_drewN ?_ _) | (with_reducible refine Kd.C_drew ?_))); (case side4 => exact HC1.out); rintro e w16 ⟨v382, rfl, ho0, hb⟩; refine ⟨_, rfl, ?_⟩; have HO383 := Aside0.mk (Kd.R_lower (Kd.R_new' ho0 (Kd.R_lt (zR HO380))) (below_size (zB HB))); replace HO380 := Aside0.mk (Kd.R_elder' (zR HO380) (Kd.R_base ho0) hb); replace HB := Aside0.mk (below_step (zB HB) hb); (try clear hb); (try clear ho0)))
   go_ret
   exact ⟨_, by first | rfl | (simp [errW_none, errW_some] <;> rfl) | (simp [*, errW_none, errW_some] <;> rfl), by (with_reducible repeat (first | apply Kd.R_alloc | apply Kd.R_drewN | apply Kd.R_drew)); exact Kd.R_mono HO383.out (fun _ hk => trivial), by repeat (first | (with_reducible first | exact HB.out | apply below_alloc | apply pw_below_drewN | apply below_drew1) | exact HB.out)⟩
end Go.Proofs.YtbimdjciacnioaaDoor.Q
end

section
namespace Go.Proofs.YtbimdjciacnioaaDoor.Q
open Go.RowKit Go.Proofs.YtbimdjciacnioaaDoorW.PrintWords Go.Proofs.YtbimdjciacnioaaDoorW.PrintLast Go.Proofs.YtbimdjciacnioaaDoorW.PrintMore
attribute [local go_sem] max2_int min2_int max_two min_two max_three min_three max_four min_four
set_option linter.unusedVariables false
set_option linter.unusedSimpArgs false
def intrusionlaw08_large.f (l0 : List (S33)) : Option (Bool) := some (decide ((l0.length : Int) > 60))
set_option maxHeartbeats 8000000 in
set_option maxRecDepth 100000 in
theorem intrusionlaw08_large.calls (A0 : Option Addr) (c0 : Nat) (l0 : List (S33)) (r : Bool) (w : World) (hr0 : Kd.C k33 w A0 l0.length l0) (hc0 : l0.length ≤ c0) (h : intrusionlaw08_large.f l0 = some r) :
 Calls Tryd.prog 13 #[.slice A0 l0.length c0] w fun e w' => e = .returned (.bool r) ∧ Drawn0 w w' := by
 have HR0 := Aside0.mk hr0
 have HC0 := Aside0.mk hc0
 clear hr0 hc0
 unfold intrusionlaw08_large.f at h; have H := h
 clear h
 obtain rfl := Option.some.inj H
 go_enter Tryd.func13, Tryd.ntmps13
 go_wp2
 go_ret
 exact ⟨by first | rfl | (simp; done) | (simp [*]; done), by repeat (first | exact Drawn0.refl _ | apply Drawn0.step)⟩
end Go.Proofs.YtbimdjciacnioaaDoor.Q
end
