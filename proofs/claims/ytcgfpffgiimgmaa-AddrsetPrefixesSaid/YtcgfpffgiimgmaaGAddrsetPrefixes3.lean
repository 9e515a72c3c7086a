/- The law AddrsetPrefixes answers true for every input and leaves its arguments as they were. No condition. (Part 3 of 5: the kit's printed words and walks, hand-made contracts and plain laws, joined in build order, without what the theorem does not reach.) -/
import Derived.Test.YtcgfpffgiimgmaaGAddrsetPrefixes2
section
namespace Go.Proofs.Ytcgfpffgiimgmaa.Q
open Go.RowKit Go.Proofs.YtcgfpffgiimgmaaW.PrintWords Go.Proofs.YtcgfpffgiimgmaaW.PrintLast Go.Proofs.YtcgfpffgiimgmaaW.PrintMore
attribute [local go_sem] max2_int min2_int max_two min_two max_three min_three max_four min_four
set_option linter.unusedVariables false
set_option linter.unusedSimpArgs false
attribute [local go_sem high] eqA45
def intrusionlaw07_awake.f (k : Nat)  : Option (Bool) := (intrusionlaw07_ip.f 2).bind fun bt544 => ((intrusionlaw07_ip.f 3).bind fun bt547 => ((intrusionlaw07_ip.f 1).bind fun bt550 => ((intrusionlaw07_ip.f 1).bind fun bt553 => ((some (([(⟨(⟨bt544.1, bt544.2.1, bt544.2.2⟩ : S36), (⟨bt547.1, bt547.2.1, bt547.2.2⟩ : S36)⟩ : S66), (⟨(⟨bt550.1, bt550.2.1, bt550.2.2⟩ : S36), (⟨bt553.1, bt553.2.1, bt553.2.2⟩ : S36)⟩ : S66)] : List (S66)) : List (S66))).bind fun y556 => ((intrusionlaw07_ip.f 1).bind fun bt559 => ((intrusionlaw07_ip.f 4).bind fun bt562 => ((addrset_Prefixes.f k (([(⟨(⟨bt559.1, bt559.2.1, bt559.2.2⟩ : S36), (⟨bt562.1, bt562.2.1, bt562.2.2⟩ : S36)⟩ : S66)] : List (S66)))).bind fun t568 => ((addrset_Normal.f k y556).bind fun t571 => ((intrusionlaw07_ip.f 1).bind fun bt574 => ((intrusionlaw07_ip.f 3).bind fun bt577 => ((intrusionref07_Same.f k t571 (([(⟨(⟨bt574.1, bt574.2.1, bt574.2.2⟩ : S36), (⟨bt577.1, bt577.2.1, bt577.2.2⟩ : S36)⟩ : S66)] : List (S66)))).bind fun t583 => (if t583 = true then ((addrset_Valid.f k y556).bind fun t584 => (if t584 = true then (some false) else (if (t568.length : Int) = 3 then (if 0 < (t568.length : Int) then ((intrusionlaw07_ip.f 1).bind fun bt586 => (if ((((rd_T45 t568 0).f0.f0) == bt586.1 && (((rd_T45 t568 0).f0.f1) == bt586.2.1 && (((rd_T45 t568 0).f0.f2) == bt586.2.2))) && (((rd_T45 t568 0).f1) == 32)) = true then (if 1 < (t568.length : Int) then ((intrusionlaw07_ip.f 2).bind fun bt590 => (if ((((rd_T45 t568 1).f0.f0) == bt590.1 && (((rd_T45 t568 1).f0.f1) == bt590.2.1 && (((rd_T45 t568 1).f0.f2) == bt590.2.2))) && (((rd_T45 t568 1).f1) == 31)) = true then ((addrset_All.f).bind fun t593 => (some ((t593.length : Int) == 2))) else (some false))) else (none)) else (some false))) else (none)) else (some false)))) else (some false)))))))))))))
theorem intrusionlaw07_awake.mono : ∀ k, LeO (intrusionlaw07_awake.f k ) (intrusionlaw07_awake.f (k + 1) ) := by
  intro  k
  unfold intrusionlaw07_awake.f
  repeat' first
      | (with_reducible exact addrset_Normal.mono _ _)
      | (with_reducible exact addrset_Prefixes.mono _ _)
      | (with_reducible exact addrset_Valid.mono _ _)
      | (with_reducible exact intrusionref07_Same.mono _ _ _)
      | (with_reducible exact LeO.refl _)
      | (with_reducible exact LeO.none _)
      | (with_reducible refine LeO.ite ?_ ?_)
      | (with_reducible refine LeO.bind ?_ (fun _ => ?_))
      | exact addrset_Normal.mono _ _
      | exact addrset_Prefixes.mono _ _
      | exact addrset_Valid.mono _ _
      | exact intrusionref07_Same.mono _ _ _
      | exact LeO.none _
      | refine LeO.ite ?_ ?_
      | refine LeO.bind ?_ (fun _ => ?_)
def intrusionlaw07_awake.T3 : Bool × List (List Nat × List Nat) := (true, [([], []), ([0], [0]), ([1], []), ([2], []), ([2, 3], [2, 3]), ([4], [4]), ([1, 5, 3], [1, 5]), ([6, 6], [6]), ([7], [7]), ([8, 7, 7], [7, 8]), ([9, 7], [7, 9]), ([7, 10], [7, 10]), ([11, 9], [11]), ([12], [12]), ([13, 12], [12, 13]), ([14, 12], [12, 14]), ([12, 15], [12, 15]), ([16, 12], [16]), ([17], [17]), ([18, 17], [17, 18]), ([19, 17], [17, 19]), ([17, 17], [17]), ([21, 17], [17, 21]), ([20, 22, 17], [17, 20, 22]), ([17, 23], [17, 23]), ([24, 21], [24]), ([25], [25]), ([26, 25], [25, 26]), ([27, 25], [25, 27]), ([25, 25], [25]), ([29, 25], [25, 29]), ([28, 30, 25], [25, 28, 30]), ([25, 31], [25, 31]), ([32, 29], [32]), ([33, 33], [33]), ([34, 33], [33, 34]), ([35, 33], [33, 35]), ([33, 36], [33, 36]), ([37, 34, 0, 1, 2, 3, 4, 5, 6, 7, 8, 9, 10, 11, 12, 13, 14, 15, 16, 17, 18, 19, 20, 21, 22, 23, 24, 25, 26, 27, 28, 29, 30, 31, 32, 33, 34, 35, 36, 37], [37])])
def intrusionlaw07_awake.B3 : List Nat := [0, 1, 3, 7, 15, 31, 63, 127, 255, 511, 1023, 2047, 4095, 8191, 16383, 32767, 65535, 131071, 262143, 524287, 1048575, 262143, 2359295, 8388607, 16777215, 33554431, 67108863, 134217727, 268435455, 67108863, 603979775, 2147483647, 4294967295, 8589934591, 17179869183, 34359738367, 68719476735, 137438953471, 274877906943]
theorem intrusionlaw07_awake.tab3 : rtab .any (opsOf Try.f36 3) = intrusionlaw07_awake.T3 := by kernel_rfl
theorem intrusionlaw07_awake.bits3 : waitsOk intrusionlaw07_awake.T3.2 intrusionlaw07_awake.B3 = true := by kernel_rfl
set_option maxHeartbeats 8000000 in
set_option maxRecDepth 100000 in
theorem intrusionlaw07_awake.calls (k : Nat)  (r : Bool) (w : World) (h : intrusionlaw07_awake.f k  = some r) :
 Calls Try.prog 36 #[] w fun e w' => e = .returned (.bool r) ∧ Below w.heap.size w w' := by
 have hu66 := Try.underlying66
 have hu45 := Try.underlying45
 have HB := Aside0.mk (Below.refl w.heap.size w)
 unfold intrusionlaw07_awake.f at h; have H := h
 clear h
 replace H := Option.bind_eq_some_iff.mp H
 obtain ⟨⟨t544, t545, t546⟩, A10, H⟩ := H
 try dsimp only at H
 have A1 := Aside0.mk A10
 clear A10
 replace H := Option.bind_eq_some_iff.mp H
 obtain ⟨⟨t547, t548, t549⟩, A20, H⟩ := H
 try dsimp only at H
 have A2 := Aside0.mk A20
 clear A20
 replace H := Option.bind_eq_some_iff.mp H
 obtain ⟨⟨t550, t551, t552⟩, A30, H⟩ := H
 try dsimp only at H
 have A3 := Aside0.mk A30
 clear A30
 replace H := Option.bind_eq_some_iff.mp H
 obtain ⟨⟨t553, t554, t555⟩, A40, H⟩ := H
 try dsimp only at H
 have A4 := Aside0.mk A40
 clear A40
 obtain ⟨y556, hy556⟩ : ∃ y_ : List (S66), y_ = (([(⟨(⟨t544, t545, t546⟩ : S36), (⟨t547, t548, t549⟩ : S36)⟩ : S66), (⟨(⟨t550, t551, t552⟩ : S36), (⟨t553, t554, t555⟩ : S36)⟩ : S66)] : List (S66))) := ⟨_, rfl⟩
 rw [← hy556] at H; try dsimp only [Option.bind_some] at H
 have Ny556 := Aside0.mk hy556
 clear hy556
 replace H := Option.bind_eq_some_iff.mp H
 obtain ⟨⟨t559, t560, t561⟩, A50, H⟩ := H
 try dsimp only at H
 have A5 := Aside0.mk A50
 clear A50
 replace H := Option.bind_eq_some_iff.mp H
 obtain ⟨⟨t562, t563, t564⟩, A60, H⟩ := H
 try dsimp only at H
 have A6 := Aside0.mk A60
 clear A60
 obtain ⟨y565, hy565⟩ : ∃ y_ : List (S66), y_ = (([(⟨(⟨t559, t560, t561⟩ : S36), (⟨t562, t563, t564⟩ : S36)⟩ : S66)] : List (S66))) := ⟨_, rfl⟩
 rw [← hy565] at H; try dsimp only [Option.bind_some] at H
 have Ny565 := Aside0.mk hy565
 clear hy565
 replace H := Option.bind_eq_some_iff.mp H
 obtain ⟨t568, A70, H⟩ := H
 try dsimp only at H
 have A7 := Aside0.mk A70
 clear A70
 replace H := Option.bind_eq_some_iff.mp H
 obtain ⟨t571, A80, H⟩ := H
 try dsimp only at H
 have A8 := Aside0.mk A80
 clear A80
 replace H := Option.bind_eq_some_iff.mp H
 obtain ⟨⟨t574, t575, t576⟩, A90, H⟩ := H
 try dsimp only at H
 have A9 := Aside0.mk A90
 clear A90
 replace H := Option.bind_eq_some_iff.mp H
 obtain ⟨⟨t577, t578, t579⟩, A100, H⟩ := H
 try dsimp only at H
 have A10 := Aside0.mk A100
 clear A100
 obtain ⟨y580, hy580⟩ : ∃ y_ : List (S66), y_ = (([(⟨(⟨t574, t575, t576⟩ : S36), (⟨t577, t578, t579⟩ : S36)⟩ : S66)] : List (S66))) := ⟨_, rfl⟩
 rw [← hy580] at H; try dsimp only [Option.bind_some] at H
 have Ny580 := Aside0.mk hy580
 clear hy580
 replace H := Option.bind_eq_some_iff.mp H
 obtain ⟨t583, A110, H⟩ := H
 try dsimp only at H
 have A11 := Aside0.mk A110
 clear A110
 by_cases c12 : t583 = true
 · subst c12
   rw [if_pos rfl] at H
   replace H := Option.bind_eq_some_iff.mp H
   obtain ⟨t584, A130, H⟩ := H
   try dsimp only at H
   have A13 := Aside0.mk A130
   clear A130
   by_cases c14 : t584 = true
   · subst c14
     rw [if_pos rfl] at H
     obtain rfl := Option.some.inj H
     go_enter Try.func36, Try.ntmps36
     try go_wp2_with (first | ((with_reducible refine gate_callee (f := 70) rfl ?_); refine goesL_ (some 3) rfl rfl Try.func70 (by kernel_rfl) rfl #[.int .u64 2] rfl (by (try simp only [List.map_toArray, List.map_cons, List.map_nil]); first | done | rfl | (simp only [List.length_drop, List.length_take]; rfl)) ?_; (with_reducible refine (intrusionlaw07_ip.calls 2 t544 t545 t546 _ A1.out).mono ?_); rintro e w15 ⟨rfl, hb⟩; refine ⟨_, rfl, ?_⟩; replace HB := Aside0.mk (below_step (zB HB) hb); (try clear hb)) | ((with_reducible refine gate_callee (f := 70) rfl ?_); refine goesL_ (some 4) rfl rfl Try.func70 (by kernel_rfl) rfl #[.int .u64 3] rfl (by (try simp only [List.map_toArray, List.map_cons, List.map_nil]); first | done | rfl | (simp only [List.length_drop, List.length_take]; rfl)) ?_; (with_reducible refine (intrusionlaw07_ip.calls 3 t547 t548 t549 _ A2.out).mono ?_); rintro e w16 ⟨rfl, hb⟩; refine ⟨_, rfl, ?_⟩; replace HB := Aside0.mk (below_step (zB HB) hb); (try clear hb)) | ((with_reducible refine gate_callee (f := 70) rfl ?_); refine goesL_ (some 6) rfl rfl Try.func70 (by kernel_rfl) rfl #[.int .u64 1] rfl (by (try simp only [List.map_toArray, List.map_cons, List.map_nil]); first | done | rfl | (simp only [List.length_drop, List.length_take]; rfl)) ?_; (with_reducible refine (intrusionlaw07_ip.calls 1 t550 t551 t552 _ A3.out).mono ?_); rintro e w17 ⟨rfl, hb⟩; refine ⟨_, rfl, ?_⟩; replace HB := Aside0.mk (below_step (zB HB) hb); (try clear hb)) | ((with_reducible refine gate_callee (f := 70) rfl ?_); refine goesL_ (some 7) rfl rfl Try.func70 (by kernel_rfl) rfl #[.int .u64 1] rfl (by (try simp only [List.map_toArray, List.map_cons, List.map_nil]); first | done | rfl | (simp only [List.length_drop, List.length_take]; rfl)) ?_; (with_reducible refine (intrusionlaw07_ip.calls 1 t553 t554 t555 _ A4.out).mono ?_); rintro e w18 ⟨rfl, hb⟩; refine ⟨_, rfl, ?_⟩; replace HB := Aside0.mk (below_step (zB HB) hb); (try clear hb)) | ((with_reducible refine gate_dst (N := 9) rfl ?_); (try (refine gate_guard (by rfl) ?_; dsimp only)); refine Kd.R_lit k66 _ 66 ?hg (N := 9) ?hd (xs := ([(⟨(⟨t544, t545, t546⟩ : S36), (⟨t547, t548, t549⟩ : S36)⟩ : S66), (⟨(⟨t550, t551, t552⟩ : S36), (⟨t553, t554, t555⟩ : S36)⟩ : S66)] : List (S66))) (inner := [.bool t544, .int .u64 t545, .int .u64 t546, .bool t547, .int .u64 t548, .int .u64 t549, .bool t550, .int .u64 t551, .int .u64 t552, .bool t553, .int .u64 t554, .int .u64 t555]) (ok := fun _ => True) (okp := fun _ => True) ?hr ?hp (fun _ hk => hk) trivial (Below.refl _ _) (Nat.le_refl _) (by simp) ?_; (case hd => rfl); (case hg => rfl); (case hr => first | (go_simp; done) | (go_simp; rfl)); (case hp => exact (Reps.c6 (show Kd.M k66 _ _ _ (⟨(⟨t544, t545, t546⟩ : S36), (⟨t547, t548, t549⟩ : S36)⟩ : S66) [.bool t544, .int .u64 t545, .int .u64 t546, .bool t547, .int .u64 t548, .int .u64 t549] from (k66_mkM _ _ _ (⟨(⟨t544, t545, t546⟩ : S36), (⟨t547, t548, t549⟩ : S36)⟩ : S66) )) (Reps.c6 (show Kd.M k66 _ _ _ (⟨(⟨t550, t551, t552⟩ : S36), (⟨t553, t554, t555⟩ : S36)⟩ : S66) [.bool t550, .int .u64 t551, .int .u64 t552, .bool t553, .int .u64 t554, .int .u64 t555] from (k66_mkM _ _ _ (⟨(⟨t550, t551, t552⟩ : S36), (⟨t553, t554, t555⟩ : S36)⟩ : S66) )) (Reps.none _ _)))); intro v557 w19 ho20 hb hg_ hnew_; clear hg_ hnew_; (first | rw [← Ny556.out] at ho20 | (simp only [Int.reduceToNat] at ho20; rw [← Ny556.out] at ho20)); have HO558 := Aside0.mk (Kd.R_lower ho20 (below_size (zB HB))); replace HB := Aside0.mk (below_step (zB HB) hb); clear hb ho20) | ((with_reducible refine gate_callee (f := 70) rfl ?_); refine goesL_ (some 10) rfl rfl Try.func70 (by kernel_rfl) rfl #[.int .u64 1] rfl (by (try simp only [List.map_toArray, List.map_cons, List.map_nil]); first | done | rfl | (simp only [List.length_drop, List.length_take]; rfl)) ?_; (with_reducible refine (intrusionlaw07_ip.calls 1 t559 t560 t561 _ A5.out).mono ?_); rintro e w21 ⟨rfl, hb⟩; refine ⟨_, rfl, ?_⟩; replace HO558 := Aside0.mk (Kd.R_below (zR HO558) hb); replace HB := Aside0.mk (below_step (zB HB) hb); (try clear hb)) | ((with_reducible refine gate_callee (f := 70) rfl ?_); refine goesL_ (some 11) rfl rfl Try.func70 (by kernel_rfl) rfl #[.int .u64 4] rfl (by (try simp only [List.map_toArray, List.map_cons, List.map_nil]); first | done | rfl | (simp only [List.length_drop, List.length_take]; rfl)) ?_; (with_reducible refine (intrusionlaw07_ip.calls 4 t562 t563 t564 _ A6.out).mono ?_); rintro e w22 ⟨rfl, hb⟩; refine ⟨_, rfl, ?_⟩; replace HO558 := Aside0.mk (Kd.R_below (zR HO558) hb); replace HB := Aside0.mk (below_step (zB HB) hb); (try clear hb)) | ((with_reducible refine gate_dst (N := 13) rfl ?_); (try (refine gate_guard (by rfl) ?_; dsimp only)); refine Kd.R_lit k66 _ 66 ?hg (N := 13) ?hd (xs := ([(⟨(⟨t559, t560, t561⟩ : S36), (⟨t562, t563, t564⟩ : S36)⟩ : S66)] : List (S66))) (inner := [.bool t559, .int .u64 t560, .int .u64 t561, .bool t562, .int .u64 t563, .int .u64 t564]) (ok := fun _ => True) (okp := fun _ => True) ?hr ?hp (fun _ hk => hk) trivial (Below.refl _ _) (Nat.le_refl _) (by simp) ?_; (case hd => rfl); (case hg => rfl); (case hr => first | (go_simp; done) | (go_simp; rfl)); (case hp => exact (Reps.c6 (show Kd.M k66 _ _ _ (⟨(⟨t559, t560, t561⟩ : S36), (⟨t562, t563, t564⟩ : S36)⟩ : S66) [.bool t559, .int .u64 t560, .int .u64 t561, .bool t562, .int .u64 t563, .int .u64 t564] from (k66_mkM _ _ _ (⟨(⟨t559, t560, t561⟩ : S36), (⟨t562, t563, t564⟩ : S36)⟩ : S66) )) (Reps.none _ _))); intro v566 w23 ho24 hb hg_ hnew_; clear hg_ hnew_; (first | rw [← Ny565.out] at ho24 | (simp only [Int.reduceToNat] at ho24; rw [← Ny565.out] at ho24)); have HO567 := Aside0.mk (Kd.R_lower (Kd.R_new' ho24 (Kd.R_lt (zR HO558))) (below_size (zB HB))); replace HO558 := Aside0.mk (Kd.R_elder' (zR HO558) (Kd.R_base ho24) hb); replace HB := Aside0.mk (below_step (zB HB) hb); clear hb ho24; obtain ⟨Ao25, co25, eo25⟩ := Kd.R_slice HO567.out; subst eo25) | ((with_reducible refine gate_callee (f := 46) rfl ?_); refine goesL_ (some 14) rfl rfl Try.func46 (by kernel_rfl) rfl #[.slice Ao25 y565.length co25] rfl (by (try simp only [List.map_toArray, List.map_cons, List.map_nil]); first | done | rfl | (simp only [List.length_drop, List.length_take]; rfl)) ?_; (with_reducible refine (addrset_Prefixes.calls k _ _ y565 t568 _ ?side1 ?side2 A7.out).mono ?_); (case side1 => repeat (first | exact (Kd.R_reads' HO567.out).2.2 | (with_reducible refine Kd.C_alloc ?_ _) | (with_reducible refine Kd.C_drewN ?_ _) | (with_reducible refine Kd.C_drew ?_))); (case side2 => exact (Kd.R_reads' HO567.out).2.1); rintro e w26 ⟨v569, rfl, ho0, hb⟩; refine ⟨_, rfl, ?_⟩; replace HO558 := Aside0.mk (Kd.R_below (zR HO558) hb); replace HO567 := Aside0.mk (Kd.R_below (zR HO567) hb); have HO570 := Aside0.mk (Kd.R_lower ho0 (below_size (zB HB))); replace HB := Aside0.mk (below_step (zB HB) hb); (try clear hb); (try clear ho0)))
     replace HO558 := Aside0.mk (Kd.R_drew HO558.out)
     replace HO567 := Aside0.mk (Kd.R_drew HO567.out)
     replace HO570 := Aside0.mk (Kd.R_drew HO570.out)
     replace HB := Aside0.mk (below_drew1 HB.out)
     obtain ⟨Ao28, co28, eo28⟩ := Kd.R_slice HO558.out
     (first | subst eo28 | (injection eo28 with f1_ f2_ f3_; have f4_ := f1_.symm; have f5_ := f3_.symm; clear f1_ f2_ f3_; subst f4_; subst f5_))
     refine start_ (n := 39) (S := fun w' => True) (ds := []) #[false, false, false, false, false, false, false, false, false, false, false, false, false, false, false, false, false, false, false, false, false, false, false, false, false, false, false, false, false, false, false, false, false, false, false, false, false, false, false] (by kernel_rfl) rfl rfl trivial (fun hHeld => ?_); refine with_tabW intrusionlaw07_awake.tab3 intrusionlaw07_awake.bits3 (fun HT_ HW_ => ?_)
     generalize w26.drew = w27 at HO558 HO567 HO570 HB hHeld ⊢
     refine zp 0 15 HT_ ?_; refine zo 1 16 HT_ (fun K hK => ?_)
     refine zg Try.func38 #[.slice Ao28 y556.length co28] ?_
     with_reducible refine (addrset_Normal.calls k _ _ y556 t571 _ ?side1 ?side2 A8.out).mono ?_
     (case side1 => repeat (first | exact (Kd.R_reads' HO558.out).2.2 | (with_reducible refine Kd.C_alloc ?_ _) | (with_reducible refine Kd.C_drewN ?_ _) | (with_reducible refine Kd.C_drew ?_)))
     (case side2 => exact (Kd.R_reads' HO558.out).2.1)
     rintro e w29 ⟨v572, rfl, ho0, hb⟩
     refine ⟨_, rfl, ?_⟩
     replace HO570 := Aside0.mk (Kd.R_below (zR HO570) hb)
     have HO573 := Aside0.mk (Kd.R_lower (Kd.R_new' (Kd.R_new' ho0 (Kd.R_lt (zR HO558))) (Kd.R_lt (zR HO567))) (below_size (zB HB)))
     replace HO558 := Aside0.mk (Kd.R_elder' (zR HO558) (Kd.R_base ho0) hb)
     replace HO567 := Aside0.mk (Kd.R_elder' (zR HO567) (Kd.R_base ho0) hb)
     replace HB := Aside0.mk (below_step (zB HB) hb)
     (try clear hb)
     (try clear ho0)
     refine hK.out _ _ trivial (fun hHeld => ?_)
     clear hK K
     refine zn 16 ?_; refine zo 2 17 HT_ (fun K hK => ?_)
     refine zg Try.func70 #[.int .u64 1] ?_
     with_reducible refine (intrusionlaw07_ip.calls 1 t574 t575 t576 _ A9.out).mono ?_
     rintro e w30 ⟨rfl, hb⟩
     refine ⟨_, rfl, ?_⟩
     replace HO558 := Aside0.mk (Kd.R_below (zR HO558) hb)
     replace HO567 := Aside0.mk (Kd.R_below (zR HO567) hb)
     replace HO570 := Aside0.mk (Kd.R_below (zR HO570) hb)
     replace HO573 := Aside0.mk (Kd.R_below (zR HO573) hb)
     replace HB := Aside0.mk (below_step (zB HB) hb)
     (try clear hb)
     refine hK.out _ _ trivial (fun hHeld => ?_)
     clear hK K
     refine zn 17 ?_; refine zo 3 18 HT_ (fun K hK => ?_)
     refine zg Try.func70 #[.int .u64 3] ?_
     with_reducible refine (intrusionlaw07_ip.calls 3 t577 t578 t579 _ A10.out).mono ?_
     rintro e w31 ⟨rfl, hb⟩
     refine ⟨_, rfl, ?_⟩
     replace HO558 := Aside0.mk (Kd.R_below (zR HO558) hb)
     replace HO567 := Aside0.mk (Kd.R_below (zR HO567) hb)
     replace HO570 := Aside0.mk (Kd.R_below (zR HO570) hb)
     replace HO573 := Aside0.mk (Kd.R_below (zR HO573) hb)
     replace HB := Aside0.mk (below_step (zB HB) hb)
     (try clear hb)
     refine hK.out _ _ trivial (fun hHeld => ?_)
     clear hK K
     refine zn 18 ?_; refine zp 4 19 HT_ ?_; refine zo 5 20 HT_ (fun K hK => ?_)
     refine Kd.R_lit_step k66 _ 66 ?hg (N := 20) ?hd (xs := ([(⟨(⟨t574, t575, t576⟩ : S36), (⟨t577, t578, t579⟩ : S36)⟩ : S66)] : List (S66))) (inner := [.bool t574, .int .u64 t575, .int .u64 t576, .bool t577, .int .u64 t578, .int .u64 t579]) (ok := fun _ => True) (okp := fun _ => True) ?hr ?hp (fun _ hk => hk) trivial (Below.refl _ _) (Nat.le_refl _) (by simp) ?_; (case hd => rfl); (case hg => rfl); (case hr => first | (go_simp; done) | (go_simp; rfl)); (case hp => exact (Reps.c6 (show Kd.M k66 _ _ _ (⟨(⟨t574, t575, t576⟩ : S36), (⟨t577, t578, t579⟩ : S36)⟩ : S66) [.bool t574, .int .u64 t575, .int .u64 t576, .bool t577, .int .u64 t578, .int .u64 t579] from (k66_mkM _ _ _ (⟨(⟨t574, t575, t576⟩ : S36), (⟨t577, t578, t579⟩ : S36)⟩ : S66) )) (Reps.none _ _)))
     intro v581 w32 ho33 hb hg_ hnew_
     clear hg_ hnew_
     (first | rw [← Ny580.out] at ho33 | (simp only [Int.reduceToNat] at ho33; rw [← Ny580.out] at ho33))
     replace HO570 := Aside0.mk (Kd.R_below (zR HO570) hb)
     have HO582 := Aside0.mk (Kd.R_lower (Kd.R_new' (Kd.R_new' (Kd.R_new' ho33 (Kd.R_lt (zR HO558))) (Kd.R_lt (zR HO567))) (Kd.R_lt (zR HO573))) (below_size (zB HB)))
     replace HO558 := Aside0.mk (Kd.R_elder' (zR HO558) (Kd.R_base ho33) hb)
     replace HO567 := Aside0.mk (Kd.R_elder' (zR HO567) (Kd.R_base ho33) hb)
     replace HO573 := Aside0.mk (Kd.R_elder' (zR HO573) (Kd.R_base ho33) hb)
     replace HB := Aside0.mk (below_step (zB HB) hb)
     clear hb ho33
     obtain ⟨Ao34, co34, eo34⟩ := Kd.R_slice HO573.out
     (first | subst eo34 | (injection eo34 with f1_ f2_ f3_; have f4_ := f1_.symm; have f5_ := f3_.symm; clear f1_ f2_ f3_; subst f4_; subst f5_))
     obtain ⟨Ao35, co35, eo35⟩ := Kd.R_slice HO582.out
     (first | subst eo35 | (injection eo35 with f1_ f2_ f3_; have f4_ := f1_.symm; have f5_ := f3_.symm; clear f1_ f2_ f3_; subst f4_; subst f5_))
     refine hK.out _ _ trivial (fun hHeld => ?_)
     clear hK K
     refine zn 20 ?_; refine zo 6 21 HT_ (fun K hK => ?_)
     refine zg Try.func37 #[.slice Ao34 t571.length co34, .slice Ao35 y580.length co35] ?_
     with_reducible refine (intrusionref07_Same.calls k _ _ t571 _ _ y580 true _ ?side1 ?side2 ?side3 ?side4 A11.out).mono ?_
     (case side1 => repeat (first | exact (Kd.R_reads' HO573.out).2.2 | (with_reducible refine Kd.C_alloc ?_ _) | (with_reducible refine Kd.C_drewN ?_ _) | (with_reducible refine Kd.C_drew ?_)))
     (case side2 => exact (Kd.R_reads' HO573.out).2.1)
     (case side3 => repeat (first | exact (Kd.R_reads' HO582.out).2.2 | (with_reducible refine Kd.C_alloc ?_ _) | (with_reducible refine Kd.C_drewN ?_ _) | (with_reducible refine Kd.C_drew ?_)))
     (case side4 => exact (Kd.R_reads' HO582.out).2.1)
     rintro e w' ⟨rfl, ⟨nd, rfl⟩⟩
     refine ⟨_, rfl, ?_⟩
     refine hK.out _ _ trivial (fun hHeld => ?_)
     clear hK K
     refine zn 21 ?_; refine zp 7 22 HT_ ?_; refine zp 8 23 HT_ ?_; refine zo 9 24 HT_ (fun K hK => ?_)
     refine zg Try.func40 #[.slice Ao28 y556.length co28] ?_
     with_reducible refine (addrset_Valid.calls k _ _ y556 true _ ?side1 ?side2 A13.out).mono ?_
     (case side1 => repeat (first | exact (Kd.R_reads' HO558.out).2.2 | (with_reducible refine Kd.C_alloc ?_ _) | (with_reducible refine Kd.C_drewN ?_ _) | (with_reducible refine Kd.C_drew ?_)))
     (case side2 => exact (Kd.R_reads' HO558.out).2.1)
     rintro e w36 ⟨rfl, hb⟩
     refine ⟨_, rfl, ?_⟩
     replace HO558 := Aside0.mk (Kd.R_below (zR HO558) hb)
     replace HO567 := Aside0.mk (Kd.R_below (zR HO567) hb)
     replace HO570 := Aside0.mk (Kd.R_below (zR HO570) hb)
     replace HO573 := Aside0.mk (Kd.R_below (zR HO573) hb)
     replace HO582 := Aside0.mk (Kd.R_below (zR HO582) hb)
     replace HB := Aside0.mk (below_step (zB HB) hb)
     (try clear hb)
     refine hK.out _ _ trivial (fun hHeld => ?_)
     clear hK K
     refine zn 24 ?_; refine zp 10 25 HT_ ?_; refine zp 11 26 HT_ ?_; refine zp 12 27 HT_ ?_; refine zu 13 28 HT_ ?_; refine zu 14 29 HT_ ?_; refine zu 15 30 HT_ ?_; refine zp 16 31 HT_ ?_; refine zp 17 32 HT_ ?_; refine zu 18 33 HT_ ?_; refine zu 19 34 HT_ ?_; refine zu 20 35 HT_ ?_; refine zu 21 36 HT_ ?_; refine zu 22 37 HT_ ?_; refine zu 23 38 HT_ ?_; refine zp 24 39 HT_ ?_; refine zp 25 40 HT_ ?_; refine zu 26 41 HT_ ?_; refine zu 27 42 HT_ ?_; refine zu 28 43 HT_ ?_; refine zu 29 44 HT_ ?_; refine zu 30 45 HT_ ?_; refine zu 31 46 HT_ ?_; refine zp 32 47 HT_ ?_; refine zp 33 48 HT_ ?_; refine zu 34 49 HT_ ?_; refine zu 35 50 HT_ ?_; refine zu 36 51 HT_ ?_; refine zp 37 52 HT_ ?_; refine zp 38 0 HT_ ?_; refine zd HT_ ?_
     try go_wp2
     go_ret
     exact ⟨by first | rfl | (simp [errW_none, errW_some] <;> rfl) | (simp [*, errW_none, errW_some] <;> rfl), by repeat (first | (with_reducible first | exact HB.out | apply below_alloc | apply pw_below_drewN | apply below_drew1) | exact HB.out)⟩
   · replace c14 := Bool.eq_false_iff.mpr c14
     subst c14
     rw [if_neg zF] at H
     by_cases c37 : (t568.length : Int) = 3
     · rw [if_pos c37] at H
       have c37b0 : ((t568.length : Int) == 3) = true := beq_iff_eq.mpr c37
       have c37b1 : ((t568.length : Int) != 3) = false := bne_eq_false_iff_eq.mpr c37
       clear c37
       by_cases c38 : 0 < (t568.length : Int)
       · rw [if_pos c38] at H
         have c38b0 : decide (0 < (t568.length : Int)) = true := decide_eq_true c38
         have c38b1 : decide (0 < t568.length) = true := decide_eq_true (by omega)
         clear c38
         replace H := Option.bind_eq_some_iff.mp H
         obtain ⟨⟨t586, t587, t588⟩, A390, H⟩ := H
         try dsimp only at H
         have A39 := Aside0.mk A390
         clear A390
         by_cases c40 : ((((rd_T45 t568 0).f0.f0) == t586 && (((rd_T45 t568 0).f0.f1) == t587 && (((rd_T45 t568 0).f0.f2) == t588))) && (((rd_T45 t568 0).f1) == 32)) = true
         · rw [if_pos c40] at H
           have c40b0 : ((((rd_T45 t568 0).f0.f0) == t586 && (((rd_T45 t568 0).f0.f1) == t587 && (((rd_T45 t568 0).f0.f2) == t588))) && (((rd_T45 t568 0).f1) == 32)) = true := c40
           clear c40
           by_cases c41 : 1 < (t568.length : Int)
           · rw [if_pos c41] at H
             have c41b0 : decide (1 < (t568.length : Int)) = true := decide_eq_true c41
             have c41b1 : decide (1 < t568.length) = true := decide_eq_true (by omega)
             clear c41
             replace H := Option.bind_eq_some_iff.mp H
             obtain ⟨⟨t590, t591, t592⟩, A420, H⟩ := H
             try dsimp only at H
             have A42 := Aside0.mk A420
             clear A420
             by_cases c43 : ((((rd_T45 t568 1).f0.f0) == t590 && (((rd_T45 t568 1).f0.f1) == t591 && (((rd_T45 t568 1).f0.f2) == t592))) && (((rd_T45 t568 1).f1) == 31)) = true
             · rw [if_pos c43] at H
               have c43b0 : ((((rd_T45 t568 1).f0.f0) == t590 && (((rd_T45 t568 1).f0.f1) == t591 && (((rd_T45 t568 1).f0.f2) == t592))) && (((rd_T45 t568 1).f1) == 31)) = true := c43
               clear c43
               replace H := Option.bind_eq_some_iff.mp H
               obtain ⟨t593, A440, H⟩ := H
               try dsimp only at H
               have A44 := Aside0.mk A440
               clear A440
               obtain rfl := Option.some.inj H
               go_enter Try.func36, Try.ntmps36
               try go_wp2_with (first | ((with_reducible refine gate_callee (f := 70) rfl ?_); refine goesL_ (some 3) rfl rfl Try.func70 (by kernel_rfl) rfl #[.int .u64 2] rfl (by (try simp only [List.map_toArray, List.map_cons, List.map_nil]); first | done | rfl | (simp only [List.length_drop, List.length_take]; rfl)) ?_; (with_reducible refine (intrusionlaw07_ip.calls 2 t544 t545 t546 _ A1.out).mono ?_); rintro e w45 ⟨rfl, hb⟩; refine ⟨_, rfl, ?_⟩; replace HB := Aside0.mk (below_step (zB HB) hb); (try clear hb)) | ((with_reducible refine gate_callee (f := 70) rfl ?_); refine goesL_ (some 4) rfl rfl Try.func70 (by kernel_rfl) rfl #[.int .u64 3] rfl (by (try simp only [List.map_toArray, List.map_cons, List.map_nil]); first | done | rfl | (simp only [List.length_drop, List.length_take]; rfl)) ?_; (with_reducible refine (intrusionlaw07_ip.calls 3 t547 t548 t549 _ A2.out).mono ?_); rintro e w46 ⟨rfl, hb⟩; refine ⟨_, rfl, ?_⟩; replace HB := Aside0.mk (below_step (zB HB) hb); (try clear hb)) | ((with_reducible refine gate_callee (f := 70) rfl ?_); refine goesL_ (some 6) rfl rfl Try.func70 (by kernel_rfl) rfl #[.int .u64 1] rfl (by (try simp only [List.map_toArray, List.map_cons, List.map_nil]); first | done | rfl | (simp only [List.length_drop, List.length_take]; rfl)) ?_; (with_reducible refine (intrusionlaw07_ip.calls 1 t550 t551 t552 _ A3.out).mono ?_); rintro e w47 ⟨rfl, hb⟩; refine ⟨_, rfl, ?_⟩; replace HB := Aside0.mk (below_step (zB HB) hb); (try clear hb)) | ((with_reducible refine gate_callee (f := 70) rfl ?_); refine goesL_ (some 7) rfl rfl Try.func70 (by kernel_rfl) rfl #[.int .u64 1] rfl (by (try simp only [List.map_toArray, List.map_cons, List.map_nil]); first | done | rfl | (simp only [List.length_drop, List.length_take]; rfl)) ?_; (with_reducible refine (intrusionlaw07_ip.calls 1 t553 t554 t555 _ A4.out).mono ?_); rintro e w48 ⟨rfl, hb⟩; refine ⟨_, rfl, ?_⟩; replace HB := Aside0.mk (below_step (zB HB) hb); (try clear hb)) | ((with_reducible refine gate_dst (N := 9) rfl ?_); (try (refine gate_guard (by rfl) ?_; dsimp only)); refine Kd.R_lit k66 _ 66 ?hg (N := 9) ?hd (xs := ([(⟨(⟨t544, t545, t546⟩ : S36), (⟨t547, t548, t549⟩ : S36)⟩ : S66), (⟨(⟨t550, t551, t552⟩ : S36), (⟨t553, t554, t555⟩ : S36)⟩ : S66)] : List (S66))) (inner := [.bool t544, .int .u64 t545, .int .u64 t546, .bool t547, .int .u64 t548, .int .u64 t549, .bool t550, .int .u64 t551, .int .u64 t552, .bool t553, .int .u64 t554, .int .u64 t555]) (ok := fun _ => True) (okp := fun _ => True) ?hr ?hp (fun _ hk => hk) trivial (Below.refl _ _) (Nat.le_refl _) (by simp) ?_; (case hd => rfl); (case hg => rfl); (case hr => first | (go_simp; done) | (go_simp; rfl)); (case hp => exact (Reps.c6 (show Kd.M k66 _ _ _ (⟨(⟨t544, t545, t546⟩ : S36), (⟨t547, t548, t549⟩ : S36)⟩ : S66) [.bool t544, .int .u64 t545, .int .u64 t546, .bool t547, .int .u64 t548, .int .u64 t549] from (k66_mkM _ _ _ (⟨(⟨t544, t545, t546⟩ : S36), (⟨t547, t548, t549⟩ : S36)⟩ : S66) )) (Reps.c6 (show Kd.M k66 _ _ _ (⟨(⟨t550, t551, t552⟩ : S36), (⟨t553, t554, t555⟩ : S36)⟩ : S66) [.bool t550, .int .u64 t551, .int .u64 t552, .bool t553, .int .u64 t554, .int .u64 t555] from (k66_mkM _ _ _ (⟨(⟨t550, t551, t552⟩ : S36), (⟨t553, t554, t555⟩ : S36)⟩ : S66) )) (Reps.none _ _)))); intro v557 w49 ho50 hb hg_ hnew_; clear hg_ hnew_; (first | rw [← Ny556.out] at ho50 | (simp only [Int.reduceToNat] at ho50; rw [← Ny556.out] at ho50)); have HO558 := Aside0.mk (Kd.R_lower ho50 (below_size (zB HB))); replace HB := Aside0.mk (below_step (zB HB) hb); clear hb ho50) | ((with_reducible refine gate_callee (f := 70) rfl ?_); refine goesL_ (some 10) rfl rfl Try.func70 (by kernel_rfl) rfl #[.int .u64 1] rfl (by (try simp only [List.map_toArray, List.map_cons, List.map_nil]); first | done | rfl | (simp only [List.length_drop, List.length_take]; rfl)) ?_; (with_reducible refine (intrusionlaw07_ip.calls 1 t559 t560 t561 _ A5.out).mono ?_); rintro e w51 ⟨rfl, hb⟩; refine ⟨_, rfl, ?_⟩; replace HO558 := Aside0.mk (Kd.R_below (zR HO558) hb); replace HB := Aside0.mk (below_step (zB HB) hb); (try clear hb)) | ((with_reducible refine gate_callee (f := 70) rfl ?_); refine goesL_ (some 11) rfl rfl Try.func70 (by kernel_rfl) rfl #[.int .u64 4] rfl (by (try simp only [List.map_toArray, List.map_cons, List.map_nil]); first | done | rfl | (simp only [List.length_drop, List.length_take]; rfl)) ?_; (with_reducible refine (intrusionlaw07_ip.calls 4 t562 t563 t564 _ A6.out).mono ?_); rintro e w52 ⟨rfl, hb⟩; refine ⟨_, rfl, ?_⟩; replace HO558 := Aside0.mk (Kd.R_below (zR HO558) hb); replace HB := Aside0.mk (below_step (zB HB) hb); (try clear hb)) | ((with_reducible refine gate_dst (N := 13) rfl ?_); (try (refine gate_guard (by rfl) ?_; dsimp only)); refine Kd.R_lit k66 _ 66 ?hg (N := 13) ?hd (xs := ([(⟨(⟨t559, t560, t561⟩ : S36), (⟨t562, t563, t564⟩ : S36)⟩ : S66)] : List (S66))) (inner := [.bool t559, .int .u64 t560, .int .u64 t561, .bool t562, .int .u64 t563, .int .u64 t564]) (ok := fun _ => True) (okp := fun _ => True) ?hr ?hp (fun _ hk => hk) trivial (Below.refl _ _) (Nat.le_refl _) (by simp) ?_; (case hd => rfl); (case hg => rfl); (case hr => first | (go_simp; done) | (go_simp; rfl)); (case hp => exact (Reps.c6 (show Kd.M k66 _ _ _ (⟨(⟨t559, t560, t561⟩ : S36), (⟨t562, t563, t564⟩ : S36)⟩ : S66) [.bool t559, .int .u64 t560, .int .u64 t561, .bool t562, .int .u64 t563, .int .u64 t564] from (k66_mkM _ _ _ (⟨(⟨t559, t560, t561⟩ : S36), (⟨t562, t563, t564⟩ : S36)⟩ : S66) )) (Reps.none _ _))); intro v566 w53 ho54 hb hg_ hnew_; clear hg_ hnew_; (first | rw [← Ny565.out] at ho54 | (simp only [Int.reduceToNat] at ho54; rw [← Ny565.out] at ho54)); have HO567 := Aside0.mk (Kd.R_lower (Kd.R_new' ho54 (Kd.R_lt (zR HO558))) (below_size (zB HB))); replace HO558 := Aside0.mk (Kd.R_elder' (zR HO558) (Kd.R_base ho54) hb); replace HB := Aside0.mk (below_step (zB HB) hb); clear hb ho54; obtain ⟨Ao55, co55, eo55⟩ := Kd.R_slice HO567.out; subst eo55) | ((with_reducible refine gate_callee (f := 46) rfl ?_); refine goesL_ (some 14) rfl rfl Try.func46 (by kernel_rfl) rfl #[.slice Ao55 y565.length co55] rfl (by (try simp only [List.map_toArray, List.map_cons, List.map_nil]); first | done | rfl | (simp only [List.length_drop, List.length_take]; rfl)) ?_; (with_reducible refine (addrset_Prefixes.calls k _ _ y565 t568 _ ?side1 ?side2 A7.out).mono ?_); (case side1 => repeat (first | exact (Kd.R_reads' HO567.out).2.2 | (with_reducible refine Kd.C_alloc ?_ _) | (with_reducible refine Kd.C_drewN ?_ _) | (with_reducible refine Kd.C_drew ?_))); (case side2 => exact (Kd.R_reads' HO567.out).2.1); rintro e w56 ⟨v569, rfl, ho0, hb⟩; refine ⟨_, rfl, ?_⟩; replace HO558 := Aside0.mk (Kd.R_below (zR HO558) hb); replace HO567 := Aside0.mk (Kd.R_below (zR HO567) hb); have HO570 := Aside0.mk (Kd.R_lower ho0 (below_size (zB HB))); replace HB := Aside0.mk (below_step (zB HB) hb); (try clear hb); (try clear ho0)))
               replace HO558 := Aside0.mk (Kd.R_drew HO558.out)
               replace HO567 := Aside0.mk (Kd.R_drew HO567.out)
               replace HO570 := Aside0.mk (Kd.R_drew HO570.out)
               replace HB := Aside0.mk (below_drew1 HB.out)
               obtain ⟨Ao58, co58, eo58⟩ := Kd.R_slice HO558.out
               (first | subst eo58 | (injection eo58 with f1_ f2_ f3_; have f4_ := f1_.symm; have f5_ := f3_.symm; clear f1_ f2_ f3_; subst f4_; subst f5_))
               have p585 : 0 ≤ (0 : Int) := (by omega)
               have q585 : 0 < (t568.length : Int) := za
               (try (obtain ⟨Ax_, cx_, ex_⟩ := Kd.R_slice HO570.out; subst ex_))
               obtain ⟨ad585, e585, hx585_0, hx585_1, hx585_2, hx585_3⟩ := at_T45 (Kd.R_reads' HO570.out).2.2 0 p585 q585
               cases e585
               have qi585 : (0 < t568.length) = True := eq_true (by omega)
               (try rw [show ((0 : Int)).toNat = 0 from rfl] at hx585_0)
               (try rw [show 0 * 4 = 0 from rfl] at hx585_0)
               (try rw [Addr.add_zero'] at hx585_0)
               (try rw [show ((0 : Int)).toNat = 0 from rfl] at hx585_1)
               (try rw [show 0 * 4 = 0 from rfl] at hx585_1)
               (try rw [Addr.add_zero'] at hx585_1)
               (try rw [show ((0 : Int)).toNat = 0 from rfl] at hx585_2)
               (try rw [show 0 * 4 = 0 from rfl] at hx585_2)
               (try rw [Addr.add_zero'] at hx585_2)
               (try rw [show ((0 : Int)).toNat = 0 from rfl] at hx585_3)
               (try rw [show 0 * 4 = 0 from rfl] at hx585_3)
               (try rw [Addr.add_zero'] at hx585_3)
               replace p585 := eq_true p585
               replace q585 := eq_true q585
               have p589 : 0 ≤ (1 : Int) := (by omega)
               have q589 : 1 < (t568.length : Int) := za
               obtain ⟨ad589, e589, hx589_0, hx589_1, hx589_2, hx589_3⟩ := at_T45 (Kd.R_reads' HO570.out).2.2 1 p589 q589
               obtain rfl : ad585 = ad589 := (by injection e589)
               (try simp only [show (1 : Int).toNat = 1 from rfl, Nat.reduceMul, Nat.reduceEqDiff, Go.Addr.add, ↓reduceIte] at hx589_0)
               (try simp only [show (1 : Int).toNat = 1 from rfl, Nat.reduceMul, Nat.reduceEqDiff, Go.Addr.add, ↓reduceIte] at hx589_1)
               (try simp only [show (1 : Int).toNat = 1 from rfl, Nat.reduceMul, Nat.reduceEqDiff, Go.Addr.add, ↓reduceIte] at hx589_2)
               (try simp only [show (1 : Int).toNat = 1 from rfl, Nat.reduceMul, Nat.reduceEqDiff, Go.Addr.add, ↓reduceIte] at hx589_3)
               have qi589 : (1 < t568.length) = True := eq_true (by omega)
               (try rw [show ((1 : Int)).toNat = 1 from rfl] at hx589_0)
               (try rw [show 1 * 4 = 4 from rfl] at hx589_0)
               (try rw [show ((1 : Int)).toNat = 1 from rfl] at hx589_1)
               (try rw [show 1 * 4 = 4 from rfl] at hx589_1)
               (try rw [show ((1 : Int)).toNat = 1 from rfl] at hx589_2)
               (try rw [show 1 * 4 = 4 from rfl] at hx589_2)
               (try rw [show ((1 : Int)).toNat = 1 from rfl] at hx589_3)
               (try rw [show 1 * 4 = 4 from rfl] at hx589_3)
               replace p589 := eq_true p589
               replace q589 := eq_true q589
               refine start_ (n := 39) (S := fun w' => w'.cell? ad585 = some (.bool ((rd_T45 t568 0).f0.f0)) ∧ w'.cell? ⟨ad585.block, ad585.off + 1, none⟩ = some (.int .u64 ((rd_T45 t568 0).f0.f1)) ∧ w'.cell? ⟨ad585.block, ad585.off + 2, none⟩ = some (.int .u64 ((rd_T45 t568 0).f0.f2)) ∧ w'.cell? ⟨ad585.block, ad585.off + 3, none⟩ = some (.int .i64 ((rd_T45 t568 0).f1)) ∧ w'.cell? ⟨ad585.block, ad585.off + 4, none⟩ = some (.bool ((rd_T45 t568 1).f0.f0)) ∧ w'.cell? ⟨ad585.block, ad585.off + 4 + 1, none⟩ = some (.int .u64 ((rd_T45 t568 1).f0.f1)) ∧ w'.cell? ⟨ad585.block, ad585.off + 4 + 2, none⟩ = some (.int .u64 ((rd_T45 t568 1).f0.f2)) ∧ w'.cell? ⟨ad585.block, ad585.off + 4 + 3, none⟩ = some (.int .i64 ((rd_T45 t568 1).f1))) (ds := []) #[false, false, false, false, false, false, false, false, false, false, false, false, false, false, false, false, false, false, false, false, false, false, false, false, false, false, false, false, false, false, false, false, false, false, false, false, false, false, false] (by kernel_rfl) rfl rfl ⟨hx585_0, hx585_1, hx585_2, hx585_3, hx589_0, hx589_1, hx589_2, hx589_3⟩ (fun hHeld => ?_); refine with_tabW intrusionlaw07_awake.tab3 intrusionlaw07_awake.bits3 (fun HT_ HW_ => ?_)
               generalize w56.drew = w57 at HO558 HO567 HO570 HB hx585_0 hx585_1 hx585_2 hx585_3 hx589_0 hx589_1 hx589_2 hx589_3 hHeld ⊢
               refine zp 0 15 HT_ ?_; refine zo 1 16 HT_ (fun K hK => ?_)
               refine zg Try.func38 #[.slice Ao58 y556.length co58] ?_
               with_reducible refine (addrset_Normal.calls k _ _ y556 t571 _ ?side1 ?side2 A8.out).mono ?_
               (case side1 => repeat (first | exact (Kd.R_reads' HO558.out).2.2 | (with_reducible refine Kd.C_alloc ?_ _) | (with_reducible refine Kd.C_drewN ?_ _) | (with_reducible refine Kd.C_drew ?_)))
               (case side2 => exact (Kd.R_reads' HO558.out).2.1)
               rintro e w59 ⟨v572, rfl, ho0, hb⟩
               have HS0_ := (hb.cell (World.block_lt_of_cell? _ _ (hHeld.1))).trans (hHeld.1)
               have HS1_ := (hb.cell (World.block_lt_of_cell? _ _ (hHeld.2.1))).trans (hHeld.2.1)
               have HS2_ := (hb.cell (World.block_lt_of_cell? _ _ (hHeld.2.2.1))).trans (hHeld.2.2.1)
               have HS3_ := (hb.cell (World.block_lt_of_cell? _ _ (hHeld.2.2.2.1))).trans (hHeld.2.2.2.1)
               have HS4_ := (hb.cell (World.block_lt_of_cell? _ _ (hHeld.2.2.2.2.1))).trans (hHeld.2.2.2.2.1)
               have HS5_ := (hb.cell (World.block_lt_of_cell? _ _ (hHeld.2.2.2.2.2.1))).trans (hHeld.2.2.2.2.2.1)
               have HS6_ := (hb.cell (World.block_lt_of_cell? _ _ (hHeld.2.2.2.2.2.2.1))).trans (hHeld.2.2.2.2.2.2.1)
               have HS7_ := (hb.cell (World.block_lt_of_cell? _ _ (hHeld.2.2.2.2.2.2.2))).trans (hHeld.2.2.2.2.2.2.2)
               refine ⟨_, rfl, ?_⟩
               replace HO570 := Aside0.mk (Kd.R_below (zR HO570) hb)
               have HO573 := Aside0.mk (Kd.R_lower (Kd.R_new' (Kd.R_new' ho0 (Kd.R_lt (zR HO558))) (Kd.R_lt (zR HO567))) (below_size (zB HB)))
               replace HO558 := Aside0.mk (Kd.R_elder' (zR HO558) (Kd.R_base ho0) hb)
               replace HO567 := Aside0.mk (Kd.R_elder' (zR HO567) (Kd.R_base ho0) hb)
               replace HB := Aside0.mk (below_step (zB HB) hb)
               (try clear hb)
               (try clear ho0)
               refine hK.out _ _ ⟨HS0_, HS1_, HS2_, HS3_, HS4_, HS5_, HS6_, HS7_⟩ (fun hHeld => ?_)
               clear hK K
               refine zn 16 ?_; refine zo 2 17 HT_ (fun K hK => ?_)
               refine zg Try.func70 #[.int .u64 1] ?_
               with_reducible refine (intrusionlaw07_ip.calls 1 t574 t575 t576 _ A9.out).mono ?_
               rintro e w60 ⟨rfl, hb⟩
               have HS0_ := (hb.cell (World.block_lt_of_cell? _ _ (hHeld.1))).trans (hHeld.1)
               have HS1_ := (hb.cell (World.block_lt_of_cell? _ _ (hHeld.2.1))).trans (hHeld.2.1)
               have HS2_ := (hb.cell (World.block_lt_of_cell? _ _ (hHeld.2.2.1))).trans (hHeld.2.2.1)
               have HS3_ := (hb.cell (World.block_lt_of_cell? _ _ (hHeld.2.2.2.1))).trans (hHeld.2.2.2.1)
               have HS4_ := (hb.cell (World.block_lt_of_cell? _ _ (hHeld.2.2.2.2.1))).trans (hHeld.2.2.2.2.1)
               have HS5_ := (hb.cell (World.block_lt_of_cell? _ _ (hHeld.2.2.2.2.2.1))).trans (hHeld.2.2.2.2.2.1)
               have HS6_ := (hb.cell (World.block_lt_of_cell? _ _ (hHeld.2.2.2.2.2.2.1))).trans (hHeld.2.2.2.2.2.2.1)
               have HS7_ := (hb.cell (World.block_lt_of_cell? _ _ (hHeld.2.2.2.2.2.2.2))).trans (hHeld.2.2.2.2.2.2.2)
               refine ⟨_, rfl, ?_⟩
               replace HO558 := Aside0.mk (Kd.R_below (zR HO558) hb)
               replace HO567 := Aside0.mk (Kd.R_below (zR HO567) hb)
               replace HO570 := Aside0.mk (Kd.R_below (zR HO570) hb)
               replace HO573 := Aside0.mk (Kd.R_below (zR HO573) hb)
               replace HB := Aside0.mk (below_step (zB HB) hb)
               (try clear hb)
               refine hK.out _ _ ⟨HS0_, HS1_, HS2_, HS3_, HS4_, HS5_, HS6_, HS7_⟩ (fun hHeld => ?_)
               clear hK K
               refine zn 17 ?_; refine zo 3 18 HT_ (fun K hK => ?_)
               refine zg Try.func70 #[.int .u64 3] ?_
               with_reducible refine (intrusionlaw07_ip.calls 3 t577 t578 t579 _ A10.out).mono ?_
               rintro e w61 ⟨rfl, hb⟩
               have HS0_ := (hb.cell (World.block_lt_of_cell? _ _ (hHeld.1))).trans (hHeld.1)
               have HS1_ := (hb.cell (World.block_lt_of_cell? _ _ (hHeld.2.1))).trans (hHeld.2.1)
               have HS2_ := (hb.cell (World.block_lt_of_cell? _ _ (hHeld.2.2.1))).trans (hHeld.2.2.1)
               have HS3_ := (hb.cell (World.block_lt_of_cell? _ _ (hHeld.2.2.2.1))).trans (hHeld.2.2.2.1)
               have HS4_ := (hb.cell (World.block_lt_of_cell? _ _ (hHeld.2.2.2.2.1))).trans (hHeld.2.2.2.2.1)
               have HS5_ := (hb.cell (World.block_lt_of_cell? _ _ (hHeld.2.2.2.2.2.1))).trans (hHeld.2.2.2.2.2.1)
               have HS6_ := (hb.cell (World.block_lt_of_cell? _ _ (hHeld.2.2.2.2.2.2.1))).trans (hHeld.2.2.2.2.2.2.1)
               have HS7_ := (hb.cell (World.block_lt_of_cell? _ _ (hHeld.2.2.2.2.2.2.2))).trans (hHeld.2.2.2.2.2.2.2)
               refine ⟨_, rfl, ?_⟩
               replace HO558 := Aside0.mk (Kd.R_below (zR HO558) hb)
               replace HO567 := Aside0.mk (Kd.R_below (zR HO567) hb)
               replace HO570 := Aside0.mk (Kd.R_below (zR HO570) hb)
               replace HO573 := Aside0.mk (Kd.R_below (zR HO573) hb)
               replace HB := Aside0.mk (below_step (zB HB) hb)
               (try clear hb)
               refine hK.out _ _ ⟨HS0_, HS1_, HS2_, HS3_, HS4_, HS5_, HS6_, HS7_⟩ (fun hHeld => ?_)
               clear hK K
               refine zn 18 ?_; refine zp 4 19 HT_ ?_; refine zo 5 20 HT_ (fun K hK => ?_)
               refine Kd.R_lit_step k66 _ 66 ?hg (N := 20) ?hd (xs := ([(⟨(⟨t574, t575, t576⟩ : S36), (⟨t577, t578, t579⟩ : S36)⟩ : S66)] : List (S66))) (inner := [.bool t574, .int .u64 t575, .int .u64 t576, .bool t577, .int .u64 t578, .int .u64 t579]) (ok := fun _ => True) (okp := fun _ => True) ?hr ?hp (fun _ hk => hk) trivial (Below.refl _ _) (Nat.le_refl _) (by simp) ?_; (case hd => rfl); (case hg => rfl); (case hr => first | (go_simp; done) | (go_simp; rfl)); (case hp => exact (Reps.c6 (show Kd.M k66 _ _ _ (⟨(⟨t574, t575, t576⟩ : S36), (⟨t577, t578, t579⟩ : S36)⟩ : S66) [.bool t574, .int .u64 t575, .int .u64 t576, .bool t577, .int .u64 t578, .int .u64 t579] from (k66_mkM _ _ _ (⟨(⟨t574, t575, t576⟩ : S36), (⟨t577, t578, t579⟩ : S36)⟩ : S66) )) (Reps.none _ _)))
               intro v581 w62 ho63 hb hg_ hnew_
               have HS0_ := (hb.cell (World.block_lt_of_cell? _ _ (hHeld.1))).trans (hHeld.1)
               have HS1_ := (hb.cell (World.block_lt_of_cell? _ _ (hHeld.2.1))).trans (hHeld.2.1)
               have HS2_ := (hb.cell (World.block_lt_of_cell? _ _ (hHeld.2.2.1))).trans (hHeld.2.2.1)
               have HS3_ := (hb.cell (World.block_lt_of_cell? _ _ (hHeld.2.2.2.1))).trans (hHeld.2.2.2.1)
               have HS4_ := (hb.cell (World.block_lt_of_cell? _ _ (hHeld.2.2.2.2.1))).trans (hHeld.2.2.2.2.1)
               have HS5_ := (hb.cell (World.block_lt_of_cell? _ _ (hHeld.2.2.2.2.2.1))).trans (hHeld.2.2.2.2.2.1)
               have HS6_ := (hb.cell (World.block_lt_of_cell? _ _ (hHeld.2.2.2.2.2.2.1))).trans (hHeld.2.2.2.2.2.2.1)
               have HS7_ := (hb.cell (World.block_lt_of_cell? _ _ (hHeld.2.2.2.2.2.2.2))).trans (hHeld.2.2.2.2.2.2.2)
               clear hg_ hnew_
               (first | rw [← Ny580.out] at ho63 | (simp only [Int.reduceToNat] at ho63; rw [← Ny580.out] at ho63))
               replace HO570 := Aside0.mk (Kd.R_below (zR HO570) hb)
               have HO582 := Aside0.mk (Kd.R_lower (Kd.R_new' (Kd.R_new' (Kd.R_new' ho63 (Kd.R_lt (zR HO558))) (Kd.R_lt (zR HO567))) (Kd.R_lt (zR HO573))) (below_size (zB HB)))
               replace HO558 := Aside0.mk (Kd.R_elder' (zR HO558) (Kd.R_base ho63) hb)
               replace HO567 := Aside0.mk (Kd.R_elder' (zR HO567) (Kd.R_base ho63) hb)
               replace HO573 := Aside0.mk (Kd.R_elder' (zR HO573) (Kd.R_base ho63) hb)
               replace HB := Aside0.mk (below_step (zB HB) hb)
               clear hb ho63
               obtain ⟨Ao64, co64, eo64⟩ := Kd.R_slice HO573.out
               (first | subst eo64 | (injection eo64 with f1_ f2_ f3_; have f4_ := f1_.symm; have f5_ := f3_.symm; clear f1_ f2_ f3_; subst f4_; subst f5_))
               obtain ⟨Ao65, co65, eo65⟩ := Kd.R_slice HO582.out
               (first | subst eo65 | (injection eo65 with f1_ f2_ f3_; have f4_ := f1_.symm; have f5_ := f3_.symm; clear f1_ f2_ f3_; subst f4_; subst f5_))
               refine hK.out _ _ ⟨HS0_, HS1_, HS2_, HS3_, HS4_, HS5_, HS6_, HS7_⟩ (fun hHeld => ?_)
               clear hK K
               refine zn 20 ?_; refine zo 6 21 HT_ (fun K hK => ?_)
               refine zg Try.func37 #[.slice Ao64 t571.length co64, .slice Ao65 y580.length co65] ?_
               with_reducible refine (intrusionref07_Same.calls k _ _ t571 _ _ y580 true _ ?side1 ?side2 ?side3 ?side4 A11.out).mono ?_
               (case side1 => repeat (first | exact (Kd.R_reads' HO573.out).2.2 | (with_reducible refine Kd.C_alloc ?_ _) | (with_reducible refine Kd.C_drewN ?_ _) | (with_reducible refine Kd.C_drew ?_)))
               (case side2 => exact (Kd.R_reads' HO573.out).2.1)
               (case side3 => repeat (first | exact (Kd.R_reads' HO582.out).2.2 | (with_reducible refine Kd.C_alloc ?_ _) | (with_reducible refine Kd.C_drewN ?_ _) | (with_reducible refine Kd.C_drew ?_)))
               (case side4 => exact (Kd.R_reads' HO582.out).2.1)
               rintro e w' ⟨rfl, ⟨nd, rfl⟩⟩
               refine ⟨_, rfl, ?_⟩
               refine hK.out _ _ ⟨hHeld.1, hHeld.2.1, hHeld.2.2.1, hHeld.2.2.2.1, hHeld.2.2.2.2.1, hHeld.2.2.2.2.2.1, hHeld.2.2.2.2.2.2.1, hHeld.2.2.2.2.2.2.2⟩ (fun hHeld => ?_)
               clear hK K
               refine zn 21 ?_; refine zp 7 22 HT_ ?_; refine zp 8 23 HT_ ?_; refine zo 9 24 HT_ (fun K hK => ?_)
               refine zg Try.func40 #[.slice Ao58 y556.length co58] ?_
               with_reducible refine (addrset_Valid.calls k _ _ y556 false _ ?side1 ?side2 A13.out).mono ?_
               (case side1 => repeat (first | exact (Kd.R_reads' HO558.out).2.2 | (with_reducible refine Kd.C_alloc ?_ _) | (with_reducible refine Kd.C_drewN ?_ _) | (with_reducible refine Kd.C_drew ?_)))
               (case side2 => exact (Kd.R_reads' HO558.out).2.1)
               rintro e w66 ⟨rfl, hb⟩
               have HS0_ := (hb.cell (World.block_lt_of_cell? _ _ (hHeld.1))).trans (hHeld.1)
               have HS1_ := (hb.cell (World.block_lt_of_cell? _ _ (hHeld.2.1))).trans (hHeld.2.1)
               have HS2_ := (hb.cell (World.block_lt_of_cell? _ _ (hHeld.2.2.1))).trans (hHeld.2.2.1)
               have HS3_ := (hb.cell (World.block_lt_of_cell? _ _ (hHeld.2.2.2.1))).trans (hHeld.2.2.2.1)
               have HS4_ := (hb.cell (World.block_lt_of_cell? _ _ (hHeld.2.2.2.2.1))).trans (hHeld.2.2.2.2.1)
               have HS5_ := (hb.cell (World.block_lt_of_cell? _ _ (hHeld.2.2.2.2.2.1))).trans (hHeld.2.2.2.2.2.1)
               have HS6_ := (hb.cell (World.block_lt_of_cell? _ _ (hHeld.2.2.2.2.2.2.1))).trans (hHeld.2.2.2.2.2.2.1)
               have HS7_ := (hb.cell (World.block_lt_of_cell? _ _ (hHeld.2.2.2.2.2.2.2))).trans (hHeld.2.2.2.2.2.2.2)
               refine ⟨_, rfl, ?_⟩
               replace HO558 := Aside0.mk (Kd.R_below (zR HO558) hb)
               replace HO567 := Aside0.mk (Kd.R_below (zR HO567) hb)
               replace HO570 := Aside0.mk (Kd.R_below (zR HO570) hb)
               replace HO573 := Aside0.mk (Kd.R_below (zR HO573) hb)
               replace HO582 := Aside0.mk (Kd.R_below (zR HO582) hb)
               replace HB := Aside0.mk (below_step (zB HB) hb)
               (try clear hb)
               obtain ⟨Ao67, co67, eo67⟩ := Kd.R_slice HO570.out
               (first | subst eo67 | (injection eo67 with f1_ f2_ f3_; have f4_ := f1_.symm; have f5_ := f3_.symm; clear f1_ f2_ f3_; subst f4_; subst f5_))
               refine hK.out _ _ ⟨HS0_, HS1_, HS2_, HS3_, HS4_, HS5_, HS6_, HS7_⟩ (fun hHeld => ?_)
               clear hK K
               refine zn 24 ?_; refine zp 10 25 HT_ ?_; refine zp 11 26 HT_ ?_; refine zp 12 27 HT_ ?_; refine zp 13 28 HT_ ?_; refine zp 14 29 HT_ ?_; refine zp 15 30 HT_ ?_; refine zp 16 31 HT_ ?_; refine zp 17 32 HT_ ?_; refine zp 18 33 HT_ ?_; refine zp 19 34 HT_ ?_; refine zt 20 35 HT_ HW_ hHeld ?_; refine zo 21 36 HT_ (fun K hK => ?_)
               refine zg Try.func70 #[.int .u64 1] ?_
               with_reducible refine (intrusionlaw07_ip.calls 1 t586 t587 t588 _ A39.out).mono ?_
               rintro e w68 ⟨rfl, hb⟩
               have HS0_ := (hb.cell (World.block_lt_of_cell? _ _ (hHeld.1))).trans (hHeld.1)
               have HS1_ := (hb.cell (World.block_lt_of_cell? _ _ (hHeld.2.1))).trans (hHeld.2.1)
               have HS2_ := (hb.cell (World.block_lt_of_cell? _ _ (hHeld.2.2.1))).trans (hHeld.2.2.1)
               have HS3_ := (hb.cell (World.block_lt_of_cell? _ _ (hHeld.2.2.2.1))).trans (hHeld.2.2.2.1)
               have HS4_ := (hb.cell (World.block_lt_of_cell? _ _ (hHeld.2.2.2.2.1))).trans (hHeld.2.2.2.2.1)
               have HS5_ := (hb.cell (World.block_lt_of_cell? _ _ (hHeld.2.2.2.2.2.1))).trans (hHeld.2.2.2.2.2.1)
               have HS6_ := (hb.cell (World.block_lt_of_cell? _ _ (hHeld.2.2.2.2.2.2.1))).trans (hHeld.2.2.2.2.2.2.1)
               have HS7_ := (hb.cell (World.block_lt_of_cell? _ _ (hHeld.2.2.2.2.2.2.2))).trans (hHeld.2.2.2.2.2.2.2)
               refine ⟨_, rfl, ?_⟩
               replace HO558 := Aside0.mk (Kd.R_below (zR HO558) hb)
               replace HO567 := Aside0.mk (Kd.R_below (zR HO567) hb)
               replace HO570 := Aside0.mk (Kd.R_below (zR HO570) hb)
               replace HO573 := Aside0.mk (Kd.R_below (zR HO573) hb)
               replace HO582 := Aside0.mk (Kd.R_below (zR HO582) hb)
               replace HB := Aside0.mk (below_step (zB HB) hb)
               (try clear hb)
               refine hK.out _ _ ⟨HS0_, HS1_, HS2_, HS3_, HS4_, HS5_, HS6_, HS7_⟩ (fun hHeld => ?_)
               clear hK K
               refine zn 36 ?_; refine zp 22 37 HT_ ?_; refine zp 23 38 HT_ ?_; refine zp 24 39 HT_ ?_; refine zp 25 40 HT_ ?_; refine zp 26 41 HT_ ?_; refine zp 27 42 HT_ ?_; refine zt 28 43 HT_ HW_ hHeld ?_; refine zo 29 44 HT_ (fun K hK => ?_)
               refine zg Try.func70 #[.int .u64 2] ?_
               with_reducible refine (intrusionlaw07_ip.calls 2 t590 t591 t592 _ A42.out).mono ?_
               rintro e w69 ⟨rfl, hb⟩
               have HS0_ := (hb.cell (World.block_lt_of_cell? _ _ (hHeld.1))).trans (hHeld.1)
               have HS1_ := (hb.cell (World.block_lt_of_cell? _ _ (hHeld.2.1))).trans (hHeld.2.1)
               have HS2_ := (hb.cell (World.block_lt_of_cell? _ _ (hHeld.2.2.1))).trans (hHeld.2.2.1)
               have HS3_ := (hb.cell (World.block_lt_of_cell? _ _ (hHeld.2.2.2.1))).trans (hHeld.2.2.2.1)
               have HS4_ := (hb.cell (World.block_lt_of_cell? _ _ (hHeld.2.2.2.2.1))).trans (hHeld.2.2.2.2.1)
               have HS5_ := (hb.cell (World.block_lt_of_cell? _ _ (hHeld.2.2.2.2.2.1))).trans (hHeld.2.2.2.2.2.1)
               have HS6_ := (hb.cell (World.block_lt_of_cell? _ _ (hHeld.2.2.2.2.2.2.1))).trans (hHeld.2.2.2.2.2.2.1)
               have HS7_ := (hb.cell (World.block_lt_of_cell? _ _ (hHeld.2.2.2.2.2.2.2))).trans (hHeld.2.2.2.2.2.2.2)
               refine ⟨_, rfl, ?_⟩
               replace HO558 := Aside0.mk (Kd.R_below (zR HO558) hb)
               replace HO567 := Aside0.mk (Kd.R_below (zR HO567) hb)
               replace HO570 := Aside0.mk (Kd.R_below (zR HO570) hb)
               replace HO573 := Aside0.mk (Kd.R_below (zR HO573) hb)
               replace HO582 := Aside0.mk (Kd.R_below (zR HO582) hb)
               replace HB := Aside0.mk (below_step (zB HB) hb)
               (try clear hb)
               refine hK.out _ _ ⟨HS0_, HS1_, HS2_, HS3_, HS4_, HS5_, HS6_, HS7_⟩ (fun hHeld => ?_)
               clear hK K
               refine zn 44 ?_; refine zp 30 45 HT_ ?_; refine zp 31 46 HT_ ?_; refine zp 32 47 HT_ ?_; refine zp 33 48 HT_ ?_; refine zo 34 49 HT_ (fun K hK => ?_)
               refine zg Try.func44 #[] ?_
               with_reducible refine (addrset_All.calls  t593 _ A44.out).mono ?_
               rintro e w70 ⟨v594, rfl, ho0, hb⟩
               have HS0_ := (hb.cell (World.block_lt_of_cell? _ _ (hHeld.1))).trans (hHeld.1)
               have HS1_ := (hb.cell (World.block_lt_of_cell? _ _ (hHeld.2.1))).trans (hHeld.2.1)
               have HS2_ := (hb.cell (World.block_lt_of_cell? _ _ (hHeld.2.2.1))).trans (hHeld.2.2.1)
               have HS3_ := (hb.cell (World.block_lt_of_cell? _ _ (hHeld.2.2.2.1))).trans (hHeld.2.2.2.1)
               have HS4_ := (hb.cell (World.block_lt_of_cell? _ _ (hHeld.2.2.2.2.1))).trans (hHeld.2.2.2.2.1)
               have HS5_ := (hb.cell (World.block_lt_of_cell? _ _ (hHeld.2.2.2.2.2.1))).trans (hHeld.2.2.2.2.2.1)
               have HS6_ := (hb.cell (World.block_lt_of_cell? _ _ (hHeld.2.2.2.2.2.2.1))).trans (hHeld.2.2.2.2.2.2.1)
               have HS7_ := (hb.cell (World.block_lt_of_cell? _ _ (hHeld.2.2.2.2.2.2.2))).trans (hHeld.2.2.2.2.2.2.2)
               refine ⟨_, rfl, ?_⟩
               replace HO570 := Aside0.mk (Kd.R_below (zR HO570) hb)
               have HO595 := Aside0.mk (Kd.R_lower (Kd.R_new' (Kd.R_new' (Kd.R_new' (Kd.R_new' ho0 (Kd.R_lt (zR HO558))) (Kd.R_lt (zR HO567))) (Kd.R_lt (zR HO573))) (Kd.R_lt (zR HO582))) (below_size (zB HB)))
               replace HO558 := Aside0.mk (Kd.R_elder' (zR HO558) (Kd.R_base ho0) hb)
               replace HO567 := Aside0.mk (Kd.R_elder' (zR HO567) (Kd.R_base ho0) hb)
               replace HO573 := Aside0.mk (Kd.R_elder' (zR HO573) (Kd.R_base ho0) hb)
               replace HO582 := Aside0.mk (Kd.R_elder' (zR HO582) (Kd.R_base ho0) hb)
               replace HB := Aside0.mk (below_step (zB HB) hb)
               (try clear hb)
               (try clear ho0)
               obtain ⟨Ao71, co71, eo71⟩ := Kd.R_slice HO595.out
               (first | subst eo71 | (injection eo71 with f1_ f2_ f3_; have f4_ := f1_.symm; have f5_ := f3_.symm; clear f1_ f2_ f3_; subst f4_; subst f5_))
               refine hK.out _ _ ⟨HS0_, HS1_, HS2_, HS3_, HS4_, HS5_, HS6_, HS7_⟩ (fun hHeld => ?_)
               clear hK K
               refine zn 49 ?_; refine zp 35 50 HT_ ?_; refine zp 36 51 HT_ ?_; refine zp 37 52 HT_ ?_; refine zp 38 0 HT_ ?_; refine zd HT_ ?_
               try go_wp2
               go_ret
               exact ⟨by first | rfl | (simp [errW_none, errW_some] <;> rfl) | (simp [*, errW_none, errW_some] <;> rfl), by repeat (first | (with_reducible first | exact HB.out | apply below_alloc | apply pw_below_drewN | apply below_drew1) | exact HB.out)⟩
             · rw [if_neg c43] at H
               have c43b0 : ((((rd_T45 t568 1).f0.f0) == t590 && (((rd_T45 t568 1).f0.f1) == t591 && (((rd_T45 t568 1).f0.f2) == t592))) && (((rd_T45 t568 1).f1) == 31)) = false := by simpa using c43
               clear c43
               obtain rfl := Option.some.inj H
               go_enter Try.func36, Try.ntmps36
               try go_wp2_with (first | ((with_reducible refine gate_callee (f := 70) rfl ?_); refine goesL_ (some 3) rfl rfl Try.func70 (by kernel_rfl) rfl #[.int .u64 2] rfl (by (try simp only [List.map_toArray, List.map_cons, List.map_nil]); first | done | rfl | (simp only [List.length_drop, List.length_take]; rfl)) ?_; (with_reducible refine (intrusionlaw07_ip.calls 2 t544 t545 t546 _ A1.out).mono ?_); rintro e w72 ⟨rfl, hb⟩; refine ⟨_, rfl, ?_⟩; replace HB := Aside0.mk (below_step (zB HB) hb); (try clear hb)) | ((with_reducible refine gate_callee (f := 70) rfl ?_); refine goesL_ (some 4) rfl rfl Try.func70 (by kernel_rfl) rfl #[.int .u64 3] rfl (by (try simp only [List.map_toArray, List.map_cons, List.map_nil]); first | done | rfl | (simp only [List.length_drop, List.length_take]; rfl)) ?_; (with_reducible refine (intrusionlaw07_ip.calls 3 t547 t548 t549 _ A2.out).mono ?_); rintro e w73 ⟨rfl, hb⟩; refine ⟨_, rfl, ?_⟩; replace HB := Aside0.mk (below_step (zB HB) hb); (try clear hb)) | ((with_reducible refine gate_callee (f := 70) rfl ?_); refine goesL_ (some 6) rfl rfl Try.func70 (by kernel_rfl) rfl #[.int .u64 1] rfl (by (try simp only [List.map_toArray, List.map_cons, List.map_nil]); first | done | rfl | (simp only [List.length_drop, List.length_take]; rfl)) ?_; (with_reducible refine (intrusionlaw07_ip.calls 1 t550 t551 t552 _ A3.out).mono ?_); rintro e w74 ⟨rfl, hb⟩; refine ⟨_, rfl, ?_⟩; replace HB := Aside0.mk (below_step (zB HB) hb); (try clear hb)) | ((with_reducible refine gate_callee (f := 70) rfl ?_); refine goesL_ (some 7) rfl rfl Try.func70 (by kernel_rfl) rfl #[.int .u64 1] rfl (by (try simp only [List.map_toArray, List.map_cons, List.map_nil]); first | done | rfl | (simp only [List.length_drop, List.length_take]; rfl)) ?_; (with_reducible refine (intrusionlaw07_ip.calls 1 t553 t554 t555 _ A4.out).mono ?_); rintro e w75 ⟨rfl, hb⟩; refine ⟨_, rfl, ?_⟩; replace HB := Aside0.mk (below_step (zB HB) hb); (try clear hb)) | ((with_reducible refine gate_dst (N := 9) rfl ?_); (try (refine gate_guard (by rfl) ?_; dsimp only)); refine Kd.R_lit k66 _ 66 ?hg (N := 9) ?hd (xs := ([(⟨(⟨t544, t545, t546⟩ : S36), (⟨t547, t548, t549⟩ : S36)⟩ : S66), (⟨(⟨t550, t551, t552⟩ : S36), (⟨t553, t554, t555⟩ : S36)⟩ : S66)] : List (S66))) (inner := [.bool t544, .int .u64 t545, .int .u64 t546, .bool t547, .int .u64 t548, .int .u64 t549, .bool t550, .int .u64 t551, .int .u64 t552, .bool t553, .int .u64 t554, .int .u64 t555]) (ok := fun _ => True) (okp := fun _ => True) ?hr ?hp (fun _ hk => hk) trivial (Below.refl _ _) (Nat.le_refl _) (by simp) ?_; (case hd => rfl); (case hg => rfl); (case hr => first | (go_simp; done) | (go_simp; rfl)); (case hp => exact (Reps.c6 (show Kd.M k66 _ _ _ (⟨(⟨t544, t545, t546⟩ : S36), (⟨t547, t548, t549⟩ : S36)⟩ : S66) [.bool t544, .int .u64 t545, .int .u64 t546, .bool t547, .int .u64 t548, .int .u64 t549] from (k66_mkM _ _ _ (⟨(⟨t544, t545, t546⟩ : S36), (⟨t547, t548, t549⟩ : S36)⟩ : S66) )) (Reps.c6 (show Kd.M k66 _ _ _ (⟨(⟨t550, t551, t552⟩ : S36), (⟨t553, t554, t555⟩ : S36)⟩ : S66) [.bool t550, .int .u64 t551, .int .u64 t552, .bool t553, .int .u64 t554, .int .u64 t555] from (k66_mkM _ _ _ (⟨(⟨t550, t551, t552⟩ : S36), (⟨t553, t554, t555⟩ : S36)⟩ : S66) )) (Reps.none _ _)))); intro v557 w76 ho77 hb hg_ hnew_; clear hg_ hnew_; (first | rw [← Ny556.out] at ho77 | (simp only [Int.reduceToNat] at ho77; rw [← Ny556.out] at ho77)); have HO558 := Aside0.mk (Kd.R_lower ho77 (below_size (zB HB))); replace HB := Aside0.mk (below_step (zB HB) hb); clear hb ho77) | ((with_reducible refine gate_callee (f := 70) rfl ?_); refine goesL_ (some 10) rfl rfl Try.func70 (by kernel_rfl) rfl #[.int .u64 1] rfl (by (try simp only [List.map_toArray, List.map_cons, List.map_nil]); first | done | rfl | (simp only [List.length_drop, List.length_take]; rfl)) ?_; (with_reducible refine (intrusionlaw07_ip.calls 1 t559 t560 t561 _ A5.out).mono ?_); rintro e w78 ⟨rfl, hb⟩; refine ⟨_, rfl, ?_⟩; replace HO558 := Aside0.mk (Kd.R_below (zR HO558) hb); replace HB := Aside0.mk (below_step (zB HB) hb); (try clear hb)) | ((with_reducible refine gate_callee (f := 70) rfl ?_); refine goesL_ (some 11) rfl rfl Try.func70 (by kernel_rfl) rfl #[.int .u64 4] rfl (by (try simp only [List.map_toArray, List.map_cons, List.map_nil]); first | done | rfl | (simp only [List.length_drop, List.length_take]; rfl)) ?_; (with_reducible refine (intrusionlaw07_ip.calls 4 t562 t563 t564 _ A6.out).mono ?_); rintro e w79 ⟨rfl, hb⟩; refine ⟨_, rfl, ?_⟩; replace HO558 := Aside0.mk (Kd.R_below (zR HO558) hb); replace HB := Aside0.mk (below_step (zB HB) hb); (try clear hb)) | ((with_reducible refine gate_dst (N := 13) rfl ?_); (try (refine gate_guard (by rfl) ?_; dsimp only)); refine Kd.R_lit k66 _ 66 ?hg (N := 13) ?hd (xs := ([(⟨(⟨t559, t560, t561⟩ : S36), (⟨t562, t563, t564⟩ : S36)⟩ : S66)] : List (S66))) (inner := [.bool t559, .int .u64 t560, .int .u64 t561, .bool t562, .int .u64 t563, .int .u64 t564]) (ok := fun _ => True) (okp := fun _ => True) ?hr ?hp (fun _ hk => hk) trivial (Below.refl _ _) (Nat.le_refl _) (by simp) ?_; (case hd => rfl); (case hg => rfl); (case hr => first | (go_simp; done) | (go_simp; rfl)); (case hp => exact (Reps.c6 (show Kd.M k66 _ _ _ (⟨(⟨t559, t560, t561⟩ : S36), (⟨t562, t563, t564⟩ : S36)⟩ : S66) [.bool t559, .int .u64 t560, .int .u64 t561, .bool t562, .int .u64 t563, .int .u64 t564] from (k66_mkM _ _ _ (⟨(⟨t559, t560, t561⟩ : S36), (⟨t562, t563, t564⟩ : S36)⟩ : S66) )) (Reps.none _ _))); intro v566 w80 ho81 hb hg_ hnew_; clear hg_ hnew_; (first | rw [← Ny565.out] at ho81 | (simp only [Int.reduceToNat] at ho81; rw [← Ny565.out] at ho81)); have HO567 := Aside0.mk (Kd.R_lower (Kd.R_new' ho81 (Kd.R_lt (zR HO558))) (below_size (zB HB))); replace HO558 := Aside0.mk (Kd.R_elder' (zR HO558) (Kd.R_base ho81) hb); replace HB := Aside0.mk (below_step (zB HB) hb); clear hb ho81; obtain ⟨Ao82, co82, eo82⟩ := Kd.R_slice HO567.out; subst eo82) | ((with_reducible refine gate_callee (f := 46) rfl ?_); refine goesL_ (some 14) rfl rfl Try.func46 (by kernel_rfl) rfl #[.slice Ao82 y565.length co82] rfl (by (try simp only [List.map_toArray, List.map_cons, List.map_nil]); first | done | rfl | (simp only [List.length_drop, List.length_take]; rfl)) ?_; (with_reducible refine (addrset_Prefixes.calls k _ _ y565 t568 _ ?side1 ?side2 A7.out).mono ?_); (case side1 => repeat (first | exact (Kd.R_reads' HO567.out).2.2 | (with_reducible refine Kd.C_alloc ?_ _) | (with_reducible refine Kd.C_drewN ?_ _) | (with_reducible refine Kd.C_drew ?_))); (case side2 => exact (Kd.R_reads' HO567.out).2.1); rintro e w83 ⟨v569, rfl, ho0, hb⟩; refine ⟨_, rfl, ?_⟩; replace HO558 := Aside0.mk (Kd.R_below (zR HO558) hb); replace HO567 := Aside0.mk (Kd.R_below (zR HO567) hb); have HO570 := Aside0.mk (Kd.R_lower ho0 (below_size (zB HB))); replace HB := Aside0.mk (below_step (zB HB) hb); (try clear hb); (try clear ho0)))
               replace HO558 := Aside0.mk (Kd.R_drew HO558.out)
               replace HO567 := Aside0.mk (Kd.R_drew HO567.out)
               replace HO570 := Aside0.mk (Kd.R_drew HO570.out)
               replace HB := Aside0.mk (below_drew1 HB.out)
               obtain ⟨Ao85, co85, eo85⟩ := Kd.R_slice HO558.out
               (first | subst eo85 | (injection eo85 with f1_ f2_ f3_; have f4_ := f1_.symm; have f5_ := f3_.symm; clear f1_ f2_ f3_; subst f4_; subst f5_))
               have p585 : 0 ≤ (0 : Int) := (by omega)
               have q585 : 0 < (t568.length : Int) := za
               (try (obtain ⟨Ax_, cx_, ex_⟩ := Kd.R_slice HO570.out; subst ex_))
               obtain ⟨ad585, e585, hx585_0, hx585_1, hx585_2, hx585_3⟩ := at_T45 (Kd.R_reads' HO570.out).2.2 0 p585 q585
               cases e585
               have qi585 : (0 < t568.length) = True := eq_true (by omega)
               (try rw [show ((0 : Int)).toNat = 0 from rfl] at hx585_0)
               (try rw [show 0 * 4 = 0 from rfl] at hx585_0)
               (try rw [Addr.add_zero'] at hx585_0)
               (try rw [show ((0 : Int)).toNat = 0 from rfl] at hx585_1)
               (try rw [show 0 * 4 = 0 from rfl] at hx585_1)
               (try rw [Addr.add_zero'] at hx585_1)
               (try rw [show ((0 : Int)).toNat = 0 from rfl] at hx585_2)
               (try rw [show 0 * 4 = 0 from rfl] at hx585_2)
               (try rw [Addr.add_zero'] at hx585_2)
               (try rw [show ((0 : Int)).toNat = 0 from rfl] at hx585_3)
               (try rw [show 0 * 4 = 0 from rfl] at hx585_3)
               (try rw [Addr.add_zero'] at hx585_3)
               replace p585 := eq_true p585
               replace q585 := eq_true q585
               have p589 : 0 ≤ (1 : Int) := (by omega)
               have q589 : 1 < (t568.length : Int) := za
               obtain ⟨ad589, e589, hx589_0, hx589_1, hx589_2, hx589_3⟩ := at_T45 (Kd.R_reads' HO570.out).2.2 1 p589 q589
               obtain rfl : ad585 = ad589 := (by injection e589)
               (try simp only [show (1 : Int).toNat = 1 from rfl, Nat.reduceMul, Nat.reduceEqDiff, Go.Addr.add, ↓reduceIte] at hx589_0)
               (try simp only [show (1 : Int).toNat = 1 from rfl, Nat.reduceMul, Nat.reduceEqDiff, Go.Addr.add, ↓reduceIte] at hx589_1)
               (try simp only [show (1 : Int).toNat = 1 from rfl, Nat.reduceMul, Nat.reduceEqDiff, Go.Addr.add, ↓reduceIte] at hx589_2)
               (try simp only [show (1 : Int).toNat = 1 from rfl, Nat.reduceMul, Nat.reduceEqDiff, Go.Addr.add, ↓reduceIte] at hx589_3)
               have qi589 : (1 < t568.length) = True := eq_true (by omega)
               (try rw [show ((1 : Int)).toNat = 1 from rfl] at hx589_0)
               (try rw [show 1 * 4 = 4 from rfl] at hx589_0)
               (try rw [show ((1 : Int)).toNat = 1 from rfl] at hx589_1)
               (try rw [show 1 * 4 = 4 from rfl] at hx589_1)
               (try rw [show ((1 : Int)).toNat = 1 from rfl] at hx589_2)
               (try rw [show 1 * 4 = 4 from rfl] at hx589_2)
               (try rw [show ((1 : Int)).toNat = 1 from rfl] at hx589_3)
               (try rw [show 1 * 4 = 4 from rfl] at hx589_3)
               replace p589 := eq_true p589
               replace q589 := eq_true q589
               refine start_ (n := 39) (S := fun w' => w'.cell? ad585 = some (.bool ((rd_T45 t568 0).f0.f0)) ∧ w'.cell? ⟨ad585.block, ad585.off + 1, none⟩ = some (.int .u64 ((rd_T45 t568 0).f0.f1)) ∧ w'.cell? ⟨ad585.block, ad585.off + 2, none⟩ = some (.int .u64 ((rd_T45 t568 0).f0.f2)) ∧ w'.cell? ⟨ad585.block, ad585.off + 3, none⟩ = some (.int .i64 ((rd_T45 t568 0).f1)) ∧ w'.cell? ⟨ad585.block, ad585.off + 4, none⟩ = some (.bool ((rd_T45 t568 1).f0.f0)) ∧ w'.cell? ⟨ad585.block, ad585.off + 4 + 1, none⟩ = some (.int .u64 ((rd_T45 t568 1).f0.f1)) ∧ w'.cell? ⟨ad585.block, ad585.off + 4 + 2, none⟩ = some (.int .u64 ((rd_T45 t568 1).f0.f2)) ∧ w'.cell? ⟨ad585.block, ad585.off + 4 + 3, none⟩ = some (.int .i64 ((rd_T45 t568 1).f1))) (ds := []) #[false, false, false, false, false, false, false, false, false, false, false, false, false, false, false, false, false, false, false, false, false, false, false, false, false, false, false, false, false, false, false, false, false, false, false, false, false, false, false] (by kernel_rfl) rfl rfl ⟨hx585_0, hx585_1, hx585_2, hx585_3, hx589_0, hx589_1, hx589_2, hx589_3⟩ (fun hHeld => ?_); refine with_tabW intrusionlaw07_awake.tab3 intrusionlaw07_awake.bits3 (fun HT_ HW_ => ?_)
               generalize w83.drew = w84 at HO558 HO567 HO570 HB hx585_0 hx585_1 hx585_2 hx585_3 hx589_0 hx589_1 hx589_2 hx589_3 hHeld ⊢
               refine zp 0 15 HT_ ?_; refine zo 1 16 HT_ (fun K hK => ?_)
               refine zg Try.func38 #[.slice Ao85 y556.length co85] ?_
               with_reducible refine (addrset_Normal.calls k _ _ y556 t571 _ ?side1 ?side2 A8.out).mono ?_
               (case side1 => repeat (first | exact (Kd.R_reads' HO558.out).2.2 | (with_reducible refine Kd.C_alloc ?_ _) | (with_reducible refine Kd.C_drewN ?_ _) | (with_reducible refine Kd.C_drew ?_)))
               (case side2 => exact (Kd.R_reads' HO558.out).2.1)
               rintro e w86 ⟨v572, rfl, ho0, hb⟩
               have HS0_ := (hb.cell (World.block_lt_of_cell? _ _ (hHeld.1))).trans (hHeld.1)
               have HS1_ := (hb.cell (World.block_lt_of_cell? _ _ (hHeld.2.1))).trans (hHeld.2.1)
               have HS2_ := (hb.cell (World.block_lt_of_cell? _ _ (hHeld.2.2.1))).trans (hHeld.2.2.1)
               have HS3_ := (hb.cell (World.block_lt_of_cell? _ _ (hHeld.2.2.2.1))).trans (hHeld.2.2.2.1)
               have HS4_ := (hb.cell (World.block_lt_of_cell? _ _ (hHeld.2.2.2.2.1))).trans (hHeld.2.2.2.2.1)
               have HS5_ := (hb.cell (World.block_lt_of_cell? _ _ (hHeld.2.2.2.2.2.1))).trans (hHeld.2.2.2.2.2.1)
               have HS6_ := (hb.cell (World.block_lt_of_cell? _ _ (hHeld.2.2.2.2.2.2.1))).trans (hHeld.2.2.2.2.2.2.1)
               have HS7_ := (hb.cell (World.block_lt_of_cell? _ _ (hHeld.2.2.2.2.2.2.2))).trans (hHeld.2.2.2.2.2.2.2)
               refine ⟨_, rfl, ?_⟩
               replace HO570 := Aside0.mk (Kd.R_below (zR HO570) hb)
               have HO573 := Aside0.mk (Kd.R_lower (Kd.R_new' (Kd.R_new' ho0 (Kd.R_lt (zR HO558))) (Kd.R_lt (zR HO567))) (below_size (zB HB)))
               replace HO558 := Aside0.mk (Kd.R_elder' (zR HO558) (Kd.R_base ho0) hb)
               replace HO567 := Aside0.mk (Kd.R_elder' (zR HO567) (Kd.R_base ho0) hb)
               replace HB := Aside0.mk (below_step (zB HB) hb)
               (try clear hb)
               (try clear ho0)
               refine hK.out _ _ ⟨HS0_, HS1_, HS2_, HS3_, HS4_, HS5_, HS6_, HS7_⟩ (fun hHeld => ?_)
               clear hK K
               refine zn 16 ?_; refine zo 2 17 HT_ (fun K hK => ?_)
               refine zg Try.func70 #[.int .u64 1] ?_
               with_reducible refine (intrusionlaw07_ip.calls 1 t574 t575 t576 _ A9.out).mono ?_
               rintro e w87 ⟨rfl, hb⟩
               have HS0_ := (hb.cell (World.block_lt_of_cell? _ _ (hHeld.1))).trans (hHeld.1)
               have HS1_ := (hb.cell (World.block_lt_of_cell? _ _ (hHeld.2.1))).trans (hHeld.2.1)
               have HS2_ := (hb.cell (World.block_lt_of_cell? _ _ (hHeld.2.2.1))).trans (hHeld.2.2.1)
               have HS3_ := (hb.cell (World.block_lt_of_cell? _ _ (hHeld.2.2.2.1))).trans (hHeld.2.2.2.1)
               have HS4_ := (hb.cell (World.block_lt_of_cell? _ _ (hHeld.2.2.2.2.1))).trans (hHeld.2.2.2.2.1)
               have HS5_ := (hb.cell (World.block_lt_of_cell? _ _ (hHeld.2.2.2.2.2.1))).trans (hHeld.2.2.2.2.2.1)
               have HS6_ := (hb.cell (World.block_lt_of_cell? _ _ (hHeld.2.2.2.2.2.2.1))).trans (hHeld.2.2.2.2.2.2.1)
               have HS7_ := (hb.cell (World.block_lt_of_cell? _ _ (hHeld.2.2.2.2.2.2.2))).trans (hHeld.2.2.2.2.2.2.2)
               refine ⟨_, rfl, ?_⟩
               replace HO558 := Aside0.mk (Kd.R_below (zR HO558) hb)
               replace HO567 := Aside0.mk (Kd.R_below (zR HO567) hb)
               replace HO570 := Aside0.mk (Kd.R_below (zR HO570) hb)
               replace HO573 := Aside0.mk (Kd.R_below (zR HO573) hb)
               replace HB := Aside0.mk (below_step (zB HB) hb)
               (try clear hb)
               refine hK.out _ _ ⟨HS0_, HS1_, HS2_, HS3_, HS4_, HS5_, HS6_, HS7_⟩ (fun hHeld => ?_)
               clear hK K
               refine zn 17 ?_; refine zo 3 18 HT_ (fun K hK => ?_)
               refine zg Try.func70 #[.int .u64 3] ?_
               with_reducible refine (intrusionlaw07_ip.calls 3 t577 t578 t579 _ A10.out).mono ?_
               rintro e w88 ⟨rfl, hb⟩
               have HS0_ := (hb.cell (World.block_lt_of_cell? _ _ (hHeld.1))).trans (hHeld.1)
               have HS1_ := (hb.cell (World.block_lt_of_cell? _ _ (hHeld.2.1))).trans (hHeld.2.1)
               have HS2_ := (hb.cell (World.block_lt_of_cell? _ _ (hHeld.2.2.1))).trans (hHeld.2.2.1)
               have HS3_ := (hb.cell (World.block_lt_of_cell? _ _ (hHeld.2.2.2.1))).trans (hHeld.2.2.2.1)
               have HS4_ := (hb.cell (World.block_lt_of_cell? _ _ (hHeld.2.2.2.2.1))).trans (hHeld.2.2.2.2.1)
               have HS5_ := (hb.cell (World.block_lt_of_cell? _ _ (hHeld.2.2.2.2.2.1))).trans (hHeld.2.2.2.2.2.1)
               have HS6_ := (hb.cell (World.block_lt_of_cell? _ _ (hHeld.2.2.2.2.2.2.1))).trans (hHeld.2.2.2.2.2.2.1)
               have HS7_ := (hb.cell (World.block_lt_of_cell? _ _ (hHeld.2.2.2.2.2.2.2))).trans (hHeld.2.2.2.2.2.2.2)
               refine ⟨_, rfl, ?_⟩
               replace HO558 := Aside0.mk (Kd.R_below (zR HO558) hb)
               replace HO567 := Aside0.mk (Kd.R_below (zR HO567) hb)
               replace HO570 := Aside0.mk (Kd.R_below (zR HO570) hb)
               replace HO573 := Aside0.mk (Kd.R_below (zR HO573) hb)
               replace HB := Aside0.mk (below_step (zB HB) hb)
               (try clear hb)
               refine hK.out _ _ ⟨HS0_, HS1_, HS2_, HS3_, HS4_, HS5_, HS6_, HS7_⟩ (fun hHeld => ?_)
               clear hK K
               refine zn 18 ?_; refine zp 4 19 HT_ ?_; refine zo 5 20 HT_ (fun K hK => ?_)
               refine Kd.R_lit_step k66 _ 66 ?hg (N := 20) ?hd (xs := ([(⟨(⟨t574, t575, t576⟩ : S36), (⟨t577, t578, t579⟩ : S36)⟩ : S66)] : List (S66))) (inner := [.bool t574, .int .u64 t575, .int .u64 t576, .bool t577, .int .u64 t578, .int .u64 t579]) (ok := fun _ => True) (okp := fun _ => True) ?hr ?hp (fun _ hk => hk) trivial (Below.refl _ _) (Nat.le_refl _) (by simp) ?_; (case hd => rfl); (case hg => rfl); (case hr => first | (go_simp; done) | (go_simp; rfl)); (case hp => exact (Reps.c6 (show Kd.M k66 _ _ _ (⟨(⟨t574, t575, t576⟩ : S36), (⟨t577, t578, t579⟩ : S36)⟩ : S66) [.bool t574, .int .u64 t575, .int .u64 t576, .bool t577, .int .u64 t578, .int .u64 t579] from (k66_mkM _ _ _ (⟨(⟨t574, t575, t576⟩ : S36), (⟨t577, t578, t579⟩ : S36)⟩ : S66) )) (Reps.none _ _)))
               intro v581 w89 ho90 hb hg_ hnew_
               have HS0_ := (hb.cell (World.block_lt_of_cell? _ _ (hHeld.1))).trans (hHeld.1)
               have HS1_ := (hb.cell (World.block_lt_of_cell? _ _ (hHeld.2.1))).trans (hHeld.2.1)
               have HS2_ := (hb.cell (World.block_lt_of_cell? _ _ (hHeld.2.2.1))).trans (hHeld.2.2.1)
               have HS3_ := (hb.cell (World.block_lt_of_cell? _ _ (hHeld.2.2.2.1))).trans (hHeld.2.2.2.1)
               have HS4_ := (hb.cell (World.block_lt_of_cell? _ _ (hHeld.2.2.2.2.1))).trans (hHeld.2.2.2.2.1)
               have HS5_ := (hb.cell (World.block_lt_of_cell? _ _ (hHeld.2.2.2.2.2.1))).trans (hHeld.2.2.2.2.2.1)
               have HS6_ := (hb.cell (World.block_lt_of_cell? _ _ (hHeld.2.2.2.2.2.2.1))).trans (hHeld.2.2.2.2.2.2.1)
               have HS7_ := (hb.cell (World.block_lt_of_cell? _ _ (hHeld.2.2.2.2.2.2.2))).trans (hHeld.2.2.2.2.2.2.2)
               clear hg_ hnew_
               (first | rw [← Ny580.out] at ho90 | (simp only [Int.reduceToNat] at ho90; rw [← Ny580.out] at ho90))
               replace HO570 := Aside0.mk (Kd.R_below (zR HO570) hb)
               have HO582 := Aside0.mk (Kd.R_lower (Kd.R_new' (Kd.R_new' (Kd.R_new' ho90 (Kd.R_lt (zR HO558))) (Kd.R_lt (zR HO567))) (Kd.R_lt (zR HO573))) (below_size (zB HB)))
               replace HO558 := Aside0.mk (Kd.R_elder' (zR HO558) (Kd.R_base ho90) hb)
               replace HO567 := Aside0.mk (Kd.R_elder' (zR HO567) (Kd.R_base ho90) hb)
               replace HO573 := Aside0.mk (Kd.R_elder' (zR HO573) (Kd.R_base ho90) hb)
               replace HB := Aside0.mk (below_step (zB HB) hb)
               clear hb ho90
               obtain ⟨Ao91, co91, eo91⟩ := Kd.R_slice HO573.out
               (first | subst eo91 | (injection eo91 with f1_ f2_ f3_; have f4_ := f1_.symm; have f5_ := f3_.symm; clear f1_ f2_ f3_; subst f4_; subst f5_))
               obtain ⟨Ao92, co92, eo92⟩ := Kd.R_slice HO582.out
               (first | subst eo92 | (injection eo92 with f1_ f2_ f3_; have f4_ := f1_.symm; have f5_ := f3_.symm; clear f1_ f2_ f3_; subst f4_; subst f5_))
               refine hK.out _ _ ⟨HS0_, HS1_, HS2_, HS3_, HS4_, HS5_, HS6_, HS7_⟩ (fun hHeld => ?_)
               clear hK K
               refine zn 20 ?_; refine zo 6 21 HT_ (fun K hK => ?_)
               refine zg Try.func37 #[.slice Ao91 t571.length co91, .slice Ao92 y580.length co92] ?_
               with_reducible refine (intrusionref07_Same.calls k _ _ t571 _ _ y580 true _ ?side1 ?side2 ?side3 ?side4 A11.out).mono ?_
               (case side1 => repeat (first | exact (Kd.R_reads' HO573.out).2.2 | (with_reducible refine Kd.C_alloc ?_ _) | (with_reducible refine Kd.C_drewN ?_ _) | (with_reducible refine Kd.C_drew ?_)))
               (case side2 => exact (Kd.R_reads' HO573.out).2.1)
               (case side3 => repeat (first | exact (Kd.R_reads' HO582.out).2.2 | (with_reducible refine Kd.C_alloc ?_ _) | (with_reducible refine Kd.C_drewN ?_ _) | (with_reducible refine Kd.C_drew ?_)))
               (case side4 => exact (Kd.R_reads' HO582.out).2.1)
               rintro e w' ⟨rfl, ⟨nd, rfl⟩⟩
               refine ⟨_, rfl, ?_⟩
               refine hK.out _ _ ⟨hHeld.1, hHeld.2.1, hHeld.2.2.1, hHeld.2.2.2.1, hHeld.2.2.2.2.1, hHeld.2.2.2.2.2.1, hHeld.2.2.2.2.2.2.1, hHeld.2.2.2.2.2.2.2⟩ (fun hHeld => ?_)
               clear hK K
               refine zn 21 ?_; refine zp 7 22 HT_ ?_; refine zp 8 23 HT_ ?_; refine zo 9 24 HT_ (fun K hK => ?_)
               refine zg Try.func40 #[.slice Ao85 y556.length co85] ?_
               with_reducible refine (addrset_Valid.calls k _ _ y556 false _ ?side1 ?side2 A13.out).mono ?_
               (case side1 => repeat (first | exact (Kd.R_reads' HO558.out).2.2 | (with_reducible refine Kd.C_alloc ?_ _) | (with_reducible refine Kd.C_drewN ?_ _) | (with_reducible refine Kd.C_drew ?_)))
               (case side2 => exact (Kd.R_reads' HO558.out).2.1)
               rintro e w93 ⟨rfl, hb⟩
               have HS0_ := (hb.cell (World.block_lt_of_cell? _ _ (hHeld.1))).trans (hHeld.1)
               have HS1_ := (hb.cell (World.block_lt_of_cell? _ _ (hHeld.2.1))).trans (hHeld.2.1)
               have HS2_ := (hb.cell (World.block_lt_of_cell? _ _ (hHeld.2.2.1))).trans (hHeld.2.2.1)
               have HS3_ := (hb.cell (World.block_lt_of_cell? _ _ (hHeld.2.2.2.1))).trans (hHeld.2.2.2.1)
               have HS4_ := (hb.cell (World.block_lt_of_cell? _ _ (hHeld.2.2.2.2.1))).trans (hHeld.2.2.2.2.1)
               have HS5_ := (hb.cell (World.block_lt_of_cell? _ _ (hHeld.2.2.2.2.2.1))).trans (hHeld.2.2.2.2.2.1)
               have HS6_ := (hb.cell (World.block_lt_of_cell? _ _ (hHeld.2.2.2.2.2.2.1))).trans (hHeld.2.2.2.2.2.2.1)
               have HS7_ := (hb.cell (World.block_lt_of_cell? _ _ (hHeld.2.2.2.2.2.2.2))).trans (hHeld.2.2.2.2.2.2.2)
               refine ⟨_, rfl, ?_⟩
               replace HO558 := Aside0.mk (Kd.R_below (zR HO558) hb)
               replace HO567 := Aside0.mk (Kd.R_below (zR HO567) hb)
               replace HO570 := Aside0.mk (Kd.R_below (zR HO570) hb)
               replace HO573 := Aside0.mk (Kd.R_below (zR HO573) hb)
               replace HO582 := Aside0.mk (Kd.R_below (zR HO582) hb)
               replace HB := Aside0.mk (below_step (zB HB) hb)
               (try clear hb)
               obtain ⟨Ao94, co94, eo94⟩ := Kd.R_slice HO570.out
               (first | subst eo94 | (injection eo94 with f1_ f2_ f3_; have f4_ := f1_.symm; have f5_ := f3_.symm; clear f1_ f2_ f3_; subst f4_; subst f5_))
               refine hK.out _ _ ⟨HS0_, HS1_, HS2_, HS3_, HS4_, HS5_, HS6_, HS7_⟩ (fun hHeld => ?_)
               clear hK K
               refine zn 24 ?_; refine zp 10 25 HT_ ?_; refine zp 11 26 HT_ ?_; refine zp 12 27 HT_ ?_; refine zp 13 28 HT_ ?_; refine zp 14 29 HT_ ?_; refine zp 15 30 HT_ ?_; refine zp 16 31 HT_ ?_; refine zp 17 32 HT_ ?_; refine zp 18 33 HT_ ?_; refine zp 19 34 HT_ ?_; refine zt 20 35 HT_ HW_ hHeld ?_; refine zo 21 36 HT_ (fun K hK => ?_)
               refine zg Try.func70 #[.int .u64 1] ?_
               with_reducible refine (intrusionlaw07_ip.calls 1 t586 t587 t588 _ A39.out).mono ?_
               rintro e w95 ⟨rfl, hb⟩
               have HS0_ := (hb.cell (World.block_lt_of_cell? _ _ (hHeld.1))).trans (hHeld.1)
               have HS1_ := (hb.cell (World.block_lt_of_cell? _ _ (hHeld.2.1))).trans (hHeld.2.1)
               have HS2_ := (hb.cell (World.block_lt_of_cell? _ _ (hHeld.2.2.1))).trans (hHeld.2.2.1)
               have HS3_ := (hb.cell (World.block_lt_of_cell? _ _ (hHeld.2.2.2.1))).trans (hHeld.2.2.2.1)
               have HS4_ := (hb.cell (World.block_lt_of_cell? _ _ (hHeld.2.2.2.2.1))).trans (hHeld.2.2.2.2.1)
               have HS5_ := (hb.cell (World.block_lt_of_cell? _ _ (hHeld.2.2.2.2.2.1))).trans (hHeld.2.2.2.2.2.1)
               have HS6_ := (hb.cell (World.block_lt_of_cell? _ _ (hHeld.2.2.2.2.2.2.1))).trans (hHeld.2.2.2.2.2.2.1)
               have HS7_ := (hb.cell (World.block_lt_of_cell? _ _ (hHeld.2.2.2.2.2.2.2))).trans (hHeld.2.2.2.2.2.2.2)
               refine ⟨_, rfl, ?_⟩
               replace HO558 := Aside0.mk (Kd.R_below (zR HO558) hb)
               replace HO567 := Aside0.mk (Kd.R_below (zR HO567) hb)
               replace HO570 := Aside0.mk (Kd.R_below (zR HO570) hb)
               replace HO573 := Aside0.mk (Kd.R_below (zR HO573) hb)
               replace HO582 := Aside0.mk (Kd.R_below (zR HO582) hb)
               replace HB := Aside0.mk (below_step (zB HB) hb)
               (try clear hb)
               refine hK.out _ _ ⟨HS0_, HS1_, HS2_, HS3_, HS4_, HS5_, HS6_, HS7_⟩ (fun hHeld => ?_)
               clear hK K
               refine zn 36 ?_; refine zp 22 37 HT_ ?_; refine zp 23 38 HT_ ?_; refine zp 24 39 HT_ ?_; refine zp 25 40 HT_ ?_; refine zp 26 41 HT_ ?_; refine zp 27 42 HT_ ?_; refine zt 28 43 HT_ HW_ hHeld ?_; refine zo 29 44 HT_ (fun K hK => ?_)
               refine zg Try.func70 #[.int .u64 2] ?_
               with_reducible refine (intrusionlaw07_ip.calls 2 t590 t591 t592 _ A42.out).mono ?_
               rintro e w96 ⟨rfl, hb⟩
               have HS0_ := (hb.cell (World.block_lt_of_cell? _ _ (hHeld.1))).trans (hHeld.1)
               have HS1_ := (hb.cell (World.block_lt_of_cell? _ _ (hHeld.2.1))).trans (hHeld.2.1)
               have HS2_ := (hb.cell (World.block_lt_of_cell? _ _ (hHeld.2.2.1))).trans (hHeld.2.2.1)
               have HS3_ := (hb.cell (World.block_lt_of_cell? _ _ (hHeld.2.2.2.1))).trans (hHeld.2.2.2.1)
               have HS4_ := (hb.cell (World.block_lt_of_cell? _ _ (hHeld.2.2.2.2.1))).trans (hHeld.2.2.2.2.1)
               have HS5_ := (hb.cell (World.block_lt_of_cell? _ _ (hHeld.2.2.2.2.2.1))).trans (hHeld.2.2.2.2.2.1)
               have HS6_ := (hb.cell (World.block_lt_of_cell? _ _ (hHeld.2.2.2.2.2.2.1))).trans (hHeld.2.2.2.2.2.2.1)
               have HS7_ := (hb.cell (World.block_lt_of_cell? _ _ (hHeld.2.2.2.2.2.2.2))).trans (hHeld.2.2.2.2.2.2.2)
               refine ⟨_, rfl, ?_⟩
               replace HO558 := Aside0.mk (Kd.R_below (zR HO558) hb)
               replace HO567 := Aside0.mk (Kd.R_below (zR HO567) hb)
               replace HO570 := Aside0.mk (Kd.R_below (zR HO570) hb)
               replace HO573 := Aside0.mk (Kd.R_below (zR HO573) hb)
               replace HO582 := Aside0.mk (Kd.R_below (zR HO582) hb)
               replace HB := Aside0.mk (below_step (zB HB) hb)
               (try clear hb)
               refine hK.out _ _ ⟨HS0_, HS1_, HS2_, HS3_, HS4_, HS5_, HS6_, HS7_⟩ (fun hHeld => ?_)
               clear hK K
               refine zn 44 ?_; refine zp 30 45 HT_ ?_; refine zp 31 46 HT_ ?_; refine zp 32 47 HT_ ?_; refine zp 33 48 HT_ ?_; refine zu 34 49 HT_ ?_; refine zu 35 50 HT_ ?_; refine zu 36 51 HT_ ?_; refine zp 37 52 HT_ ?_; refine zp 38 0 HT_ ?_; refine zd HT_ ?_
               try go_wp2
               go_ret
               exact ⟨by first | rfl | (simp [errW_none, errW_some] <;> rfl) | (simp [*, errW_none, errW_some] <;> rfl), by repeat (first | (with_reducible first | exact HB.out | apply below_alloc | apply pw_below_drewN | apply below_drew1) | exact HB.out)⟩
           · rw [if_neg c41] at H
             exact absurd H (by simp)
         · rw [if_neg c40] at H
           have c40b0 : ((((rd_T45 t568 0).f0.f0) == t586 && (((rd_T45 t568 0).f0.f1) == t587 && (((rd_T45 t568 0).f0.f2) == t588))) && (((rd_T45 t568 0).f1) == 32)) = false := by simpa using c40
           clear c40
           obtain rfl := Option.some.inj H
           go_enter Try.func36, Try.ntmps36
           try go_wp2_with (first | ((with_reducible refine gate_callee (f := 70) rfl ?_); refine goesL_ (some 3) rfl rfl Try.func70 (by kernel_rfl) rfl #[.int .u64 2] rfl (by (try simp only [List.map_toArray, List.map_cons, List.map_nil]); first | done | rfl | (simp only [List.length_drop, List.length_take]; rfl)) ?_; (with_reducible refine (intrusionlaw07_ip.calls 2 t544 t545 t546 _ A1.out).mono ?_); rintro e w97 ⟨rfl, hb⟩; refine ⟨_, rfl, ?_⟩; replace HB := Aside0.mk (below_step (zB HB) hb); (try clear hb)) | ((with_reducible refine gate_callee (f := 70) rfl ?_); refine goesL_ (some 4) rfl rfl Try.func70 (by kernel_rfl) rfl #[.int .u64 3] rfl (by (try simp only [List.map_toArray, List.map_cons, List.map_nil]); first | done | rfl | (simp only [List.length_drop, List.length_take]; rfl)) ?_; (with_reducible refine (intrusionlaw07_ip.calls 3 t547 t548 t549 _ A2.out).mono ?_); rintro e w98 ⟨rfl, hb⟩; refine ⟨_, rfl, ?_⟩; replace HB := Aside0.mk (below_step (zB HB) hb); (try clear hb)) | ((with_reducible refine gate_callee (f := 70) rfl ?_); refine goesL_ (some 6) rfl rfl Try.func70 (by kernel_rfl) rfl #[.int .u64 1] rfl (by (try simp only [List.map_toArray, List.map_cons, List.map_nil]); first | done | rfl | (simp only [List.length_drop, List.length_take]; rfl)) ?_; (with_reducible refine (intrusionlaw07_ip.calls 1 t550 t551 t552 _ A3.out).mono ?_); rintro e w99 ⟨rfl, hb⟩; refine ⟨_, rfl, ?_⟩; replace HB := Aside0.mk (below_step (zB HB) hb); (try clear hb)) | ((with_reducible refine gate_callee (f := 70) rfl ?_); refine goesL_ (some 7) rfl rfl Try.func70 (by kernel_rfl) rfl #[.int .u64 1] rfl (by (try simp only [List.map_toArray, List.map_cons, List.map_nil]); first | done | rfl | (simp only [List.length_drop, List.length_take]; rfl)) ?_; (with_reducible refine (intrusionlaw07_ip.calls 1 t553 t554 t555 _ A4.out).mono ?_); rintro e w100 ⟨rfl, hb⟩; refine ⟨_, rfl, ?_⟩; replace HB := Aside0.mk (below_step (zB HB) hb); (try clear hb)) | ((with_reducible refine gate_dst (N := 9) rfl ?_); (try (refine gate_guard (by rfl) ?_; dsimp only)); refine Kd.R_lit k66 _ 66 ?hg (N := 9) ?hd (xs := ([(⟨(⟨t544, t545, t546⟩ : S36), (⟨t547, t548, t549⟩ : S36)⟩ : S66), (⟨(⟨t550, t551, t552⟩ : S36), (⟨t553, t554, t555⟩ : S36)⟩ : S66)] : List (S66))) (inner := [.bool t544, .int .u64 t545, .int .u64 t546, .bool t547, .int .u64 t548, .int .u64 t549, .bool t550, .int .u64 t551, .int .u64 t552, .bool t553, .int .u64 t554, .int .u64 t555]) (ok := fun _ => True) (okp := fun _ => True) ?hr ?hp (fun _ hk => hk) trivial (Below.refl _ _) (Nat.le_refl _) (by simp) ?_; (case hd => rfl); (case hg => rfl); (case hr => first | (go_simp; done) | (go_simp; rfl)); (case hp => exact (Reps.c6 (show Kd.M k66 _ _ _ (⟨(⟨t544, t545, t546⟩ : S36), (⟨t547, t548, t549⟩ : S36)⟩ : S66) [.bool t544, .int .u64 t545, .int .u64 t546, .bool t547, .int .u64 t548, .int .u64 t549] from (k66_mkM _ _ _ (⟨(⟨t544, t545, t546⟩ : S36), (⟨t547, t548, t549⟩ : S36)⟩ : S66) )) (Reps.c6 (show Kd.M k66 _ _ _ (⟨(⟨t550, t551, t552⟩ : S36), (⟨t553, t554, t555⟩ : S36)⟩ : S66) [.bool t550, .int .u64 t551, .int .u64 t552, .bool t553, .int .u64 t554, .int .u64 t555] from (k66_mkM _ _ _ (⟨(⟨t550, t551, t552⟩ : S36), (⟨t553, t554, t555⟩ : S36)⟩ : S66) )) (Reps.none _ _)))); intro v557 w101 ho102 hb hg_ hnew_; clear hg_ hnew_; (first | rw [← Ny556.out] at ho102 | (simp only [Int.reduceToNat] at ho102; rw [← Ny556.out] at ho102)); have HO558 := Aside0.mk (Kd.R_lower ho102 (below_size (zB HB))); replace HB := Aside0.mk (below_step (zB HB) hb); clear hb ho102) | ((with_reducible refine gate_callee (f := 70) rfl ?_); refine goesL_ (some 10) rfl rfl Try.func70 (by kernel_rfl) rfl #[.int .u64 1] rfl (by (try simp only [List.map_toArray, List.map_cons, List.map_nil]); first | done | rfl | (simp only [List.length_drop, List.length_take]; rfl)) ?_; (with_reducible refine (intrusionlaw07_ip.calls 1 t559 t560 t561 _ A5.out).mono ?_); rintro e w103 ⟨rfl, hb⟩; refine ⟨_, rfl, ?_⟩; replace HO558 := Aside0.mk (Kd.R_below (zR HO558) hb); replace HB := Aside0.mk (below_step (zB HB) hb); (try clear hb)) | ((with_reducible refine gate_callee (f := 70) rfl ?_); refine goesL_ (some 11) rfl rfl Try.func70 (by kernel_rfl) rfl #[.int .u64 4] rfl (by (try simp only [List.map_toArray, List.map_cons, List.map_nil]); first | done | rfl | (simp only [List.length_drop, List.length_take]; rfl)) ?_; (with_reducible refine (intrusionlaw07_ip.calls 4 t562 t563 t564 _ A6.out).mono ?_); rintro e w104 ⟨rfl, hb⟩; refine ⟨_, rfl, ?_⟩; replace HO558 := Aside0.mk (Kd.R_below (zR HO558) hb); replace HB := Aside0.mk (below_step (zB HB) hb); (try clear hb)) | ((with_reducible refine gate_dst (N := 13) rfl ?_); (try (refine gate_guard (by rfl) ?_; dsimp only)); refine Kd.R_lit k66 _ 66 ?hg (N := 13) ?hd (xs := ([(⟨(⟨t559, t560, t561⟩ : S36), (⟨t562, t563, t564⟩ : S36)⟩ : S66)] : List (S66))) (inner := [.bool t559, .int .u64 t560, .int .u64 t561, .bool t562, .int .u64 t563, .int .u64 t564]) (ok := fun _ => True) (okp := fun _ => True) ?hr ?hp (fun _ hk => hk) trivial (Below.refl _ _) (Nat.le_refl _) (by simp) ?_; (case hd => rfl); (case hg => rfl); (case hr => first | (go_simp; done) | (go_simp; rfl)); (case hp => exact (Reps.c6 (show Kd.M k66 _ _ _ (⟨(⟨t559, t560, t561⟩ : S36), (⟨t562, t563, t564⟩ : S36)⟩ : S66) [.bool t559, .int .u64 t560, .int .u64 t561, .bool t562, .int .u64 t563, .int .u64 t564] from (k66_mkM _ _ _ (⟨(⟨t559, t560, t561⟩ : S36), (⟨t562, t563, t564⟩ : S36)⟩ : S66) )) (Reps.none _ _))); intro v566 w105 ho106 hb hg_ hnew_; clear hg_ hnew_; (first | rw [← Ny565.out] at ho106 | (simp only [Int.reduceToNat] at ho106; rw [← Ny565.out] at ho106)); have HO567 := Aside0.mk (Kd.R_lower (Kd.R_new' ho106 (Kd.R_lt (zR HO558))) (below_size (zB HB))); replace HO558 := Aside0.mk (Kd.R_elder' (zR HO558) (Kd.R_base ho106) hb); replace HB := Aside0.mk (below_step (zB HB) hb); clear hb ho106; obtain ⟨Ao107, co107, eo107⟩ := Kd.R_slice HO567.out; subst eo107) | ((with_reducible refine gate_callee (f := 46) rfl ?_); refine goesL_ (some 14) rfl rfl Try.func46 (by kernel_rfl) rfl #[.slice Ao107 y565.length co107] rfl (by (try simp only [List.map_toArray, List.map_cons, List.map_nil]); first | done | rfl | (simp only [List.length_drop, List.length_take]; rfl)) ?_; (with_reducible refine (addrset_Prefixes.calls k _ _ y565 t568 _ ?side1 ?side2 A7.out).mono ?_); (case side1 => repeat (first | exact (Kd.R_reads' HO567.out).2.2 | (with_reducible refine Kd.C_alloc ?_ _) | (with_reducible refine Kd.C_drewN ?_ _) | (with_reducible refine Kd.C_drew ?_))); (case side2 => exact (Kd.R_reads' HO567.out).2.1); rintro e w108 ⟨v569, rfl, ho0, hb⟩; refine ⟨_, rfl, ?_⟩; replace HO558 := Aside0.mk (Kd.R_below (zR HO558) hb); replace HO567 := Aside0.mk (Kd.R_below (zR HO567) hb); have HO570 := Aside0.mk (Kd.R_lower ho0 (below_size (zB HB))); replace HB := Aside0.mk (below_step (zB HB) hb); (try clear hb); (try clear ho0)))
           replace HO558 := Aside0.mk (Kd.R_drew HO558.out)
           replace HO567 := Aside0.mk (Kd.R_drew HO567.out)
           replace HO570 := Aside0.mk (Kd.R_drew HO570.out)
           replace HB := Aside0.mk (below_drew1 HB.out)
           obtain ⟨Ao110, co110, eo110⟩ := Kd.R_slice HO558.out
           (first | subst eo110 | (injection eo110 with f1_ f2_ f3_; have f4_ := f1_.symm; have f5_ := f3_.symm; clear f1_ f2_ f3_; subst f4_; subst f5_))
           have p585 : 0 ≤ (0 : Int) := (by omega)
           have q585 : 0 < (t568.length : Int) := za
           (try (obtain ⟨Ax_, cx_, ex_⟩ := Kd.R_slice HO570.out; subst ex_))
           obtain ⟨ad585, e585, hx585_0, hx585_1, hx585_2, hx585_3⟩ := at_T45 (Kd.R_reads' HO570.out).2.2 0 p585 q585
           cases e585
           have qi585 : (0 < t568.length) = True := eq_true (by omega)
           (try rw [show ((0 : Int)).toNat = 0 from rfl] at hx585_0)
           (try rw [show 0 * 4 = 0 from rfl] at hx585_0)
           (try rw [Addr.add_zero'] at hx585_0)
           (try rw [show ((0 : Int)).toNat = 0 from rfl] at hx585_1)
           (try rw [show 0 * 4 = 0 from rfl] at hx585_1)
           (try rw [Addr.add_zero'] at hx585_1)
           (try rw [show ((0 : Int)).toNat = 0 from rfl] at hx585_2)
           (try rw [show 0 * 4 = 0 from rfl] at hx585_2)
           (try rw [Addr.add_zero'] at hx585_2)
           (try rw [show ((0 : Int)).toNat = 0 from rfl] at hx585_3)
           (try rw [show 0 * 4 = 0 from rfl] at hx585_3)
           (try rw [Addr.add_zero'] at hx585_3)
           replace p585 := eq_true p585
           replace q585 := eq_true q585
           refine start_ (n := 39) (S := fun w' => w'.cell? ad585 = some (.bool ((rd_T45 t568 0).f0.f0)) ∧ w'.cell? ⟨ad585.block, ad585.off + 1, none⟩ = some (.int .u64 ((rd_T45 t568 0).f0.f1)) ∧ w'.cell? ⟨ad585.block, ad585.off + 2, none⟩ = some (.int .u64 ((rd_T45 t568 0).f0.f2)) ∧ w'.cell? ⟨ad585.block, ad585.off + 3, none⟩ = some (.int .i64 ((rd_T45 t568 0).f1))) (ds := []) #[false, false, false, false, false, false, false, false, false, false, false, false, false, false, false, false, false, false, false, false, false, false, false, false, false, false, false, false, false, false, false, false, false, false, false, false, false, false, false] (by kernel_rfl) rfl rfl ⟨hx585_0, hx585_1, hx585_2, hx585_3⟩ (fun hHeld => ?_); refine with_tabW intrusionlaw07_awake.tab3 intrusionlaw07_awake.bits3 (fun HT_ HW_ => ?_)
           generalize w108.drew = w109 at HO558 HO567 HO570 HB hx585_0 hx585_1 hx585_2 hx585_3 hHeld ⊢
           refine zp 0 15 HT_ ?_; refine zo 1 16 HT_ (fun K hK => ?_)
           refine zg Try.func38 #[.slice Ao110 y556.length co110] ?_
           with_reducible refine (addrset_Normal.calls k _ _ y556 t571 _ ?side1 ?side2 A8.out).mono ?_
           (case side1 => repeat (first | exact (Kd.R_reads' HO558.out).2.2 | (with_reducible refine Kd.C_alloc ?_ _) | (with_reducible refine Kd.C_drewN ?_ _) | (with_reducible refine Kd.C_drew ?_)))
           (case side2 => exact (Kd.R_reads' HO558.out).2.1)
           rintro e w111 ⟨v572, rfl, ho0, hb⟩
           have HS0_ := (hb.cell (World.block_lt_of_cell? _ _ (hHeld.1))).trans (hHeld.1)
           have HS1_ := (hb.cell (World.block_lt_of_cell? _ _ (hHeld.2.1))).trans (hHeld.2.1)
           have HS2_ := (hb.cell (World.block_lt_of_cell? _ _ (hHeld.2.2.1))).trans (hHeld.2.2.1)
           have HS3_ := (hb.cell (World.block_lt_of_cell? _ _ (hHeld.2.2.2))).trans (hHeld.2.2.2)
           refine ⟨_, rfl, ?_⟩
           replace HO570 := Aside0.mk (Kd.R_below (zR HO570) hb)
           have HO573 := Aside0.mk (Kd.R_lower (Kd.R_new' (Kd.R_new' ho0 (Kd.R_lt (zR HO558))) (Kd.R_lt (zR HO567))) (below_size (zB HB)))
           replace HO558 := Aside0.mk (Kd.R_elder' (zR HO558) (Kd.R_base ho0) hb)
           replace HO567 := Aside0.mk (Kd.R_elder' (zR HO567) (Kd.R_base ho0) hb)
           replace HB := Aside0.mk (below_step (zB HB) hb)
           (try clear hb)
           (try clear ho0)
           refine hK.out _ _ ⟨HS0_, HS1_, HS2_, HS3_⟩ (fun hHeld => ?_)
           clear hK K
           refine zn 16 ?_; refine zo 2 17 HT_ (fun K hK => ?_)
           refine zg Try.func70 #[.int .u64 1] ?_
           with_reducible refine (intrusionlaw07_ip.calls 1 t574 t575 t576 _ A9.out).mono ?_
           rintro e w112 ⟨rfl, hb⟩
           have HS0_ := (hb.cell (World.block_lt_of_cell? _ _ (hHeld.1))).trans (hHeld.1)
           have HS1_ := (hb.cell (World.block_lt_of_cell? _ _ (hHeld.2.1))).trans (hHeld.2.1)
           have HS2_ := (hb.cell (World.block_lt_of_cell? _ _ (hHeld.2.2.1))).trans (hHeld.2.2.1)
           have HS3_ := (hb.cell (World.block_lt_of_cell? _ _ (hHeld.2.2.2))).trans (hHeld.2.2.2)
           refine ⟨_, rfl, ?_⟩
           replace HO558 := Aside0.mk (Kd.R_below (zR HO558) hb)
           replace HO567 := Aside0.mk (Kd.R_below (zR HO567) hb)
           replace HO570 := Aside0.mk (Kd.R_below (zR HO570) hb)
           replace HO573 := Aside0.mk (Kd.R_below (zR HO573) hb)
           replace HB := Aside0.mk (below_step (zB HB) hb)
           (try clear hb)
           refine hK.out _ _ ⟨HS0_, HS1_, HS2_, HS3_⟩ (fun hHeld => ?_)
           clear hK K
           refine zn 17 ?_; refine zo 3 18 HT_ (fun K hK => ?_)
           refine zg Try.func70 #[.int .u64 3] ?_
           with_reducible refine (intrusionlaw07_ip.calls 3 t577 t578 t579 _ A10.out).mono ?_
           rintro e w113 ⟨rfl, hb⟩
           have HS0_ := (hb.cell (World.block_lt_of_cell? _ _ (hHeld.1))).trans (hHeld.1)
           have HS1_ := (hb.cell (World.block_lt_of_cell? _ _ (hHeld.2.1))).trans (hHeld.2.1)
           have HS2_ := (hb.cell (World.block_lt_of_cell? _ _ (hHeld.2.2.1))).trans (hHeld.2.2.1)
           have HS3_ := (hb.cell (World.block_lt_of_cell? _ _ (hHeld.2.2.2))).trans (hHeld.2.2.2)
           refine ⟨_, rfl, ?_⟩
           replace HO558 := Aside0.mk (Kd.R_below (zR HO558) hb)
           replace HO567 := Aside0.mk (Kd.R_below (zR HO567) hb)
           replace HO570 := Aside0.mk (Kd.R_below (zR HO570) hb)
           replace HO573 := Aside0.mk (Kd.R_below (zR HO573) hb)
           replace HB := Aside0.mk (below_step (zB HB) hb)
           (try clear hb)
           refine hK.out _ _ ⟨HS0_, HS1_, HS2_, HS3_⟩ (fun hHeld => ?_)
           clear hK K
           refine zn 18 ?_; refine zp 4 19 HT_ ?_; refine zo 5 20 HT_ (fun K hK => ?_)
           refine Kd.R_lit_step k66 _ 66 ?hg (N := 20) ?hd (xs := ([(⟨(⟨t574, t575, t576⟩ : S36), (⟨t577, t578, t579⟩ : S36)⟩ : S66)] : List (S66))) (inner := [.bool t574, .int .u64 t575, .int .u64 t576, .bool t577, .int .u64 t578, .int .u64 t579]) (ok := fun _ => True) (okp := fun _ => True) ?hr ?hp (fun _ hk => hk) trivial (Below.refl _ _) (Nat.le_refl _) (by simp) ?_; (case hd => rfl); (case hg => rfl); (case hr => first | (go_simp; done) | (go_simp; rfl)); (case hp => exact (Reps.c6 (show Kd.M k66 _ _ _ (⟨(⟨t574, t575, t576⟩ : S36), (⟨t577, t578, t579⟩ : S36)⟩ : S66) [.bool t574, .int .u64 t575, .int .u64 t576, .bool t577, .int .u64 t578, .int .u64 t579] from (k66_mkM _ _ _ (⟨(⟨t574, t575, t576⟩ : S36), (⟨t577, t578, t579⟩ : S36)⟩ : S66) )) (Reps.none _ _)))
           intro v581 w114 ho115 hb hg_ hnew_
           have HS0_ := (hb.cell (World.block_lt_of_cell? _ _ (hHeld.1))).trans (hHeld.1)
           have HS1_ := (hb.cell (World.block_lt_of_cell? _ _ (hHeld.2.1))).trans (hHeld.2.1)
           have HS2_ := (hb.cell (World.block_lt_of_cell? _ _ (hHeld.2.2.1))).trans (hHeld.2.2.1)
           have HS3_ := (hb.cell (World.block_lt_of_cell? _ _ (hHeld.2.2.2))).trans (hHeld.2.2.2)
           clear hg_ hnew_
           (first | rw [← Ny580.out] at ho115 | (simp only [Int.reduceToNat] at ho115; rw [← Ny580.out] at ho115))
           replace HO570 := Aside0.mk (Kd.R_below (zR HO570) hb)
           have HO582 := Aside0.mk (Kd.R_lower (Kd.R_new' (Kd.R_new' (Kd.R_new' ho115 (Kd.R_lt (zR HO558))) (Kd.R_lt (zR HO567))) (Kd.R_lt (zR HO573))) (below_size (zB HB)))
           replace HO558 := Aside0.mk (Kd.R_elder' (zR HO558) (Kd.R_base ho115) hb)
           replace HO567 := Aside0.mk (Kd.R_elder' (zR HO567) (Kd.R_base ho115) hb)
           replace HO573 := Aside0.mk (Kd.R_elder' (zR HO573) (Kd.R_base ho115) hb)
           replace HB := Aside0.mk (below_step (zB HB) hb)
           clear hb ho115
           obtain ⟨Ao116, co116, eo116⟩ := Kd.R_slice HO573.out
           (first | subst eo116 | (injection eo116 with f1_ f2_ f3_; have f4_ := f1_.symm; have f5_ := f3_.symm; clear f1_ f2_ f3_; subst f4_; subst f5_))
           obtain ⟨Ao117, co117, eo117⟩ := Kd.R_slice HO582.out
           (first | subst eo117 | (injection eo117 with f1_ f2_ f3_; have f4_ := f1_.symm; have f5_ := f3_.symm; clear f1_ f2_ f3_; subst f4_; subst f5_))
           refine hK.out _ _ ⟨HS0_, HS1_, HS2_, HS3_⟩ (fun hHeld => ?_)
           clear hK K
           refine zn 20 ?_; refine zo 6 21 HT_ (fun K hK => ?_)
           refine zg Try.func37 #[.slice Ao116 t571.length co116, .slice Ao117 y580.length co117] ?_
           with_reducible refine (intrusionref07_Same.calls k _ _ t571 _ _ y580 true _ ?side1 ?side2 ?side3 ?side4 A11.out).mono ?_
           (case side1 => repeat (first | exact (Kd.R_reads' HO573.out).2.2 | (with_reducible refine Kd.C_alloc ?_ _) | (with_reducible refine Kd.C_drewN ?_ _) | (with_reducible refine Kd.C_drew ?_)))
           (case side2 => exact (Kd.R_reads' HO573.out).2.1)
           (case side3 => repeat (first | exact (Kd.R_reads' HO582.out).2.2 | (with_reducible refine Kd.C_alloc ?_ _) | (with_reducible refine Kd.C_drewN ?_ _) | (with_reducible refine Kd.C_drew ?_)))
           (case side4 => exact (Kd.R_reads' HO582.out).2.1)
           rintro e w' ⟨rfl, ⟨nd, rfl⟩⟩
           refine ⟨_, rfl, ?_⟩
           refine hK.out _ _ ⟨hHeld.1, hHeld.2.1, hHeld.2.2.1, hHeld.2.2.2⟩ (fun hHeld => ?_)
           clear hK K
           refine zn 21 ?_; refine zp 7 22 HT_ ?_; refine zp 8 23 HT_ ?_; refine zo 9 24 HT_ (fun K hK => ?_)
           refine zg Try.func40 #[.slice Ao110 y556.length co110] ?_
           with_reducible refine (addrset_Valid.calls k _ _ y556 false _ ?side1 ?side2 A13.out).mono ?_
           (case side1 => repeat (first | exact (Kd.R_reads' HO558.out).2.2 | (with_reducible refine Kd.C_alloc ?_ _) | (with_reducible refine Kd.C_drewN ?_ _) | (with_reducible refine Kd.C_drew ?_)))
           (case side2 => exact (Kd.R_reads' HO558.out).2.1)
           rintro e w118 ⟨rfl, hb⟩
           have HS0_ := (hb.cell (World.block_lt_of_cell? _ _ (hHeld.1))).trans (hHeld.1)
           have HS1_ := (hb.cell (World.block_lt_of_cell? _ _ (hHeld.2.1))).trans (hHeld.2.1)
           have HS2_ := (hb.cell (World.block_lt_of_cell? _ _ (hHeld.2.2.1))).trans (hHeld.2.2.1)
           have HS3_ := (hb.cell (World.block_lt_of_cell? _ _ (hHeld.2.2.2))).trans (hHeld.2.2.2)
           refine ⟨_, rfl, ?_⟩
           replace HO558 := Aside0.mk (Kd.R_below (zR HO558) hb)
           replace HO567 := Aside0.mk (Kd.R_below (zR HO567) hb)
           replace HO570 := Aside0.mk (Kd.R_below (zR HO570) hb)
           replace HO573 := Aside0.mk (Kd.R_below (zR HO573) hb)
           replace HO582 := Aside0.mk (Kd.R_below (zR HO582) hb)
           replace HB := Aside0.mk (below_step (zB HB) hb)
           (try clear hb)
           obtain ⟨Ao119, co119, eo119⟩ := Kd.R_slice HO570.out
           (first | subst eo119 | (injection eo119 with f1_ f2_ f3_; have f4_ := f1_.symm; have f5_ := f3_.symm; clear f1_ f2_ f3_; subst f4_; subst f5_))
           refine hK.out _ _ ⟨HS0_, HS1_, HS2_, HS3_⟩ (fun hHeld => ?_)
           clear hK K
           refine zn 24 ?_; refine zp 10 25 HT_ ?_; refine zp 11 26 HT_ ?_; refine zp 12 27 HT_ ?_; refine zp 13 28 HT_ ?_; refine zp 14 29 HT_ ?_; refine zp 15 30 HT_ ?_; refine zp 16 31 HT_ ?_; refine zp 17 32 HT_ ?_; refine zp 18 33 HT_ ?_; refine zp 19 34 HT_ ?_; refine zt 20 35 HT_ HW_ hHeld ?_; refine zo 21 36 HT_ (fun K hK => ?_)
           refine zg Try.func70 #[.int .u64 1] ?_
           with_reducible refine (intrusionlaw07_ip.calls 1 t586 t587 t588 _ A39.out).mono ?_
           rintro e w120 ⟨rfl, hb⟩
           have HS0_ := (hb.cell (World.block_lt_of_cell? _ _ (hHeld.1))).trans (hHeld.1)
           have HS1_ := (hb.cell (World.block_lt_of_cell? _ _ (hHeld.2.1))).trans (hHeld.2.1)
           have HS2_ := (hb.cell (World.block_lt_of_cell? _ _ (hHeld.2.2.1))).trans (hHeld.2.2.1)
           have HS3_ := (hb.cell (World.block_lt_of_cell? _ _ (hHeld.2.2.2))).trans (hHeld.2.2.2)
           refine ⟨_, rfl, ?_⟩
           replace HO558 := Aside0.mk (Kd.R_below (zR HO558) hb)
           replace HO567 := Aside0.mk (Kd.R_below (zR HO567) hb)
           replace HO570 := Aside0.mk (Kd.R_below (zR HO570) hb)
           replace HO573 := Aside0.mk (Kd.R_below (zR HO573) hb)
           replace HO582 := Aside0.mk (Kd.R_below (zR HO582) hb)
           replace HB := Aside0.mk (below_step (zB HB) hb)
           (try clear hb)
           refine hK.out _ _ ⟨HS0_, HS1_, HS2_, HS3_⟩ (fun hHeld => ?_)
           clear hK K
           refine zn 36 ?_; refine zp 22 37 HT_ ?_; refine zp 23 38 HT_ ?_; refine zp 24 39 HT_ ?_; refine zp 25 40 HT_ ?_; refine zu 26 41 HT_ ?_; refine zu 27 42 HT_ ?_; refine zu 28 43 HT_ ?_; refine zu 29 44 HT_ ?_; refine zu 30 45 HT_ ?_; refine zu 31 46 HT_ ?_; refine zp 32 47 HT_ ?_; refine zp 33 48 HT_ ?_; refine zu 34 49 HT_ ?_; refine zu 35 50 HT_ ?_; refine zu 36 51 HT_ ?_; refine zp 37 52 HT_ ?_; refine zp 38 0 HT_ ?_; refine zd HT_ ?_
           try go_wp2
           go_ret
           exact ⟨by first | rfl | (simp [errW_none, errW_some] <;> rfl) | (simp [*, errW_none, errW_some] <;> rfl), by repeat (first | (with_reducible first | exact HB.out | apply below_alloc | apply pw_below_drewN | apply below_drew1) | exact HB.out)⟩
       · rw [if_neg c38] at H
         exact absurd H (by simp)
     · rw [if_neg c37] at H
       have c37b0 : ((t568.length : Int) == 3) = false := beq_eq_false_iff_ne.mpr c37
       have c37b1 : ((t568.length : Int) != 3) = true := bne_iff_ne.mpr c37
       obtain rfl := Option.some.inj H
       go_enter Try.func36, Try.ntmps36
       try go_wp2_with (first | ((with_reducible refine gate_callee (f := 70) rfl ?_); refine goesL_ (some 3) rfl rfl Try.func70 (by kernel_rfl) rfl #[.int .u64 2] rfl (by (try simp only [List.map_toArray, List.map_cons, List.map_nil]); first | done | rfl | (simp only [List.length_drop, List.length_take]; rfl)) ?_; (with_reducible refine (intrusionlaw07_ip.calls 2 t544 t545 t546 _ A1.out).mono ?_); rintro e w121 ⟨rfl, hb⟩; refine ⟨_, rfl, ?_⟩; replace HB := Aside0.mk (below_step (zB HB) hb); (try clear hb)) | ((with_reducible refine gate_callee (f := 70) rfl ?_); refine goesL_ (some 4) rfl rfl Try.func70 (by kernel_rfl) rfl #[.int .u64 3] rfl (by (try simp only [List.map_toArray, List.map_cons, List.map_nil]); first | done | rfl | (simp only [List.length_drop, List.length_take]; rfl)) ?_; (with_reducible refine (intrusionlaw07_ip.calls 3 t547 t548 t549 _ A2.out).mono ?_); rintro e w122 ⟨rfl, hb⟩; refine ⟨_, rfl, ?_⟩; replace HB := Aside0.mk (below_step (zB HB) hb); (try clear hb)) | ((with_reducible refine gate_callee (f := 70) rfl ?_); refine goesL_ (some 6) rfl rfl Try.func70 (by kernel_rfl) rfl #[.int .u64 1] rfl (by (try simp only [List.map_toArray, List.map_cons, List.map_nil]); first | done | rfl | (simp only [List.length_drop, List.length_take]; rfl)) ?_; (with_reducible refine (intrusionlaw07_ip.calls 1 t550 t551 t552 _ A3.out).mono ?_); rintro e w123 ⟨rfl, hb⟩; refine ⟨_, rfl, ?_⟩; replace HB := Aside0.mk (below_step (zB HB) hb); (try clear hb)) | ((with_reducible refine gate_callee (f := 70) rfl ?_); refine goesL_ (some 7) rfl rfl Try.func70 (by kernel_rfl) rfl #[.int .u64 1] rfl (by (try simp only [List.map_toArray, List.map_cons, List.map_nil]); first | done | rfl | (simp only [List.length_drop, List.length_take]; rfl)) ?_; (with_reducible refine (intrusionlaw07_ip.calls 1 t553 t554 t555 _ A4.out).mono ?_); rintro e w124 ⟨rfl, hb⟩; refine ⟨_, rfl, ?_⟩; replace HB := Aside0.mk (below_step (zB HB) hb); (try clear hb)) | ((with_reducible refine gate_dst (N := 9) rfl ?_); (try (refine gate_guard (by rfl) ?_; dsimp only)); refine Kd.R_lit k66 _ 66 ?hg (N := 9) ?hd (xs := ([(⟨(⟨t544, t545, t546⟩ : S36), (⟨t547, t548, t549⟩ : S36)⟩ : S66), (⟨(⟨t550, t551, t552⟩ : S36), (⟨t553, t554, t555⟩ : S36)⟩ : S66)] : List (S66))) (inner := [.bool t544, .int .u64 t545, .int .u64 t546, .bool t547, .int .u64 t548, .int .u64 t549, .bool t550, .int .u64 t551, .int .u64 t552, .bool t553, .int .u64 t554, .int .u64 t555]) (ok := fun _ => True) (okp := fun _ => True) ?hr ?hp (fun _ hk => hk) trivial (Below.refl _ _) (Nat.le_refl _) (by simp) ?_; (case hd => rfl); (case hg => rfl); (case hr => first | (go_simp; done) | (go_simp; rfl)); (case hp => exact (Reps.c6 (show Kd.M k66 _ _ _ (⟨(⟨t544, t545, t546⟩ : S36), (⟨t547, t548, t549⟩ : S36)⟩ : S66) [.bool t544, .int .u64 t545, .int .u64 t546, .bool t547, .int .u64 t548, .int .u64 t549] from (k66_mkM _ _ _ (⟨(⟨t544, t545, t546⟩ : S36), (⟨t547, t548, t549⟩ : S36)⟩ : S66) )) (Reps.c6 (show Kd.M k66 _ _ _ (⟨(⟨t550, t551, t552⟩ : S36), (⟨t553, t554, t555⟩ : S36)⟩ : S66) [.bool t550, .int .u64 t551, .int .u64 t552, .bool t553, .int .u64 t554, .int .u64 t555] from (k66_mkM _ _ _ (⟨(⟨t550, t551, t552⟩ : S36), (⟨t553, t554, t555⟩ : S36)⟩ : S66) )) (Reps.none _ _)))); intro v557 w125 ho126 hb hg_ hnew_; clear hg_ hnew_; (first | rw [← Ny556.out] at ho126 | (simp only [Int.reduceToNat] at ho126; rw [← Ny556.out] at ho126)); have HO558 := Aside0.mk (Kd.R_lower ho126 (below_size (zB HB))); replace HB := Aside0.mk (below_step (zB HB) hb); clear hb ho126) | ((with_reducible refine gate_callee (f := 70) rfl ?_); refine goesL_ (some 10) rfl rfl Try.func70 (by kernel_rfl) rfl #[.int .u64 1] rfl (by (try simp only [List.map_toArray, List.map_cons, List.map_nil]); first | done | rfl | (simp only [List.length_drop, List.length_take]; rfl)) ?_; (with_reducible refine (intrusionlaw07_ip.calls 1 t559 t560 t561 _ A5.out).mono ?_); rintro e w127 ⟨rfl, hb⟩; refine ⟨_, rfl, ?_⟩; replace HO558 := Aside0.mk (Kd.R_below (zR HO558) hb); replace HB := Aside0.mk (below_step (zB HB) hb); (try clear hb)) | ((with_reducible refine gate_callee (f := 70) rfl ?_); refine goesL_ (some 11) rfl rfl Try.func70 (by kernel_rfl) rfl #[.int .u64 4] rfl (by (try simp only [List.map_toArray, List.map_cons, List.map_nil]); first | done | rfl | (simp only [List.length_drop, List.length_take]; rfl)) ?_; (with_reducible refine (intrusionlaw07_ip.calls 4 t562 t563 t564 _ A6.out).mono ?_); rintro e w128 ⟨rfl, hb⟩; refine ⟨_, rfl, ?_⟩; replace HO558 := Aside0.mk (Kd.R_below (zR HO558) hb); replace HB := Aside0.mk (below_step (zB HB) hb); (try clear hb)) | ((with_reducible refine gate_dst (N := 13) rfl ?_); (try (refine gate_guard (by rfl) ?_; dsimp only)); refine Kd.R_lit k66 _ 66 ?hg (N := 13) ?hd (xs := ([(⟨(⟨t559, t560, t561⟩ : S36), (⟨t562, t563, t564⟩ : S36)⟩ : S66)] : List (S66))) (inner := [.bool t559, .int .u64 t560, .int .u64 t561, .bool t562, .int .u64 t563, .int .u64 t564]) (ok := fun _ => True) (okp := fun _ => True) ?hr ?hp (fun _ hk => hk) trivial (Below.refl _ _) (Nat.le_refl _) (by simp) ?_; (case hd => rfl); (case hg => rfl); (case hr => first | (go_simp; done) | (go_simp; rfl)); (case hp => exact (Reps.c6 (show Kd.M k66 _ _ _ (⟨(⟨t559, t560, t561⟩ : S36), (⟨t562, t563, t564⟩ : S36)⟩ : S66) [.bool t559, .int .u64 t560, .int .u64 t561, .bool t562, .int .u64 t563, .int .u64 t564] from (k66_mkM _ _ _ (⟨(⟨t559, t560, t561⟩ : S36), (⟨t562, t563, t564⟩ : S36)⟩ : S66) )) (Reps.none _ _))); intro v566 w129 ho130 hb hg_ hnew_; clear hg_ hnew_; (first | rw [← Ny565.out] at ho130 | (simp only [Int.reduceToNat] at ho130; rw [← Ny565.out] at ho130)); have HO567 := Aside0.mk (Kd.R_lower (Kd.R_new' ho130 (Kd.R_lt (zR HO558))) (below_size (zB HB))); replace HO558 := Aside0.mk (Kd.R_elder' (zR HO558) (Kd.R_base ho130) hb); replace HB := Aside0.mk (below_step (zB HB) hb); clear hb ho130; obtain ⟨Ao131, co131, eo131⟩ := Kd.R_slice HO567.out; subst eo131) | ((with_reducible refine gate_callee (f := 46) rfl ?_); refine goesL_ (some 14) rfl rfl Try.func46 (by kernel_rfl) rfl #[.slice Ao131 y565.length co131] rfl (by (try simp only [List.map_toArray, List.map_cons, List.map_nil]); first | done | rfl | (simp only [List.length_drop, List.length_take]; rfl)) ?_; (with_reducible refine (addrset_Prefixes.calls k _ _ y565 t568 _ ?side1 ?side2 A7.out).mono ?_); (case side1 => repeat (first | exact (Kd.R_reads' HO567.out).2.2 | (with_reducible refine Kd.C_alloc ?_ _) | (with_reducible refine Kd.C_drewN ?_ _) | (with_reducible refine Kd.C_drew ?_))); (case side2 => exact (Kd.R_reads' HO567.out).2.1); rintro e w132 ⟨v569, rfl, ho0, hb⟩; refine ⟨_, rfl, ?_⟩; replace HO558 := Aside0.mk (Kd.R_below (zR HO558) hb); replace HO567 := Aside0.mk (Kd.R_below (zR HO567) hb); have HO570 := Aside0.mk (Kd.R_lower ho0 (below_size (zB HB))); replace HB := Aside0.mk (below_step (zB HB) hb); (try clear hb); (try clear ho0)))
       replace HO558 := Aside0.mk (Kd.R_drew HO558.out)
       replace HO567 := Aside0.mk (Kd.R_drew HO567.out)
       replace HO570 := Aside0.mk (Kd.R_drew HO570.out)
       replace HB := Aside0.mk (below_drew1 HB.out)
       obtain ⟨Ao134, co134, eo134⟩ := Kd.R_slice HO558.out
       (first | subst eo134 | (injection eo134 with f1_ f2_ f3_; have f4_ := f1_.symm; have f5_ := f3_.symm; clear f1_ f2_ f3_; subst f4_; subst f5_))
       refine start_ (n := 39) (S := fun w' => True) (ds := []) #[false, false, false, false, false, false, false, false, false, false, false, false, false, false, false, false, false, false, false, false, false, false, false, false, false, false, false, false, false, false, false, false, false, false, false, false, false, false, false] (by kernel_rfl) rfl rfl trivial (fun hHeld => ?_); refine with_tabW intrusionlaw07_awake.tab3 intrusionlaw07_awake.bits3 (fun HT_ HW_ => ?_)
       generalize w132.drew = w133 at HO558 HO567 HO570 HB hHeld ⊢
       refine zp 0 15 HT_ ?_; refine zo 1 16 HT_ (fun K hK => ?_)
       refine zg Try.func38 #[.slice Ao134 y556.length co134] ?_
       with_reducible refine (addrset_Normal.calls k _ _ y556 t571 _ ?side1 ?side2 A8.out).mono ?_
       (case side1 => repeat (first | exact (Kd.R_reads' HO558.out).2.2 | (with_reducible refine Kd.C_alloc ?_ _) | (with_reducible refine Kd.C_drewN ?_ _) | (with_reducible refine Kd.C_drew ?_)))
       (case side2 => exact (Kd.R_reads' HO558.out).2.1)
       rintro e w135 ⟨v572, rfl, ho0, hb⟩
       refine ⟨_, rfl, ?_⟩
       replace HO570 := Aside0.mk (Kd.R_below (zR HO570) hb)
       have HO573 := Aside0.mk (Kd.R_lower (Kd.R_new' (Kd.R_new' ho0 (Kd.R_lt (zR HO558))) (Kd.R_lt (zR HO567))) (below_size (zB HB)))
       replace HO558 := Aside0.mk (Kd.R_elder' (zR HO558) (Kd.R_base ho0) hb)
       replace HO567 := Aside0.mk (Kd.R_elder' (zR HO567) (Kd.R_base ho0) hb)
       replace HB := Aside0.mk (below_step (zB HB) hb)
       (try clear hb)
       (try clear ho0)
       refine hK.out _ _ trivial (fun hHeld => ?_)
       clear hK K
       refine zn 16 ?_; refine zo 2 17 HT_ (fun K hK => ?_)
       refine zg Try.func70 #[.int .u64 1] ?_
       with_reducible refine (intrusionlaw07_ip.calls 1 t574 t575 t576 _ A9.out).mono ?_
       rintro e w136 ⟨rfl, hb⟩
       refine ⟨_, rfl, ?_⟩
       replace HO558 := Aside0.mk (Kd.R_below (zR HO558) hb)
       replace HO567 := Aside0.mk (Kd.R_below (zR HO567) hb)
       replace HO570 := Aside0.mk (Kd.R_below (zR HO570) hb)
       replace HO573 := Aside0.mk (Kd.R_below (zR HO573) hb)
       replace HB := Aside0.mk (below_step (zB HB) hb)
       (try clear hb)
       refine hK.out _ _ trivial (fun hHeld => ?_)
       clear hK K
       refine zn 17 ?_; refine zo 3 18 HT_ (fun K hK => ?_)
       refine zg Try.func70 #[.int .u64 3] ?_
       with_reducible refine (intrusionlaw07_ip.calls 3 t577 t578 t579 _ A10.out).mono ?_
       rintro e w137 ⟨rfl, hb⟩
       refine ⟨_, rfl, ?_⟩
       replace HO558 := Aside0.mk (Kd.R_below (zR HO558) hb)
       replace HO567 := Aside0.mk (Kd.R_below (zR HO567) hb)
       replace HO570 := Aside0.mk (Kd.R_below (zR HO570) hb)
       replace HO573 := Aside0.mk (Kd.R_below (zR HO573) hb)
       replace HB := Aside0.mk (below_step (zB HB) hb)
       (try clear hb)
       refine hK.out _ _ trivial (fun hHeld => ?_)
       clear hK K
       refine zn 18 ?_; refine zp 4 19 HT_ ?_; refine zo 5 20 HT_ (fun K hK => ?_)
       refine Kd.R_lit_step k66 _ 66 ?hg (N := 20) ?hd (xs := ([(⟨(⟨t574, t575, t576⟩ : S36), (⟨t577, t578, t579⟩ : S36)⟩ : S66)] : List (S66))) (inner := [.bool t574, .int .u64 t575, .int .u64 t576, .bool t577, .int .u64 t578, .int .u64 t579]) (ok := fun _ => True) (okp := fun _ => True) ?hr ?hp (fun _ hk => hk) trivial (Below.refl _ _) (Nat.le_refl _) (by simp) ?_; (case hd => rfl); (case hg => rfl); (case hr => first | (go_simp; done) | (go_simp; rfl)); (case hp => exact (Reps.c6 (show Kd.M k66 _ _ _ (⟨(⟨t574, t575, t576⟩ : S36), (⟨t577, t578, t579⟩ : S36)⟩ : S66) [.bool t574, .int .u64 t575, .int .u64 t576, .bool t577, .int .u64 t578, .int .u64 t579] from (k66_mkM _ _ _ (⟨(⟨t574, t575, t576⟩ : S36), (⟨t577, t578, t579⟩ : S36)⟩ : S66) )) (Reps.none _ _)))
       intro v581 w138 ho139 hb hg_ hnew_
       clear hg_ hnew_
       (first | rw [← Ny580.out] at ho139 | (simp only [Int.reduceToNat] at ho139; rw [← Ny580.out] at ho139))
       replace HO570 := Aside0.mk (Kd.R_below (zR HO570) hb)
       have HO582 := Aside0.mk (Kd.R_lower (Kd.R_new' (Kd.R_new' (Kd.R_new' ho139 (Kd.R_lt (zR HO558))) (Kd.R_lt (zR HO567))) (Kd.R_lt (zR HO573))) (below_size (zB HB)))
       replace HO558 := Aside0.mk (Kd.R_elder' (zR HO558) (Kd.R_base ho139) hb)
       replace HO567 := Aside0.mk (Kd.R_elder' (zR HO567) (Kd.R_base ho139) hb)
       replace HO573 := Aside0.mk (Kd.R_elder' (zR HO573) (Kd.R_base ho139) hb)
       replace HB := Aside0.mk (below_step (zB HB) hb)
       clear hb ho139
       obtain ⟨Ao140, co140, eo140⟩ := Kd.R_slice HO573.out
       (first | subst eo140 | (injection eo140 with f1_ f2_ f3_; have f4_ := f1_.symm; have f5_ := f3_.symm; clear f1_ f2_ f3_; subst f4_; subst f5_))
       obtain ⟨Ao141, co141, eo141⟩ := Kd.R_slice HO582.out
       (first | subst eo141 | (injection eo141 with f1_ f2_ f3_; have f4_ := f1_.symm; have f5_ := f3_.symm; clear f1_ f2_ f3_; subst f4_; subst f5_))
       refine hK.out _ _ trivial (fun hHeld => ?_)
       clear hK K
       refine zn 20 ?_; refine zo 6 21 HT_ (fun K hK => ?_)
       refine zg Try.func37 #[.slice Ao140 t571.length co140, .slice Ao141 y580.length co141] ?_
       with_reducible refine (intrusionref07_Same.calls k _ _ t571 _ _ y580 true _ ?side1 ?side2 ?side3 ?side4 A11.out).mono ?_
       (case side1 => repeat (first | exact (Kd.R_reads' HO573.out).2.2 | (with_reducible refine Kd.C_alloc ?_ _) | (with_reducible refine Kd.C_drewN ?_ _) | (with_reducible refine Kd.C_drew ?_)))
       (case side2 => exact (Kd.R_reads' HO573.out).2.1)
       (case side3 => repeat (first | exact (Kd.R_reads' HO582.out).2.2 | (with_reducible refine Kd.C_alloc ?_ _) | (with_reducible refine Kd.C_drewN ?_ _) | (with_reducible refine Kd.C_drew ?_)))
       (case side4 => exact (Kd.R_reads' HO582.out).2.1)
       rintro e w' ⟨rfl, ⟨nd, rfl⟩⟩
       refine ⟨_, rfl, ?_⟩
       refine hK.out _ _ trivial (fun hHeld => ?_)
       clear hK K
       refine zn 21 ?_; refine zp 7 22 HT_ ?_; refine zp 8 23 HT_ ?_; refine zo 9 24 HT_ (fun K hK => ?_)
       refine zg Try.func40 #[.slice Ao134 y556.length co134] ?_
       with_reducible refine (addrset_Valid.calls k _ _ y556 false _ ?side1 ?side2 A13.out).mono ?_
       (case side1 => repeat (first | exact (Kd.R_reads' HO558.out).2.2 | (with_reducible refine Kd.C_alloc ?_ _) | (with_reducible refine Kd.C_drewN ?_ _) | (with_reducible refine Kd.C_drew ?_)))
       (case side2 => exact (Kd.R_reads' HO558.out).2.1)
       rintro e w142 ⟨rfl, hb⟩
       refine ⟨_, rfl, ?_⟩
       replace HO558 := Aside0.mk (Kd.R_below (zR HO558) hb)
       replace HO567 := Aside0.mk (Kd.R_below (zR HO567) hb)
       replace HO570 := Aside0.mk (Kd.R_below (zR HO570) hb)
       replace HO573 := Aside0.mk (Kd.R_below (zR HO573) hb)
       replace HO582 := Aside0.mk (Kd.R_below (zR HO582) hb)
       replace HB := Aside0.mk (below_step (zB HB) hb)
       (try clear hb)
       obtain ⟨Ao143, co143, eo143⟩ := Kd.R_slice HO570.out
       (first | subst eo143 | (injection eo143 with f1_ f2_ f3_; have f4_ := f1_.symm; have f5_ := f3_.symm; clear f1_ f2_ f3_; subst f4_; subst f5_))
       refine hK.out _ _ trivial (fun hHeld => ?_)
       clear hK K
       refine zn 24 ?_; refine zp 10 25 HT_ ?_; refine zp 11 26 HT_ ?_; refine zp 12 27 HT_ ?_; refine zp 13 28 HT_ ?_; refine zp 14 29 HT_ ?_; refine zp 15 30 HT_ ?_; refine zp 16 31 HT_ ?_; refine zp 17 32 HT_ ?_; refine zu 18 33 HT_ ?_; refine zu 19 34 HT_ ?_; refine zu 20 35 HT_ ?_; refine zu 21 36 HT_ ?_; refine zu 22 37 HT_ ?_; refine zu 23 38 HT_ ?_; refine zp 24 39 HT_ ?_; refine zp 25 40 HT_ ?_; refine zu 26 41 HT_ ?_; refine zu 27 42 HT_ ?_; refine zu 28 43 HT_ ?_; refine zu 29 44 HT_ ?_; refine zu 30 45 HT_ ?_; refine zu 31 46 HT_ ?_; refine zp 32 47 HT_ ?_; refine zp 33 48 HT_ ?_; refine zu 34 49 HT_ ?_; refine zu 35 50 HT_ ?_; refine zu 36 51 HT_ ?_; refine zp 37 52 HT_ ?_; refine zp 38 0 HT_ ?_; refine zd HT_ ?_
       try go_wp2
       go_ret
       exact ⟨by first | rfl | (simp [errW_none, errW_some] <;> rfl) | (simp [*, errW_none, errW_some] <;> rfl), by repeat (first | (with_reducible first | exact HB.out | apply below_alloc | apply pw_below_drewN | apply below_drew1) | exact HB.out)⟩
 · replace c12 := Bool.eq_false_iff.mpr c12
   subst c12
   rw [if_neg zF] at H
   obtain rfl := Option.some.inj H
   go_enter Try.func36, Try.ntmps36
   try go_wp2_with (first | ((with_reducible refine gate_callee (f := 70) rfl ?_); refine goesL_ (some 3) rfl rfl Try.func70 (by kernel_rfl) rfl #[.int .u64 2] rfl (by (try simp only [List.map_toArray, List.map_cons, List.map_nil]); first | done | rfl | (simp only [List.length_drop, List.length_take]; rfl)) ?_; (with_reducible refine (intrusionlaw07_ip.calls 2 t544 t545 t546 _ A1.out).mono ?_); rintro e w144 ⟨rfl, hb⟩; refine ⟨_, rfl, ?_⟩; replace HB := Aside0.mk (below_step (zB HB) hb); (try clear hb)) | ((with_reducible refine gate_callee (f := 70) rfl ?_); refine goesL_ (some 4) rfl rfl Try.func70 (by kernel_rfl) rfl #[.int .u64 3] rfl (by (try simp only [List.map_toArray, List.map_cons, List.map_nil]); first | done | rfl | (simp only [List.length_drop, List.length_take]; rfl)) ?_; (with_reducible refine (intrusionlaw07_ip.calls 3 t547 t548 t549 _ A2.out).mono ?_); rintro e w145 ⟨rfl, hb⟩; refine ⟨_, rfl, ?_⟩; replace HB := Aside0.mk (below_step (zB HB) hb); (try clear hb)) | ((with_reducible refine gate_callee (f := 70) rfl ?_); refine goesL_ (some 6) rfl rfl Try.func70 (by kernel_rfl) rfl #[.int .u64 1] rfl (by (try simp only [List.map_toArray, List.map_cons, List.map_nil]); first | done | rfl | (simp only [List.length_drop, List.length_take]; rfl)) ?_; (with_reducible refine (intrusionlaw07_ip.calls 1 t550 t551 t552 _ A3.out).mono ?_); rintro e w146 ⟨rfl, hb⟩; refine ⟨_, rfl, ?_⟩; replace HB := Aside0.mk (below_step (zB HB) hb); (try clear hb)) | ((with_reducible refine gate_callee (f := 70) rfl ?_); refine goesL_ (some 7) rfl rfl Try.func70 (by kernel_rfl) rfl #[.int .u64 1] rfl (by (try simp only [List.map_toArray, List.map_cons, List.map_nil]); first | done | rfl | (simp only [List.length_drop, List.length_take]; rfl)) ?_; (with_reducible refine (intrusionlaw07_ip.calls 1 t553 t554 t555 _ A4.out).mono ?_); rintro e w147 ⟨rfl, hb⟩; refine ⟨_, rfl, ?_⟩; replace HB := Aside0.mk (below_step (zB HB) hb); (try clear hb)) | ((with_reducible refine gate_dst (N := 9) rfl ?_); (try (refine gate_guard (by rfl) ?_; dsimp only)); refine Kd.R_lit k66 _ 66 ?hg (N := 9) ?hd (xs := ([(⟨(⟨t544, t545, t546⟩ : S36), (⟨t547, t548, t549⟩ : S36)⟩ : S66), (⟨(⟨t550, t551, t552⟩ : S36), (⟨t553, t554, t555⟩ : S36)⟩ : S66)] : List (S66))) (inner := [.bool t544, .int .u64 t545, .int .u64 t546, .bool t547, .int .u64 t548, .int .u64 t549, .bool t550, .int .u64 t551, .int .u64 t552, .bool t553, .int .u64 t554, .int .u64 t555]) (ok := fun _ => True) (okp := fun _ => True) ?hr ?hp (fun _ hk => hk) trivial (Below.refl _ _) (Nat.le_refl _) (by simp) ?_; (case hd => rfl); (case hg => rfl); (case hr => first | (go_simp; done) | (go_simp; rfl)); (case hp => exact (Reps.c6 (show Kd.M k66 _ _ _ (⟨(⟨t544, t545, t546⟩ : S36), (⟨t547, t548, t549⟩ : S36)⟩ : S66) [.bool t544, .int .u64 t545, .int .u64 t546, .bool t547, .int .u64 t548, .int .u64 t549] from (k66_mkM _ _ _ (⟨(⟨t544, t545, t546⟩ : S36), (⟨t547, t548, t549⟩ : S36)⟩ : S66) )) (Reps.c6 (show Kd.M k66 _ _ _ (⟨(⟨t550, t551, t552⟩ : S36), (⟨t553, t554, t555⟩ : S36)⟩ : S66) [.bool t550, .int .u64 t551, .int .u64 t552, .bool t553, .int .u64 t554, .int .u64 t555] from (k66_mkM _ _ _ (⟨(⟨t550, t551, t552⟩ : S36), (⟨t553, t554, t555⟩ : S36)⟩ : S66) )) (Reps.none _ _)))); intro v557 w148 ho149 hb hg_ hnew_; clear hg_ hnew_; (first | rw [← Ny556.out] at ho149 | (simp only [Int.reduceToNat] at ho149; rw [← Ny556.out] at ho149)); have HO558 := Aside0.mk (Kd.R_lower ho149 (below_size (zB HB))); replace HB := Aside0.mk (below_step (zB HB) hb); clear hb ho149) | ((with_reducible refine gate_callee (f := 70) rfl ?_); refine goesL_ (some 10) rfl rfl Try.func70 (by kernel_rfl) rfl #[.int .u64 1] rfl (by (try simp only [List.map_toArray, List.map_cons, List.map_nil]); first | done | rfl | (simp only [List.length_drop, List.length_take]; rfl)) ?_; (with_reducible refine (intrusionlaw07_ip.calls 1 t559 t560 t561 _ A5.out).mono ?_); rintro e w150 ⟨rfl, hb⟩; refine ⟨_, rfl, ?_⟩; replace HO558 := Aside0.mk (Kd.R_below (zR HO558) hb); replace HB := Aside0.mk (below_step (zB HB) hb); (try clear hb)) | ((with_reducible refine gate_callee (f := 70) rfl ?_); refine goesL_ (some 11) rfl rfl Try.func70 (by kernel_rfl) rfl #[.int .u64 4] rfl (by (try simp only [List.map_toArray, List.map_cons, List.map_nil]); first | done | rfl | (simp only [List.length_drop, List.length_take]; rfl)) ?_; (with_reducible refine (intrusionlaw07_ip.calls 4 t562 t563 t564 _ A6.out).mono ?_); rintro e w151 ⟨rfl, hb⟩; refine ⟨_, rfl, ?_⟩; replace HO558 := Aside0.mk (Kd.R_below (zR HO558) hb); replace HB := Aside0.mk (below_step (zB HB) hb); (try clear hb)) | ((with_reducible refine gate_dst (N := 13) rfl ?_); (try (refine gate_guard (by rfl) ?_; dsimp only)); refine Kd.R_lit k66 _ 66 ?hg (N := 13) ?hd (xs := ([(⟨(⟨t559, t560, t561⟩ : S36), (⟨t562, t563, t564⟩ : S36)⟩ : S66)] : List (S66))) (inner := [.bool t559, .int .u64 t560, .int .u64 t561, .bool t562, .int .u64 t563, .int .u64 t564]) (ok := fun _ => True) (okp := fun _ => True) ?hr ?hp (fun _ hk => hk) trivial (Below.refl _ _) (Nat.le_refl _) (by simp) ?_; (case hd => rfl); (case hg => rfl); (case hr => first | (go_simp; done) | (go_simp; rfl)); (case hp => exact (Reps.c6 (show Kd.M k66 _ _ _ (⟨(⟨t559, t560, t561⟩ : S36), (⟨t562, t563, t564⟩ : S36)⟩ : S66) [.bool t559, .int .u64 t560, .int .u64 t561, .bool t562, .int .u64 t563, .int .u64 t564] from (k66_mkM _ _ _ (⟨(⟨t559, t560, t561⟩ : S36), (⟨t562, t563, t564⟩ : S36)⟩ : S66) )) (Reps.none _ _))); intro v566 w152 ho153 hb hg_ hnew_; clear hg_ hnew_; (first | rw [← Ny565.out] at ho153 | (simp only [Int.reduceToNat] at ho153; rw [← Ny565.out] at ho153)); have HO567 := Aside0.mk (Kd.R_lower (Kd.R_new' ho153 (Kd.R_lt (zR HO558))) (below_size (zB HB))); replace HO558 := Aside0.mk (Kd.R_elder' (zR HO558) (Kd.R_base ho153) hb); replace HB := Aside0.mk (below_step (zB HB) hb); clear hb ho153; obtain ⟨Ao154, co154, eo154⟩ := Kd.R_slice HO567.out; subst eo154) | ((with_reducible refine gate_callee (f := 46) rfl ?_); refine goesL_ (some 14) rfl rfl Try.func46 (by kernel_rfl) rfl #[.slice Ao154 y565.length co154] rfl (by (try simp only [List.map_toArray, List.map_cons, List.map_nil]); first | done | rfl | (simp only [List.length_drop, List.length_take]; rfl)) ?_; (with_reducible refine (addrset_Prefixes.calls k _ _ y565 t568 _ ?side1 ?side2 A7.out).mono ?_); (case side1 => repeat (first | exact (Kd.R_reads' HO567.out).2.2 | (with_reducible refine Kd.C_alloc ?_ _) | (with_reducible refine Kd.C_drewN ?_ _) | (with_reducible refine Kd.C_drew ?_))); (case side2 => exact (Kd.R_reads' HO567.out).2.1); rintro e w155 ⟨v569, rfl, ho0, hb⟩; refine ⟨_, rfl, ?_⟩; replace HO558 := Aside0.mk (Kd.R_below (zR HO558) hb); replace HO567 := Aside0.mk (Kd.R_below (zR HO567) hb); have HO570 := Aside0.mk (Kd.R_lower ho0 (below_size (zB HB))); replace HB := Aside0.mk (below_step (zB HB) hb); (try clear hb); (try clear ho0)))
   replace HO558 := Aside0.mk (Kd.R_drew HO558.out)
   replace HO567 := Aside0.mk (Kd.R_drew HO567.out)
   replace HO570 := Aside0.mk (Kd.R_drew HO570.out)
   replace HB := Aside0.mk (below_drew1 HB.out)
   obtain ⟨Ao157, co157, eo157⟩ := Kd.R_slice HO558.out
   (first | subst eo157 | (injection eo157 with f1_ f2_ f3_; have f4_ := f1_.symm; have f5_ := f3_.symm; clear f1_ f2_ f3_; subst f4_; subst f5_))
   refine start_ (n := 39) (S := fun w' => True) (ds := []) #[false, false, false, false, false, false, false, false, false, false, false, false, false, false, false, false, false, false, false, false, false, false, false, false, false, false, false, false, false, false, false, false, false, false, false, false, false, false, false] (by kernel_rfl) rfl rfl trivial (fun hHeld => ?_); refine with_tabW intrusionlaw07_awake.tab3 intrusionlaw07_awake.bits3 (fun HT_ HW_ => ?_)
   generalize w155.drew = w156 at HO558 HO567 HO570 HB hHeld ⊢
   refine zp 0 15 HT_ ?_; refine zo 1 16 HT_ (fun K hK => ?_)
   refine zg Try.func38 #[.slice Ao157 y556.length co157] ?_
   with_reducible refine (addrset_Normal.calls k _ _ y556 t571 _ ?side1 ?side2 A8.out).mono ?_
   (case side1 => repeat (first | exact (Kd.R_reads' HO558.out).2.2 | (with_reducible refine Kd.C_alloc ?_ _) | (with_reducible refine Kd.C_drewN ?_ _) | (with_reducible refine Kd.C_drew ?_)))
   (case side2 => exact (Kd.R_reads' HO558.out).2.1)
   rintro e w158 ⟨v572, rfl, ho0, hb⟩
   refine ⟨_, rfl, ?_⟩
   replace HO570 := Aside0.mk (Kd.R_below (zR HO570) hb)
   have HO573 := Aside0.mk (Kd.R_lower (Kd.R_new' (Kd.R_new' ho0 (Kd.R_lt (zR HO558))) (Kd.R_lt (zR HO567))) (below_size (zB HB)))
   replace HO558 := Aside0.mk (Kd.R_elder' (zR HO558) (Kd.R_base ho0) hb)
   replace HO567 := Aside0.mk (Kd.R_elder' (zR HO567) (Kd.R_base ho0) hb)
   replace HB := Aside0.mk (below_step (zB HB) hb)
   (try clear hb)
   (try clear ho0)
   refine hK.out _ _ trivial (fun hHeld => ?_)
   clear hK K
   refine zn 16 ?_; refine zo 2 17 HT_ (fun K hK => ?_)
   refine zg Try.func70 #[.int .u64 1] ?_
   with_reducible refine (intrusionlaw07_ip.calls 1 t574 t575 t576 _ A9.out).mono ?_
   rintro e w159 ⟨rfl, hb⟩
   refine ⟨_, rfl, ?_⟩
   replace HO558 := Aside0.mk (Kd.R_below (zR HO558) hb)
   replace HO567 := Aside0.mk (Kd.R_below (zR HO567) hb)
   replace HO570 := Aside0.mk (Kd.R_below (zR HO570) hb)
   replace HO573 := Aside0.mk (Kd.R_below (zR HO573) hb)
   replace HB := Aside0.mk (below_step (zB HB) hb)
   (try clear hb)
   refine hK.out _ _ trivial (fun hHeld => ?_)
   clear hK K
   refine zn 17 ?_; refine zo 3 18 HT_ (fun K hK => ?_)
   refine zg Try.func70 #[.int .u64 3] ?_
   with_reducible refine (intrusionlaw07_ip.calls 3 t577 t578 t579 _ A10.out).mono ?_
   rintro e w160 ⟨rfl, hb⟩
   refine ⟨_, rfl, ?_⟩
   replace HO558 := Aside0.mk (Kd.R_below (zR HO558) hb)
   replace HO567 := Aside0.mk (Kd.R_below (zR HO567) hb)
   replace HO570 := Aside0.mk (Kd.R_below (zR HO570) hb)
   replace HO573 := Aside0.mk (Kd.R_below (zR HO573) hb)
   replace HB := Aside0.mk (below_step (zB HB) hb)
   (try clear hb)
   refine hK.out _ _ trivial (fun hHeld => ?_)
   clear hK K
   refine zn 18 ?_; refine zp 4 19 HT_ ?_; refine zo 5 20 HT_ (fun K hK => ?_)
   refine Kd.R_lit_step k66 _ 66 ?hg (N := 20) ?hd (xs := ([(⟨(⟨t574, t575, t576⟩ : S36), (⟨t577, t578, t579⟩ : S36)⟩ : S66)] : List (S66))) (inner := [.bool t574, .int .u64 t575, .int .u64 t576, .bool t577, .int .u64 t578, .int .u64 t579]) (ok := fun _ => True) (okp := fun _ => True) ?hr ?hp (fun _ hk => hk) trivial (Below.refl _ _) (Nat.le_refl _) (by simp) ?_; (case hd => rfl); (case hg => rfl); (case hr => first | (go_simp; done) | (go_simp; rfl)); (case hp => exact (Reps.c6 (show Kd.M k66 _ _ _ (⟨(⟨t574, t575, t576⟩ : S36), (⟨t577, t578, t579⟩ : S36)⟩ : S66) [.bool t574, .int .u64 t575, .int .u64 t576, .bool t577, .int .u64 t578, .int .u64 t579] from (k66_mkM _ _ _ (⟨(⟨t574, t575, t576⟩ : S36), (⟨t577, t578, t579⟩ : S36)⟩ : S66) )) (Reps.none _ _)))
   intro v581 w161 ho162 hb hg_ hnew_
   clear hg_ hnew_
   (first | rw [← Ny580.out] at ho162 | (simp only [Int.reduceToNat] at ho162; rw [← Ny580.out] at ho162))
   replace HO570 := Aside0.mk (Kd.R_below (zR HO570) hb)
   have HO582 := Aside0.mk (Kd.R_lower (Kd.R_new' (Kd.R_new' (Kd.R_new' ho162 (Kd.R_lt (zR HO558))) (Kd.R_lt (zR HO567))) (Kd.R_lt (zR HO573))) (below_size (zB HB)))
   replace HO558 := Aside0.mk (Kd.R_elder' (zR HO558) (Kd.R_base ho162) hb)
   replace HO567 := Aside0.mk (Kd.R_elder' (zR HO567) (Kd.R_base ho162) hb)
   replace HO573 := Aside0.mk (Kd.R_elder' (zR HO573) (Kd.R_base ho162) hb)
   replace HB := Aside0.mk (below_step (zB HB) hb)
   clear hb ho162
   obtain ⟨Ao163, co163, eo163⟩ := Kd.R_slice HO573.out
   (first | subst eo163 | (injection eo163 with f1_ f2_ f3_; have f4_ := f1_.symm; have f5_ := f3_.symm; clear f1_ f2_ f3_; subst f4_; subst f5_))
   obtain ⟨Ao164, co164, eo164⟩ := Kd.R_slice HO582.out
   (first | subst eo164 | (injection eo164 with f1_ f2_ f3_; have f4_ := f1_.symm; have f5_ := f3_.symm; clear f1_ f2_ f3_; subst f4_; subst f5_))
   refine hK.out _ _ trivial (fun hHeld => ?_)
   clear hK K
   refine zn 20 ?_; refine zo 6 21 HT_ (fun K hK => ?_)
   refine zg Try.func37 #[.slice Ao163 t571.length co163, .slice Ao164 y580.length co164] ?_
   with_reducible refine (intrusionref07_Same.calls k _ _ t571 _ _ y580 false _ ?side1 ?side2 ?side3 ?side4 A11.out).mono ?_
   (case side1 => repeat (first | exact (Kd.R_reads' HO573.out).2.2 | (with_reducible refine Kd.C_alloc ?_ _) | (with_reducible refine Kd.C_drewN ?_ _) | (with_reducible refine Kd.C_drew ?_)))
   (case side2 => exact (Kd.R_reads' HO573.out).2.1)
   (case side3 => repeat (first | exact (Kd.R_reads' HO582.out).2.2 | (with_reducible refine Kd.C_alloc ?_ _) | (with_reducible refine Kd.C_drewN ?_ _) | (with_reducible refine Kd.C_drew ?_)))
   (case side4 => exact (Kd.R_reads' HO582.out).2.1)
   rintro e w' ⟨rfl, ⟨nd, rfl⟩⟩
   refine ⟨_, rfl, ?_⟩
   refine hK.out _ _ trivial (fun hHeld => ?_)
   clear hK K
   refine zn 21 ?_; refine zp 7 22 HT_ ?_; refine zu 8 23 HT_ ?_; refine zu 9 24 HT_ ?_; refine zu 10 25 HT_ ?_; refine zp 11 26 HT_ ?_; refine zp 12 27 HT_ ?_; refine zu 13 28 HT_ ?_; refine zu 14 29 HT_ ?_; refine zu 15 30 HT_ ?_; refine zp 16 31 HT_ ?_; refine zp 17 32 HT_ ?_; refine zu 18 33 HT_ ?_; refine zu 19 34 HT_ ?_; refine zu 20 35 HT_ ?_; refine zu 21 36 HT_ ?_; refine zu 22 37 HT_ ?_; refine zu 23 38 HT_ ?_; refine zp 24 39 HT_ ?_; refine zp 25 40 HT_ ?_; refine zu 26 41 HT_ ?_; refine zu 27 42 HT_ ?_; refine zu 28 43 HT_ ?_; refine zu 29 44 HT_ ?_; refine zu 30 45 HT_ ?_; refine zu 31 46 HT_ ?_; refine zp 32 47 HT_ ?_; refine zp 33 48 HT_ ?_; refine zu 34 49 HT_ ?_; refine zu 35 50 HT_ ?_; refine zu 36 51 HT_ ?_; refine zp 37 52 HT_ ?_; refine zp 38 0 HT_ ?_; refine zd HT_ ?_
   try go_wp2
   go_ret
   exact ⟨by first | rfl | (simp [errW_none, errW_some] <;> rfl) | (simp [*, errW_none, errW_some] <;> rfl), by repeat (first | (with_reducible first | exact HB.out | apply below_alloc | apply pw_below_drewN | apply below_drew1) | exact HB.out)⟩
end Go.Proofs.Ytcgfpffgiimgmaa.Q
end

section
namespace Go.Proofs.Ytcgfpffgiimgmaa.Q
open Go.RowKit Go.Proofs.YtcgfpffgiimgmaaW.PrintWords Go.Proofs.YtcgfpffgiimgmaaW.PrintLast Go.Proofs.YtcgfpffgiimgmaaW.PrintMore
attribute [local go_sem] max2_int min2_int max_two min_two max_three min_three max_four min_four
set_option linter.unusedVariables false
set_option linter.unusedSimpArgs false
def intrusionref07_Before.f (a0_0 : Bool) (a0_1 : Int) (a0_2 : Int) (a1_0 : Bool) (a1_1 : Int) (a1_2 : Int) : Option (Bool) := if (a0_0 != a1_0) = true then (some a1_0) else (if a0_1 = a1_1 then (some (decide (a0_2 < a1_2))) else (some (decide (a0_1 < a1_1))))
set_option maxHeartbeats 8000000 in
set_option maxRecDepth 100000 in
theorem intrusionref07_Before.calls (a0_0 : Bool) (a0_1 : Int) (a0_2 : Int) (a1_0 : Bool) (a1_1 : Int) (a1_2 : Int) (r : Bool) (w : World) (h : intrusionref07_Before.f a0_0 a0_1 a0_2 a1_0 a1_1 a1_2 = some r) :
 Calls Try.prog 80 #[.agg #[.bool a0_0, .int .u64 a0_1, .int .u64 a0_2], .agg #[.bool a1_0, .int .u64 a1_1, .int .u64 a1_2]] w fun e w' => e = .returned (.bool r) ∧ Below w.heap.size w w' := by
 have hu36 := Try.underlying36
 have HB := Aside0.mk (Below.refl w.heap.size w)
 unfold intrusionref07_Before.f at h; have H := h
 clear h
 by_cases c3 : (a0_0 != a1_0) = true
 · rw [if_pos c3] at H
   have c3b0 : (a0_0 != a1_0) = true := c3
   (try (have c3b1 : decide (a0_0 = a1_0) = false := by first | (simpa using c3) | exact decide_eq_true (Decidable.not_not.1 (fun hn => c3 (bne_iff_ne.2 hn))) | exact beq_iff_eq.2 (Decidable.not_not.1 (fun hn => c3 (bne_iff_ne.2 hn))) | exact decide_eq_false (bne_iff_ne.1 c3) | exact beq_eq_false_iff_ne.2 (bne_iff_ne.1 c3) | exact bne_iff_ne.1 c3))
   (try (have c3b2 : (a0_0 == a1_0) = false := by first | (simpa using c3) | exact decide_eq_true (Decidable.not_not.1 (fun hn => c3 (bne_iff_ne.2 hn))) | exact beq_iff_eq.2 (Decidable.not_not.1 (fun hn => c3 (bne_iff_ne.2 hn))) | exact decide_eq_false (bne_iff_ne.1 c3) | exact beq_eq_false_iff_ne.2 (bne_iff_ne.1 c3) | exact bne_iff_ne.1 c3))
   (try (have c3b3 : ¬ (a0_0 = a1_0) := by first | (simpa using c3) | exact decide_eq_true (Decidable.not_not.1 (fun hn => c3 (bne_iff_ne.2 hn))) | exact beq_iff_eq.2 (Decidable.not_not.1 (fun hn => c3 (bne_iff_ne.2 hn))) | exact decide_eq_false (bne_iff_ne.1 c3) | exact beq_eq_false_iff_ne.2 (bne_iff_ne.1 c3) | exact bne_iff_ne.1 c3))
   clear c3
   obtain rfl := Option.some.inj H
   go_enter Try.func80, Try.ntmps80
   go_wp2_with (first | ((with_reducible refine gate_dst (N := 2) rfl ?_); refine zx 2 #[.bool a0_0, .int .u64 a0_1, .int .u64 a0_2] 36 ?_; intro gb596 hg w4 hbox hb; have BK596 := Aside0.mk (hbox); have GW596 := Aside0.mk ((by rw [hg]; exact (below_size (zB HB)) : w.heap.size ≤ gb596)); have GE596 := Aside0.mk ((by rw [hg]; exact (below_size (zB HB)) : w.heap.size ≤ gb596)); replace HB := Aside0.mk (below_step (zB HB) hb); clear hb hbox hg) | ((with_reducible refine gate_dst (N := 3) rfl ?_); refine zx 3 #[.bool a1_0, .int .u64 a1_1, .int .u64 a1_2] 36 ?_; intro gb597 hg w5 hbox hb; have BK597 := Aside0.mk (hbox); have GW597 := Aside0.mk ((by rw [hg]; exact (below_size (zB HB)) : w.heap.size ≤ gb597)); have GE597 := Aside0.mk ((by rw [hg]; exact (below_size (zB HB)) : w.heap.size ≤ gb597)); replace HB := Aside0.mk (below_step (zB HB) hb); have NB596_597 := Aside0.mk ((by rw [hg]; exact Nat.ne_of_lt (blk_lt (g := gb596) (o := .cells #[.bool a0_0, .int .u64 a0_1, .int .u64 a0_2] 36 (0, 0)) (zK BK596)) : gb596 ≠ gb597)); have NB597_596 := Aside0.mk ((by rw [hg]; exact Nat.ne_of_gt (blk_lt (g := gb596) (o := .cells #[.bool a0_0, .int .u64 a0_1, .int .u64 a0_2] 36 (0, 0)) (zK BK596)) : gb597 ≠ gb596)); replace BK596 := Aside0.mk (blk_below (g := gb596) (o := .cells #[.bool a0_0, .int .u64 a0_1, .int .u64 a0_2] 36 (0, 0)) (zK BK596) hb); clear hb hbox hg; have hnb6 := NB596_597.out; have hnc6 := NB597_596.out; obtain ⟨hcz7_0, hcz7_1, hcz7_2⟩ := zc3 BK596; obtain ⟨hfz7_0, hfz7_1, hfz7_2⟩ := zf3 BK596; obtain ⟨hcz8_0, hcz8_1, hcz8_2⟩ := zc3 BK597; obtain ⟨hfz8_0, hfz8_1, hfz8_2⟩ := zf3 BK597))
   go_ret
   exact ⟨by first | rfl | (simp [errW_none, errW_some] <;> rfl) | (simp [*, errW_none, errW_some] <;> rfl), by repeat (first | (with_reducible first | exact HB.out | apply below_alloc | apply pw_below_drewN | apply below_drew1 | refine below_set ?_ GE596.out | refine below_set ?_ GE597.out) | exact HB.out)⟩
 · rw [if_neg c3] at H
   have c3b0 : (a0_0 != a1_0) = false := by simpa using c3
   (try (have c3b1 : decide (a0_0 = a1_0) = true := by first | (simpa using c3) | exact decide_eq_true (Decidable.not_not.1 (fun hn => c3 (bne_iff_ne.2 hn))) | exact beq_iff_eq.2 (Decidable.not_not.1 (fun hn => c3 (bne_iff_ne.2 hn))) | exact decide_eq_false (bne_iff_ne.1 c3) | exact beq_eq_false_iff_ne.2 (bne_iff_ne.1 c3) | exact bne_iff_ne.1 c3))
   (try (have c3b2 : (a0_0 == a1_0) = true := by first | (simpa using c3) | exact decide_eq_true (Decidable.not_not.1 (fun hn => c3 (bne_iff_ne.2 hn))) | exact beq_iff_eq.2 (Decidable.not_not.1 (fun hn => c3 (bne_iff_ne.2 hn))) | exact decide_eq_false (bne_iff_ne.1 c3) | exact beq_eq_false_iff_ne.2 (bne_iff_ne.1 c3) | exact bne_iff_ne.1 c3))
   clear c3
   by_cases c9 : a0_1 = a1_1
   · rw [if_pos c9] at H
     have c9b0 : (a0_1 == a1_1) = true := beq_iff_eq.mpr c9
     have c9b1 : (a0_1 != a1_1) = false := bne_eq_false_iff_eq.mpr c9
     clear c9
     obtain rfl := Option.some.inj H
     go_enter Try.func80, Try.ntmps80
     go_wp2_with (first | ((with_reducible refine gate_dst (N := 2) rfl ?_); refine zx 2 #[.bool a0_0, .int .u64 a0_1, .int .u64 a0_2] 36 ?_; intro gb596 hg w10 hbox hb; have BK596 := Aside0.mk (hbox); have GW596 := Aside0.mk ((by rw [hg]; exact (below_size (zB HB)) : w.heap.size ≤ gb596)); have GE596 := Aside0.mk ((by rw [hg]; exact (below_size (zB HB)) : w.heap.size ≤ gb596)); replace HB := Aside0.mk (below_step (zB HB) hb); clear hb hbox hg) | ((with_reducible refine gate_dst (N := 3) rfl ?_); refine zx 3 #[.bool a1_0, .int .u64 a1_1, .int .u64 a1_2] 36 ?_; intro gb597 hg w11 hbox hb; have BK597 := Aside0.mk (hbox); have GW597 := Aside0.mk ((by rw [hg]; exact (below_size (zB HB)) : w.heap.size ≤ gb597)); have GE597 := Aside0.mk ((by rw [hg]; exact (below_size (zB HB)) : w.heap.size ≤ gb597)); replace HB := Aside0.mk (below_step (zB HB) hb); have NB596_597 := Aside0.mk ((by rw [hg]; exact Nat.ne_of_lt (blk_lt (g := gb596) (o := .cells #[.bool a0_0, .int .u64 a0_1, .int .u64 a0_2] 36 (0, 0)) (zK BK596)) : gb596 ≠ gb597)); have NB597_596 := Aside0.mk ((by rw [hg]; exact Nat.ne_of_gt (blk_lt (g := gb596) (o := .cells #[.bool a0_0, .int .u64 a0_1, .int .u64 a0_2] 36 (0, 0)) (zK BK596)) : gb597 ≠ gb596)); replace BK596 := Aside0.mk (blk_below (g := gb596) (o := .cells #[.bool a0_0, .int .u64 a0_1, .int .u64 a0_2] 36 (0, 0)) (zK BK596) hb); clear hb hbox hg; have hnb12 := NB596_597.out; have hnc12 := NB597_596.out; obtain ⟨hcz13_0, hcz13_1, hcz13_2⟩ := zc3 BK596; obtain ⟨hfz13_0, hfz13_1, hfz13_2⟩ := zf3 BK596; obtain ⟨hcz14_0, hcz14_1, hcz14_2⟩ := zc3 BK597; obtain ⟨hfz14_0, hfz14_1, hfz14_2⟩ := zf3 BK597))
     go_ret
     exact ⟨by first | rfl | (simp [errW_none, errW_some] <;> rfl) | (simp [*, errW_none, errW_some] <;> rfl), by repeat (first | (with_reducible first | exact HB.out | apply below_alloc | apply pw_below_drewN | apply below_drew1 | refine below_set ?_ GE596.out | refine below_set ?_ GE597.out) | exact HB.out)⟩
   · rw [if_neg c9] at H
     have c9b0 : (a0_1 == a1_1) = false := beq_eq_false_iff_ne.mpr c9
     have c9b1 : (a0_1 != a1_1) = true := bne_iff_ne.mpr c9
     obtain rfl := Option.some.inj H
     go_enter Try.func80, Try.ntmps80
     go_wp2_with (first | ((with_reducible refine gate_dst (N := 2) rfl ?_); refine zx 2 #[.bool a0_0, .int .u64 a0_1, .int .u64 a0_2] 36 ?_; intro gb596 hg w15 hbox hb; have BK596 := Aside0.mk (hbox); have GW596 := Aside0.mk ((by rw [hg]; exact (below_size (zB HB)) : w.heap.size ≤ gb596)); have GE596 := Aside0.mk ((by rw [hg]; exact (below_size (zB HB)) : w.heap.size ≤ gb596)); replace HB := Aside0.mk (below_step (zB HB) hb); clear hb hbox hg) | ((with_reducible refine gate_dst (N := 3) rfl ?_); refine zx 3 #[.bool a1_0, .int .u64 a1_1, .int .u64 a1_2] 36 ?_; intro gb597 hg w16 hbox hb; have BK597 := Aside0.mk (hbox); have GW597 := Aside0.mk ((by rw [hg]; exact (below_size (zB HB)) : w.heap.size ≤ gb597)); have GE597 := Aside0.mk ((by rw [hg]; exact (below_size (zB HB)) : w.heap.size ≤ gb597)); replace HB := Aside0.mk (below_step (zB HB) hb); have NB596_597 := Aside0.mk ((by rw [hg]; exact Nat.ne_of_lt (blk_lt (g := gb596) (o := .cells #[.bool a0_0, .int .u64 a0_1, .int .u64 a0_2] 36 (0, 0)) (zK BK596)) : gb596 ≠ gb597)); have NB597_596 := Aside0.mk ((by rw [hg]; exact Nat.ne_of_gt (blk_lt (g := gb596) (o := .cells #[.bool a0_0, .int .u64 a0_1, .int .u64 a0_2] 36 (0, 0)) (zK BK596)) : gb597 ≠ gb596)); replace BK596 := Aside0.mk (blk_below (g := gb596) (o := .cells #[.bool a0_0, .int .u64 a0_1, .int .u64 a0_2] 36 (0, 0)) (zK BK596) hb); clear hb hbox hg; have hnb17 := NB596_597.out; have hnc17 := NB597_596.out; obtain ⟨hcz18_0, hcz18_1, hcz18_2⟩ := zc3 BK596; obtain ⟨hfz18_0, hfz18_1, hfz18_2⟩ := zf3 BK596; obtain ⟨hcz19_0, hcz19_1, hcz19_2⟩ := zc3 BK597; obtain ⟨hfz19_0, hfz19_1, hfz19_2⟩ := zf3 BK597))
     go_ret
     exact ⟨by first | rfl | (simp [errW_none, errW_some] <;> rfl) | (simp [*, errW_none, errW_some] <;> rfl), by repeat (first | (with_reducible first | exact HB.out | apply below_alloc | apply pw_below_drewN | apply below_drew1 | refine below_set ?_ GE596.out | refine below_set ?_ GE597.out) | exact HB.out)⟩
end Go.Proofs.Ytcgfpffgiimgmaa.Q
end

section
namespace Go.Proofs.Ytcgfpffgiimgmaa.Q
open Go.RowKit Go.Proofs.YtcgfpffgiimgmaaW.PrintWords Go.Proofs.YtcgfpffgiimgmaaW.PrintLast Go.Proofs.YtcgfpffgiimgmaaW.PrintMore
attribute [local go_sem] max2_int min2_int max_two min_two max_three min_three max_four min_four
set_option linter.unusedVariables false
set_option linter.unusedSimpArgs false
def intrusionref07_Fine.f (a0_0 : Bool) (a0_1 : Int) (a0_2 : Int) : Option (Bool) := if a0_0 = true then (some true) else (if a0_1 = 0 then (some (decide (a0_2 < 4294967296))) else (some false))
set_option maxHeartbeats 8000000 in
set_option maxRecDepth 100000 in
theorem intrusionref07_Fine.calls (a0_0 : Bool) (a0_1 : Int) (a0_2 : Int) (r : Bool) (w : World) (h : intrusionref07_Fine.f a0_0 a0_1 a0_2 = some r) :
 Calls Try.prog 85 #[.agg #[.bool a0_0, .int .u64 a0_1, .int .u64 a0_2]] w fun e w' => e = .returned (.bool r) ∧ Below w.heap.size w w' := by
 have hu36 := Try.underlying36
 have HB := Aside0.mk (Below.refl w.heap.size w)
 unfold intrusionref07_Fine.f at h; have H := h
 clear h
 by_cases c2 : a0_0 = true
 · subst c2
   rw [if_pos rfl] at H
   obtain rfl := Option.some.inj H
   go_enter Try.func85, Try.ntmps85
   go_wp2_with (first | ((with_reducible refine gate_dst (N := 1) rfl ?_); refine zx 1 #[.bool true, .int .u64 a0_1, .int .u64 a0_2] 36 ?_; intro gb598 hg w3 hbox hb; have BK598 := Aside0.mk (hbox); have GW598 := Aside0.mk ((by rw [hg]; exact (below_size (zB HB)) : w.heap.size ≤ gb598)); have GE598 := Aside0.mk ((by rw [hg]; exact (below_size (zB HB)) : w.heap.size ≤ gb598)); replace HB := Aside0.mk (below_step (zB HB) hb); clear hb hbox hg; obtain ⟨hcz4_0, hcz4_1, hcz4_2⟩ := zc3 BK598; obtain ⟨hfz4_0, hfz4_1, hfz4_2⟩ := zf3 BK598))
   go_ret
   exact ⟨by first | rfl | (simp [errW_none, errW_some] <;> rfl) | (simp [*, errW_none, errW_some] <;> rfl), by repeat (first | (with_reducible first | exact HB.out | apply below_alloc | apply pw_below_drewN | apply below_drew1 | refine below_set ?_ GE598.out) | exact HB.out)⟩
 · replace c2 := Bool.eq_false_iff.mpr c2
   subst c2
   rw [if_neg zF] at H
   by_cases c5 : a0_1 = 0
   · rw [if_pos c5] at H
     have c5b0 : (a0_1 == 0) = true := beq_iff_eq.mpr c5
     have c5b1 : (a0_1 != 0) = false := bne_eq_false_iff_eq.mpr c5
     clear c5
     obtain rfl := Option.some.inj H
     go_enter Try.func85, Try.ntmps85
     go_wp2_with (first | ((with_reducible refine gate_dst (N := 1) rfl ?_); refine zx 1 #[.bool false, .int .u64 a0_1, .int .u64 a0_2] 36 ?_; intro gb598 hg w6 hbox hb; have BK598 := Aside0.mk (hbox); have GW598 := Aside0.mk ((by rw [hg]; exact (below_size (zB HB)) : w.heap.size ≤ gb598)); have GE598 := Aside0.mk ((by rw [hg]; exact (below_size (zB HB)) : w.heap.size ≤ gb598)); replace HB := Aside0.mk (below_step (zB HB) hb); clear hb hbox hg; obtain ⟨hcz7_0, hcz7_1, hcz7_2⟩ := zc3 BK598; obtain ⟨hfz7_0, hfz7_1, hfz7_2⟩ := zf3 BK598))
     go_ret
     exact ⟨by first | rfl | (simp [errW_none, errW_some] <;> rfl) | (simp [*, errW_none, errW_some] <;> rfl), by repeat (first | (with_reducible first | exact HB.out | apply below_alloc | apply pw_below_drewN | apply below_drew1 | refine below_set ?_ GE598.out) | exact HB.out)⟩
   · rw [if_neg c5] at H
     have c5b0 : (a0_1 == 0) = false := beq_eq_false_iff_ne.mpr c5
     have c5b1 : (a0_1 != 0) = true := bne_iff_ne.mpr c5
     obtain rfl := Option.some.inj H
     go_enter Try.func85, Try.ntmps85
     go_wp2_with (first | ((with_reducible refine gate_dst (N := 1) rfl ?_); refine zx 1 #[.bool false, .int .u64 a0_1, .int .u64 a0_2] 36 ?_; intro gb598 hg w8 hbox hb; have BK598 := Aside0.mk (hbox); have GW598 := Aside0.mk ((by rw [hg]; exact (below_size (zB HB)) : w.heap.size ≤ gb598)); have GE598 := Aside0.mk ((by rw [hg]; exact (below_size (zB HB)) : w.heap.size ≤ gb598)); replace HB := Aside0.mk (below_step (zB HB) hb); clear hb hbox hg; obtain ⟨hcz9_0, hcz9_1, hcz9_2⟩ := zc3 BK598; obtain ⟨hfz9_0, hfz9_1, hfz9_2⟩ := zf3 BK598))
     go_ret
     exact ⟨by first | rfl | (simp [errW_none, errW_some] <;> rfl) | (simp [*, errW_none, errW_some] <;> rfl), by repeat (first | (with_reducible first | exact HB.out | apply below_alloc | apply pw_below_drewN | apply below_drew1 | refine below_set ?_ GE598.out) | exact HB.out)⟩
end Go.Proofs.Ytcgfpffgiimgmaa.Q
end

section
namespace Go.Proofs.Ytcgfpffgiimgmaa.Q
open Go.RowKit Go.Proofs.YtcgfpffgiimgmaaW.PrintWords Go.Proofs.YtcgfpffgiimgmaaW.PrintLast Go.Proofs.YtcgfpffgiimgmaaW.PrintMore
attribute [local go_sem] max2_int min2_int max_two min_two max_three min_three max_four min_four
set_option linter.unusedVariables false
set_option linter.unusedSimpArgs false
def intrusionref07_Some.f (a0_0 : Bool) (a0_1 : Int) (a0_2 : Int) (a0_3 : Bool) (a0_4 : Int) (a0_5 : Int) : Option (Bool) := (intrusionref07_Fine.f a0_0 a0_1 a0_2).bind fun t600 => (if t600 = true then ((intrusionref07_Fine.f a0_3 a0_4 a0_5).bind fun t601 => (if t601 = true then (if (a0_0 == a0_3) = true then ((intrusionref07_Before.f a0_3 a0_4 a0_5 a0_0 a0_1 a0_2).bind fun t602 => (some (!t602))) else (some false)) else (some false))) else (some false))
set_option maxHeartbeats 8000000 in
set_option maxRecDepth 100000 in
theorem intrusionref07_Some.calls (a0_0 : Bool) (a0_1 : Int) (a0_2 : Int) (a0_3 : Bool) (a0_4 : Int) (a0_5 : Int) (r : Bool) (w : World) (h : intrusionref07_Some.f a0_0 a0_1 a0_2 a0_3 a0_4 a0_5 = some r) :
 Calls Try.prog 78 #[.agg #[.bool a0_0, .int .u64 a0_1, .int .u64 a0_2, .bool a0_3, .int .u64 a0_4, .int .u64 a0_5]] w fun e w' => e = .returned (.bool r) ∧ Below w.heap.size w w' := by
 have hu66 := Try.underlying66
 have hu36 := Try.underlying36
 have HB := Aside0.mk (Below.refl w.heap.size w)
 unfold intrusionref07_Some.f at h; have H := h
 clear h
 replace H := Option.bind_eq_some_iff.mp H
 obtain ⟨t600, A20, H⟩ := H
 try dsimp only at H
 have A2 := Aside0.mk A20
 clear A20
 by_cases c3 : t600 = true
 · subst c3
   rw [if_pos rfl] at H
   replace H := Option.bind_eq_some_iff.mp H
   obtain ⟨t601, A40, H⟩ := H
   try dsimp only at H
   have A4 := Aside0.mk A40
   clear A40
   by_cases c5 : t601 = true
   · subst c5
     rw [if_pos rfl] at H
     by_cases c6 : (a0_0 == a0_3) = true
     · rw [if_pos c6] at H
       have c6b0 : (a0_0 == a0_3) = true := c6
       (try (have c6b1 : decide (a0_0 = a0_3) = true := by first | (simpa using c6) | exact decide_eq_true (Decidable.not_not.1 (fun hn => c6 (bne_iff_ne.2 hn))) | exact beq_iff_eq.2 (Decidable.not_not.1 (fun hn => c6 (bne_iff_ne.2 hn))) | exact decide_eq_false (bne_iff_ne.1 c6) | exact beq_eq_false_iff_ne.2 (bne_iff_ne.1 c6) | exact bne_iff_ne.1 c6))
       (try (have c6b2 : (a0_0 == a0_3) = true := by first | (simpa using c6) | exact decide_eq_true (Decidable.not_not.1 (fun hn => c6 (bne_iff_ne.2 hn))) | exact beq_iff_eq.2 (Decidable.not_not.1 (fun hn => c6 (bne_iff_ne.2 hn))) | exact decide_eq_false (bne_iff_ne.1 c6) | exact beq_eq_false_iff_ne.2 (bne_iff_ne.1 c6) | exact bne_iff_ne.1 c6))
       clear c6
       replace H := Option.bind_eq_some_iff.mp H
       obtain ⟨t602, A70, H⟩ := H
       try dsimp only at H
       have A7 := Aside0.mk A70
       clear A70
       obtain rfl := Option.some.inj H
       go_enter Try.func78, Try.ntmps78
       go_wp2_with (first | ((with_reducible refine gate_dst (N := 1) rfl ?_); refine zx 1 #[.bool a0_0, .int .u64 a0_1, .int .u64 a0_2, .bool a0_3, .int .u64 a0_4, .int .u64 a0_5] 66 ?_; intro gb599 hg w8 hbox hb; have BK599 := Aside0.mk (hbox); have GW599 := Aside0.mk ((by rw [hg]; exact (below_size (zB HB)) : w.heap.size ≤ gb599)); have GE599 := Aside0.mk ((by rw [hg]; exact (below_size (zB HB)) : w.heap.size ≤ gb599)); replace HB := Aside0.mk (below_step (zB HB) hb); clear hb hbox hg; obtain ⟨hcz9_0, hcz9_1, hcz9_2, hcz9_3, hcz9_4, hcz9_5⟩ := zc6 BK599; obtain ⟨hfz9_0, hfz9_1, hfz9_2, hfz9_3, hfz9_4, hfz9_5⟩ := zf6 BK599) | ((with_reducible refine gate_callee (f := 85) rfl ?_); refine goesL_ (some 5) rfl rfl Try.func85 (by kernel_rfl) rfl #[.agg #[.bool a0_0, .int .u64 a0_1, .int .u64 a0_2]] rfl (by (try simp only [List.map_toArray, List.map_cons, List.map_nil]); first | done | rfl | (simp only [List.length_drop, List.length_take]; rfl)) ?_; (with_reducible refine (intrusionref07_Fine.calls a0_0 a0_1 a0_2 true _ A2.out).mono ?_); rintro e w10 ⟨rfl, hb⟩; refine ⟨_, rfl, ?_⟩; replace BK599 := Aside0.mk (blk_below (g := gb599) (o := .cells #[.bool a0_0, .int .u64 a0_1, .int .u64 a0_2, .bool a0_3, .int .u64 a0_4, .int .u64 a0_5] 66 (0, 0)) (zK BK599) hb); replace HB := Aside0.mk (below_step (zB HB) hb); (try clear hb); obtain ⟨hcz11_0, hcz11_1, hcz11_2, hcz11_3, hcz11_4, hcz11_5⟩ := zc6 BK599; obtain ⟨hfz11_0, hfz11_1, hfz11_2, hfz11_3, hfz11_4, hfz11_5⟩ := zf6 BK599) | (go_at_call 85; (with_reducible refine (intrusionref07_Fine.calls a0_3 a0_4 a0_5 true _ A4.out).mono ?_); rintro e w12 ⟨rfl, hb⟩; replace BK599 := Aside0.mk (blk_below (g := gb599) (o := .cells #[.bool a0_0, .int .u64 a0_1, .int .u64 a0_2, .bool a0_3, .int .u64 a0_4, .int .u64 a0_5] 66 (0, 0)) (zK BK599) hb); replace HB := Aside0.mk (below_step (zB HB) hb); (try clear hb); obtain ⟨hcz13_0, hcz13_1, hcz13_2, hcz13_3, hcz13_4, hcz13_5⟩ := zc6 BK599; obtain ⟨hfz13_0, hfz13_1, hfz13_2, hfz13_3, hfz13_4, hfz13_5⟩ := zf6 BK599) | (go_at_call 80; (with_reducible refine (intrusionref07_Before.calls a0_3 a0_4 a0_5 a0_0 a0_1 a0_2 t602 _ A7.out).mono ?_); rintro e w14 ⟨rfl, hb⟩; replace BK599 := Aside0.mk (blk_below (g := gb599) (o := .cells #[.bool a0_0, .int .u64 a0_1, .int .u64 a0_2, .bool a0_3, .int .u64 a0_4, .int .u64 a0_5] 66 (0, 0)) (zK BK599) hb); replace HB := Aside0.mk (below_step (zB HB) hb); (try clear hb)))
       go_ret
       exact ⟨by first | rfl | (simp [errW_none, errW_some] <;> rfl) | (simp [*, errW_none, errW_some] <;> rfl), by repeat (first | (with_reducible first | exact HB.out | apply below_alloc | apply pw_below_drewN | apply below_drew1 | refine below_set ?_ GE599.out) | exact HB.out)⟩
     · rw [if_neg c6] at H
       have c6b0 : (a0_0 == a0_3) = false := by simpa using c6
       (try (have c6b1 : decide (a0_0 = a0_3) = false := by first | (simpa using c6) | exact decide_eq_true (Decidable.not_not.1 (fun hn => c6 (bne_iff_ne.2 hn))) | exact beq_iff_eq.2 (Decidable.not_not.1 (fun hn => c6 (bne_iff_ne.2 hn))) | exact decide_eq_false (bne_iff_ne.1 c6) | exact beq_eq_false_iff_ne.2 (bne_iff_ne.1 c6) | exact bne_iff_ne.1 c6))
       (try (have c6b2 : (a0_0 == a0_3) = false := by first | (simpa using c6) | exact decide_eq_true (Decidable.not_not.1 (fun hn => c6 (bne_iff_ne.2 hn))) | exact beq_iff_eq.2 (Decidable.not_not.1 (fun hn => c6 (bne_iff_ne.2 hn))) | exact decide_eq_false (bne_iff_ne.1 c6) | exact beq_eq_false_iff_ne.2 (bne_iff_ne.1 c6) | exact bne_iff_ne.1 c6))
       (try (have c6b3 : ¬ (a0_0 = a0_3) := by first | (simpa using c6) | exact decide_eq_true (Decidable.not_not.1 (fun hn => c6 (bne_iff_ne.2 hn))) | exact beq_iff_eq.2 (Decidable.not_not.1 (fun hn => c6 (bne_iff_ne.2 hn))) | exact decide_eq_false (bne_iff_ne.1 c6) | exact beq_eq_false_iff_ne.2 (bne_iff_ne.1 c6) | exact bne_iff_ne.1 c6))
       clear c6
       obtain rfl := Option.some.inj H
       go_enter Try.func78, Try.ntmps78
       go_wp2_with (first | ((with_reducible refine gate_dst (N := 1) rfl ?_); refine zx 1 #[.bool a0_0, .int .u64 a0_1, .int .u64 a0_2, .bool a0_3, .int .u64 a0_4, .int .u64 a0_5] 66 ?_; intro gb599 hg w15 hbox hb; have BK599 := Aside0.mk (hbox); have GW599 := Aside0.mk ((by rw [hg]; exact (below_size (zB HB)) : w.heap.size ≤ gb599)); have GE599 := Aside0.mk ((by rw [hg]; exact (below_size (zB HB)) : w.heap.size ≤ gb599)); replace HB := Aside0.mk (below_step (zB HB) hb); clear hb hbox hg; obtain ⟨hcz16_0, hcz16_1, hcz16_2, hcz16_3, hcz16_4, hcz16_5⟩ := zc6 BK599; obtain ⟨hfz16_0, hfz16_1, hfz16_2, hfz16_3, hfz16_4, hfz16_5⟩ := zf6 BK599) | ((with_reducible refine gate_callee (f := 85) rfl ?_); refine goesL_ (some 5) rfl rfl Try.func85 (by kernel_rfl) rfl #[.agg #[.bool a0_0, .int .u64 a0_1, .int .u64 a0_2]] rfl (by (try simp only [List.map_toArray, List.map_cons, List.map_nil]); first | done | rfl | (simp only [List.length_drop, List.length_take]; rfl)) ?_; (with_reducible refine (intrusionref07_Fine.calls a0_0 a0_1 a0_2 true _ A2.out).mono ?_); rintro e w17 ⟨rfl, hb⟩; refine ⟨_, rfl, ?_⟩; replace BK599 := Aside0.mk (blk_below (g := gb599) (o := .cells #[.bool a0_0, .int .u64 a0_1, .int .u64 a0_2, .bool a0_3, .int .u64 a0_4, .int .u64 a0_5] 66 (0, 0)) (zK BK599) hb); replace HB := Aside0.mk (below_step (zB HB) hb); (try clear hb); obtain ⟨hcz18_0, hcz18_1, hcz18_2, hcz18_3, hcz18_4, hcz18_5⟩ := zc6 BK599; obtain ⟨hfz18_0, hfz18_1, hfz18_2, hfz18_3, hfz18_4, hfz18_5⟩ := zf6 BK599) | (go_at_call 85; (with_reducible refine (intrusionref07_Fine.calls a0_3 a0_4 a0_5 true _ A4.out).mono ?_); rintro e w19 ⟨rfl, hb⟩; replace BK599 := Aside0.mk (blk_below (g := gb599) (o := .cells #[.bool a0_0, .int .u64 a0_1, .int .u64 a0_2, .bool a0_3, .int .u64 a0_4, .int .u64 a0_5] 66 (0, 0)) (zK BK599) hb); replace HB := Aside0.mk (below_step (zB HB) hb); (try clear hb); obtain ⟨hcz20_0, hcz20_1, hcz20_2, hcz20_3, hcz20_4, hcz20_5⟩ := zc6 BK599; obtain ⟨hfz20_0, hfz20_1, hfz20_2, hfz20_3, hfz20_4, hfz20_5⟩ := zf6 BK599))
       go_ret
       exact ⟨by first | rfl | (simp [errW_none, errW_some] <;> rfl) | (simp [*, errW_none, errW_some] <;> rfl), by repeat (first | (with_reducible first | exact HB.out | apply below_alloc | apply pw_below_drewN | apply below_drew1 | refine below_set ?_ GE599.out) | exact HB.out)⟩
   · replace c5 := Bool.eq_false_iff.mpr c5
     subst c5
     rw [if_neg zF] at H
     obtain rfl := Option.some.inj H
     go_enter Try.func78, Try.ntmps78
     go_wp2_with (first | ((with_reducible refine gate_dst (N := 1) rfl ?_); refine zx 1 #[.bool a0_0, .int .u64 a0_1, .int .u64 a0_2, .bool a0_3, .int .u64 a0_4, .int .u64 a0_5] 66 ?_; intro gb599 hg w21 hbox hb; have BK599 := Aside0.mk (hbox); have GW599 := Aside0.mk ((by rw [hg]; exact (below_size (zB HB)) : w.heap.size ≤ gb599)); have GE599 := Aside0.mk ((by rw [hg]; exact (below_size (zB HB)) : w.heap.size ≤ gb599)); replace HB := Aside0.mk (below_step (zB HB) hb); clear hb hbox hg; obtain ⟨hcz22_0, hcz22_1, hcz22_2, hcz22_3, hcz22_4, hcz22_5⟩ := zc6 BK599; obtain ⟨hfz22_0, hfz22_1, hfz22_2, hfz22_3, hfz22_4, hfz22_5⟩ := zf6 BK599) | ((with_reducible refine gate_callee (f := 85) rfl ?_); refine goesL_ (some 5) rfl rfl Try.func85 (by kernel_rfl) rfl #[.agg #[.bool a0_0, .int .u64 a0_1, .int .u64 a0_2]] rfl (by (try simp only [List.map_toArray, List.map_cons, List.map_nil]); first | done | rfl | (simp only [List.length_drop, List.length_take]; rfl)) ?_; (with_reducible refine (intrusionref07_Fine.calls a0_0 a0_1 a0_2 true _ A2.out).mono ?_); rintro e w23 ⟨rfl, hb⟩; refine ⟨_, rfl, ?_⟩; replace BK599 := Aside0.mk (blk_below (g := gb599) (o := .cells #[.bool a0_0, .int .u64 a0_1, .int .u64 a0_2, .bool a0_3, .int .u64 a0_4, .int .u64 a0_5] 66 (0, 0)) (zK BK599) hb); replace HB := Aside0.mk (below_step (zB HB) hb); (try clear hb); obtain ⟨hcz24_0, hcz24_1, hcz24_2, hcz24_3, hcz24_4, hcz24_5⟩ := zc6 BK599; obtain ⟨hfz24_0, hfz24_1, hfz24_2, hfz24_3, hfz24_4, hfz24_5⟩ := zf6 BK599) | (go_at_call 85; (with_reducible refine (intrusionref07_Fine.calls a0_3 a0_4 a0_5 false _ A4.out).mono ?_); rintro e w25 ⟨rfl, hb⟩; replace BK599 := Aside0.mk (blk_below (g := gb599) (o := .cells #[.bool a0_0, .int .u64 a0_1, .int .u64 a0_2, .bool a0_3, .int .u64 a0_4, .int .u64 a0_5] 66 (0, 0)) (zK BK599) hb); replace HB := Aside0.mk (below_step (zB HB) hb); (try clear hb)))
     go_ret
     exact ⟨by first | rfl | (simp [errW_none, errW_some] <;> rfl) | (simp [*, errW_none, errW_some] <;> rfl), by repeat (first | (with_reducible first | exact HB.out | apply below_alloc | apply pw_below_drewN | apply below_drew1 | refine below_set ?_ GE599.out) | exact HB.out)⟩
 · replace c3 := Bool.eq_false_iff.mpr c3
   subst c3
   rw [if_neg zF] at H
   obtain rfl := Option.some.inj H
   go_enter Try.func78, Try.ntmps78
   go_wp2_with (first | ((with_reducible refine gate_dst (N := 1) rfl ?_); refine zx 1 #[.bool a0_0, .int .u64 a0_1, .int .u64 a0_2, .bool a0_3, .int .u64 a0_4, .int .u64 a0_5] 66 ?_; intro gb599 hg w26 hbox hb; have BK599 := Aside0.mk (hbox); have GW599 := Aside0.mk ((by rw [hg]; exact (below_size (zB HB)) : w.heap.size ≤ gb599)); have GE599 := Aside0.mk ((by rw [hg]; exact (below_size (zB HB)) : w.heap.size ≤ gb599)); replace HB := Aside0.mk (below_step (zB HB) hb); clear hb hbox hg; obtain ⟨hcz27_0, hcz27_1, hcz27_2, hcz27_3, hcz27_4, hcz27_5⟩ := zc6 BK599; obtain ⟨hfz27_0, hfz27_1, hfz27_2, hfz27_3, hfz27_4, hfz27_5⟩ := zf6 BK599) | ((with_reducible refine gate_callee (f := 85) rfl ?_); refine goesL_ (some 5) rfl rfl Try.func85 (by kernel_rfl) rfl #[.agg #[.bool a0_0, .int .u64 a0_1, .int .u64 a0_2]] rfl (by (try simp only [List.map_toArray, List.map_cons, List.map_nil]); first | done | rfl | (simp only [List.length_drop, List.length_take]; rfl)) ?_; (with_reducible refine (intrusionref07_Fine.calls a0_0 a0_1 a0_2 false _ A2.out).mono ?_); rintro e w28 ⟨rfl, hb⟩; refine ⟨_, rfl, ?_⟩; replace BK599 := Aside0.mk (blk_below (g := gb599) (o := .cells #[.bool a0_0, .int .u64 a0_1, .int .u64 a0_2, .bool a0_3, .int .u64 a0_4, .int .u64 a0_5] 66 (0, 0)) (zK BK599) hb); replace HB := Aside0.mk (below_step (zB HB) hb); (try clear hb)))
   go_ret
   exact ⟨by first | rfl | (simp [errW_none, errW_some] <;> rfl) | (simp [*, errW_none, errW_some] <;> rfl), by repeat (first | (with_reducible first | exact HB.out | apply below_alloc | apply pw_below_drewN | apply below_drew1 | refine below_set ?_ GE599.out) | exact HB.out)⟩
end Go.Proofs.Ytcgfpffgiimgmaa.Q
end

section
namespace Go.Proofs.Ytcgfpffgiimgmaa.Q
open Go.RowKit Go.Proofs.YtcgfpffgiimgmaaW.PrintWords Go.Proofs.YtcgfpffgiimgmaaW.PrintLast Go.Proofs.YtcgfpffgiimgmaaW.PrintMore
attribute [local go_sem] max2_int min2_int max_two min_two max_three min_three max_four min_four
set_option linter.unusedVariables false
set_option linter.unusedSimpArgs false
def intrusionref07_Last.f (a0_0 : Bool) (a0_1 : Int) (a0_2 : Int) : Option (Bool) := if a0_0 = true then (if (IntKind.u64.wrap (a0_1 + 1)) = 0 then (some ((IntKind.u64.wrap (a0_2 + 1)) == 0)) else (some false)) else (some (a0_2 == 4294967295))
set_option maxHeartbeats 8000000 in
set_option maxRecDepth 100000 in
theorem intrusionref07_Last.calls (a0_0 : Bool) (a0_1 : Int) (a0_2 : Int) (r : Bool) (w : World) (h : intrusionref07_Last.f a0_0 a0_1 a0_2 = some r) :
 Calls Try.prog 106 #[.agg #[.bool a0_0, .int .u64 a0_1, .int .u64 a0_2]] w fun e w' => e = .returned (.bool r) ∧ Below w.heap.size w w' := by
 have hu36 := Try.underlying36
 have HB := Aside0.mk (Below.refl w.heap.size w)
 unfold intrusionref07_Last.f at h; have H := h
 clear h
 by_cases c2 : a0_0 = true
 · subst c2
   rw [if_pos rfl] at H
   by_cases c3 : (IntKind.u64.wrap (a0_1 + 1)) = 0
   · rw [if_pos c3] at H
     have c3b0 : ((IntKind.u64.wrap (a0_1 + 1)) == 0) = true := beq_iff_eq.mpr c3
     have c3b1 : ((IntKind.u64.wrap (a0_1 + 1)) != 0) = false := bne_eq_false_iff_eq.mpr c3
     clear c3
     obtain rfl := Option.some.inj H
     go_enter Try.func106, Try.ntmps106
     go_wp2_with (first | ((with_reducible refine gate_dst (N := 1) rfl ?_); refine zx 1 #[.bool true, .int .u64 a0_1, .int .u64 a0_2] 36 ?_; intro gb603 hg w4 hbox hb; have BK603 := Aside0.mk (hbox); have GW603 := Aside0.mk ((by rw [hg]; exact (below_size (zB HB)) : w.heap.size ≤ gb603)); have GE603 := Aside0.mk ((by rw [hg]; exact (below_size (zB HB)) : w.heap.size ≤ gb603)); replace HB := Aside0.mk (below_step (zB HB) hb); clear hb hbox hg; obtain ⟨hcz5_0, hcz5_1, hcz5_2⟩ := zc3 BK603; obtain ⟨hfz5_0, hfz5_1, hfz5_2⟩ := zf3 BK603))
     go_ret
     exact ⟨by first | rfl | (simp [errW_none, errW_some] <;> rfl) | (simp [*, errW_none, errW_some] <;> rfl), by repeat (first | (with_reducible first | exact HB.out | apply below_alloc | apply pw_below_drewN | apply below_drew1 | refine below_set ?_ GE603.out) | exact HB.out)⟩
   · rw [if_neg c3] at H
     have c3b0 : ((IntKind.u64.wrap (a0_1 + 1)) == 0) = false := beq_eq_false_iff_ne.mpr c3
     have c3b1 : ((IntKind.u64.wrap (a0_1 + 1)) != 0) = true := bne_iff_ne.mpr c3
     obtain rfl := Option.some.inj H
     go_enter Try.func106, Try.ntmps106
     go_wp2_with (first | ((with_reducible refine gate_dst (N := 1) rfl ?_); refine zx 1 #[.bool true, .int .u64 a0_1, .int .u64 a0_2] 36 ?_; intro gb603 hg w6 hbox hb; have BK603 := Aside0.mk (hbox); have GW603 := Aside0.mk ((by rw [hg]; exact (below_size (zB HB)) : w.heap.size ≤ gb603)); have GE603 := Aside0.mk ((by rw [hg]; exact (below_size (zB HB)) : w.heap.size ≤ gb603)); replace HB := Aside0.mk (below_step (zB HB) hb); clear hb hbox hg; obtain ⟨hcz7_0, hcz7_1, hcz7_2⟩ := zc3 BK603; obtain ⟨hfz7_0, hfz7_1, hfz7_2⟩ := zf3 BK603))
     go_ret
     exact ⟨by first | rfl | (simp [errW_none, errW_some] <;> rfl) | (simp [*, errW_none, errW_some] <;> rfl), by repeat (first | (with_reducible first | exact HB.out | apply below_alloc | apply pw_below_drewN | apply below_drew1 | refine below_set ?_ GE603.out) | exact HB.out)⟩
 · replace c2 := Bool.eq_false_iff.mpr c2
   subst c2
   rw [if_neg zF] at H
   obtain rfl := Option.some.inj H
   go_enter Try.func106, Try.ntmps106
   go_wp2_with (first | ((with_reducible refine gate_dst (N := 1) rfl ?_); refine zx 1 #[.bool false, .int .u64 a0_1, .int .u64 a0_2] 36 ?_; intro gb603 hg w8 hbox hb; have BK603 := Aside0.mk (hbox); have GW603 := Aside0.mk ((by rw [hg]; exact (below_size (zB HB)) : w.heap.size ≤ gb603)); have GE603 := Aside0.mk ((by rw [hg]; exact (below_size (zB HB)) : w.heap.size ≤ gb603)); replace HB := Aside0.mk (below_step (zB HB) hb); clear hb hbox hg; obtain ⟨hcz9_0, hcz9_1, hcz9_2⟩ := zc3 BK603; obtain ⟨hfz9_0, hfz9_1, hfz9_2⟩ := zf3 BK603))
   go_ret
   exact ⟨by first | rfl | (simp [errW_none, errW_some] <;> rfl) | (simp [*, errW_none, errW_some] <;> rfl), by repeat (first | (with_reducible first | exact HB.out | apply below_alloc | apply pw_below_drewN | apply below_drew1 | refine below_set ?_ GE603.out) | exact HB.out)⟩
end Go.Proofs.Ytcgfpffgiimgmaa.Q
end

section
namespace Go.Proofs.Ytcgfpffgiimgmaa.Q
open Go.RowKit Go.Proofs.YtcgfpffgiimgmaaW.PrintWords Go.Proofs.YtcgfpffgiimgmaaW.PrintLast Go.Proofs.YtcgfpffgiimgmaaW.PrintMore
attribute [local go_sem] max2_int min2_int max_two min_two max_three min_three max_four min_four
set_option linter.unusedVariables false
set_option linter.unusedSimpArgs false
attribute [local go_sem high] eqA36
def intrusionref07_joined.f (a0_0 : Bool) (a0_1 : Int) (a0_2 : Int) (a0_3 : Bool) (a0_4 : Int) (a0_5 : Int) (a1_0 : Bool) (a1_1 : Int) (a1_2 : Int) (a1_3 : Bool) (a1_4 : Int) (a1_5 : Int) : Option (Bool) := if (a0_0 != a1_0) = true then (some false) else ((intrusionref07_Before.f a0_3 a0_4 a0_5 a1_0 a1_1 a1_2).bind fun t606 => (if t606 = true then ((intrusionref07_Last.f a0_3 a0_4 a0_5).bind fun t607 => (if t607 = true then (some false) else ((intrusionref07_After.f a0_3 a0_4 a0_5).bind fun bt608 => (some (bt608.1 == a1_0 && (bt608.2.1 == a1_1 && (bt608.2.2 == a1_2))))))) else (some true)))
def intrusionref07_joined.T3 : Bool × List (List Nat × List Nat) := (true, [([], []), ([0], [0]), ([], []), ([2], [2]), ([1, 3], [1, 3]), ([4], [4]), ([5, 4], [5]), ([6], [6]), ([7, 6], [6, 7]), ([8, 6, 6], [6, 8]), ([9, 6], [6, 9]), ([10, 9, 6], [6, 10]), ([11], [11]), ([12, 11], [11, 12]), ([13, 11, 11], [11, 13]), ([11], [11]), ([15, 11], [11, 15]), ([14, 16, 11], [11, 14, 16]), ([11, 17, 6], [6, 11, 17]), ([6, 18], [6, 18]), ([19, 14, 0, 1, 2, 3, 4, 5, 6, 7, 8, 9, 10, 11, 12, 13, 14, 15, 16, 17, 18, 19], [19])])
def intrusionref07_joined.B3 : List Nat := [0, 1, 0, 4, 15, 31, 63, 127, 255, 511, 1023, 2047, 4095, 8191, 16383, 4095, 36863, 131071, 262143, 524287, 1048575]
theorem intrusionref07_joined.tab3 : rtab .any (opsOf Try.f81 3) = intrusionref07_joined.T3 := by kernel_rfl
theorem intrusionref07_joined.bits3 : waitsOk intrusionref07_joined.T3.2 intrusionref07_joined.B3 = true := by kernel_rfl
set_option maxHeartbeats 8000000 in
set_option maxRecDepth 100000 in
theorem intrusionref07_joined.calls (a0_0 : Bool) (a0_1 : Int) (a0_2 : Int) (a0_3 : Bool) (a0_4 : Int) (a0_5 : Int) (a1_0 : Bool) (a1_1 : Int) (a1_2 : Int) (a1_3 : Bool) (a1_4 : Int) (a1_5 : Int) (r : Bool) (w : World) (h : intrusionref07_joined.f a0_0 a0_1 a0_2 a0_3 a0_4 a0_5 a1_0 a1_1 a1_2 a1_3 a1_4 a1_5 = some r) :
 Calls Try.prog 81 #[.agg #[.bool a0_0, .int .u64 a0_1, .int .u64 a0_2, .bool a0_3, .int .u64 a0_4, .int .u64 a0_5], .agg #[.bool a1_0, .int .u64 a1_1, .int .u64 a1_2, .bool a1_3, .int .u64 a1_4, .int .u64 a1_5]] w fun e w' => e = .returned (.bool r) ∧ Below w.heap.size w w' := by
 have hu66 := Try.underlying66
 have hu36 := Try.underlying36
 have HB := Aside0.mk (Below.refl w.heap.size w)
 unfold intrusionref07_joined.f at h; have H := h
 clear h
 by_cases c3 : (a0_0 != a1_0) = true
 · rw [if_pos c3] at H
   have c3b0 : (a0_0 != a1_0) = true := c3
   (try (have c3b1 : decide (a0_0 = a1_0) = false := by first | (simpa using c3) | exact decide_eq_true (Decidable.not_not.1 (fun hn => c3 (bne_iff_ne.2 hn))) | exact beq_iff_eq.2 (Decidable.not_not.1 (fun hn => c3 (bne_iff_ne.2 hn))) | exact decide_eq_false (bne_iff_ne.1 c3) | exact beq_eq_false_iff_ne.2 (bne_iff_ne.1 c3) | exact bne_iff_ne.1 c3))
   (try (have c3b2 : (a0_0 == a1_0) = false := by first | (simpa using c3) | exact decide_eq_true (Decidable.not_not.1 (fun hn => c3 (bne_iff_ne.2 hn))) | exact beq_iff_eq.2 (Decidable.not_not.1 (fun hn => c3 (bne_iff_ne.2 hn))) | exact decide_eq_false (bne_iff_ne.1 c3) | exact beq_eq_false_iff_ne.2 (bne_iff_ne.1 c3) | exact bne_iff_ne.1 c3))
   (try (have c3b3 : ¬ (a0_0 = a1_0) := by first | (simpa using c3) | exact decide_eq_true (Decidable.not_not.1 (fun hn => c3 (bne_iff_ne.2 hn))) | exact beq_iff_eq.2 (Decidable.not_not.1 (fun hn => c3 (bne_iff_ne.2 hn))) | exact decide_eq_false (bne_iff_ne.1 c3) | exact beq_eq_false_iff_ne.2 (bne_iff_ne.1 c3) | exact bne_iff_ne.1 c3))
   clear c3
   obtain rfl := Option.some.inj H
   go_enter Try.func81, Try.ntmps81
   go_wp2_with (first | ((with_reducible refine gate_dst (N := 2) rfl ?_); refine zx 2 #[.bool a0_0, .int .u64 a0_1, .int .u64 a0_2, .bool a0_3, .int .u64 a0_4, .int .u64 a0_5] 66 ?_; intro gb604 hg w4 hbox hb; have BK604 := Aside0.mk (hbox); have GW604 := Aside0.mk ((by rw [hg]; exact (below_size (zB HB)) : w.heap.size ≤ gb604)); have GE604 := Aside0.mk ((by rw [hg]; exact (below_size (zB HB)) : w.heap.size ≤ gb604)); replace HB := Aside0.mk (below_step (zB HB) hb); clear hb hbox hg) | ((with_reducible refine gate_dst (N := 3) rfl ?_); refine zx 3 #[.bool a1_0, .int .u64 a1_1, .int .u64 a1_2, .bool a1_3, .int .u64 a1_4, .int .u64 a1_5] 66 ?_; intro gb605 hg w5 hbox hb; have BK605 := Aside0.mk (hbox); have GW605 := Aside0.mk ((by rw [hg]; exact (below_size (zB HB)) : w.heap.size ≤ gb605)); have GE605 := Aside0.mk ((by rw [hg]; exact (below_size (zB HB)) : w.heap.size ≤ gb605)); replace HB := Aside0.mk (below_step (zB HB) hb); have NB604_605 := Aside0.mk ((by rw [hg]; exact Nat.ne_of_lt (blk_lt (g := gb604) (o := .cells #[.bool a0_0, .int .u64 a0_1, .int .u64 a0_2, .bool a0_3, .int .u64 a0_4, .int .u64 a0_5] 66 (0, 0)) (zK BK604)) : gb604 ≠ gb605)); have NB605_604 := Aside0.mk ((by rw [hg]; exact Nat.ne_of_gt (blk_lt (g := gb604) (o := .cells #[.bool a0_0, .int .u64 a0_1, .int .u64 a0_2, .bool a0_3, .int .u64 a0_4, .int .u64 a0_5] 66 (0, 0)) (zK BK604)) : gb605 ≠ gb604)); replace BK604 := Aside0.mk (blk_below (g := gb604) (o := .cells #[.bool a0_0, .int .u64 a0_1, .int .u64 a0_2, .bool a0_3, .int .u64 a0_4, .int .u64 a0_5] 66 (0, 0)) (zK BK604) hb); clear hb hbox hg; have hnb6 := NB604_605.out; have hnc6 := NB605_604.out; obtain ⟨hcz7_0, hcz7_1, hcz7_2, hcz7_3, hcz7_4, hcz7_5⟩ := zc6 BK604; obtain ⟨hfz7_0, hfz7_1, hfz7_2, hfz7_3, hfz7_4, hfz7_5⟩ := zf6 BK604; obtain ⟨hcz8_0, hcz8_1, hcz8_2, hcz8_3, hcz8_4, hcz8_5⟩ := zc6 BK605; obtain ⟨hfz8_0, hfz8_1, hfz8_2, hfz8_3, hfz8_4, hfz8_5⟩ := zf6 BK605))
   go_ret
   exact ⟨by first | rfl | (simp [errW_none, errW_some] <;> rfl) | (simp [*, errW_none, errW_some] <;> rfl), by repeat (first | (with_reducible first | exact HB.out | apply below_alloc | apply pw_below_drewN | apply below_drew1 | refine below_set ?_ GE604.out | refine below_set ?_ GE605.out) | exact HB.out)⟩
 · rw [if_neg c3] at H
   have c3b0 : (a0_0 != a1_0) = false := by simpa using c3
   (try (have c3b1 : decide (a0_0 = a1_0) = true := by first | (simpa using c3) | exact decide_eq_true (Decidable.not_not.1 (fun hn => c3 (bne_iff_ne.2 hn))) | exact beq_iff_eq.2 (Decidable.not_not.1 (fun hn => c3 (bne_iff_ne.2 hn))) | exact decide_eq_false (bne_iff_ne.1 c3) | exact beq_eq_false_iff_ne.2 (bne_iff_ne.1 c3) | exact bne_iff_ne.1 c3))
   (try (have c3b2 : (a0_0 == a1_0) = true := by first | (simpa using c3) | exact decide_eq_true (Decidable.not_not.1 (fun hn => c3 (bne_iff_ne.2 hn))) | exact beq_iff_eq.2 (Decidable.not_not.1 (fun hn => c3 (bne_iff_ne.2 hn))) | exact decide_eq_false (bne_iff_ne.1 c3) | exact beq_eq_false_iff_ne.2 (bne_iff_ne.1 c3) | exact bne_iff_ne.1 c3))
   clear c3
   replace H := Option.bind_eq_some_iff.mp H
   obtain ⟨t606, A90, H⟩ := H
   try dsimp only at H
   have A9 := Aside0.mk A90
   clear A90
   by_cases c10 : t606 = true
   · subst c10
     rw [if_pos rfl] at H
     replace H := Option.bind_eq_some_iff.mp H
     obtain ⟨t607, A110, H⟩ := H
     try dsimp only at H
     have A11 := Aside0.mk A110
     clear A110
     by_cases c12 : t607 = true
     · subst c12
       rw [if_pos rfl] at H
       obtain rfl := Option.some.inj H
       go_enter Try.func81, Try.ntmps81
       try go_wp2_with (first | ((with_reducible refine gate_dst (N := 2) rfl ?_); refine zx 2 #[.bool a0_0, .int .u64 a0_1, .int .u64 a0_2, .bool a0_3, .int .u64 a0_4, .int .u64 a0_5] 66 ?_; intro gb604 hg w13 hbox hb; have BK604 := Aside0.mk (hbox); have GW604 := Aside0.mk ((by rw [hg]; exact (below_size (zB HB)) : w.heap.size ≤ gb604)); have GE604 := Aside0.mk ((by rw [hg]; exact (below_size (zB HB)) : w.heap.size ≤ gb604)); replace HB := Aside0.mk (below_step (zB HB) hb); clear hb hbox hg) | ((with_reducible refine gate_dst (N := 3) rfl ?_); refine zx 3 #[.bool a1_0, .int .u64 a1_1, .int .u64 a1_2, .bool a1_3, .int .u64 a1_4, .int .u64 a1_5] 66 ?_; intro gb605 hg w14 hbox hb; have BK605 := Aside0.mk (hbox); have GW605 := Aside0.mk ((by rw [hg]; exact (below_size (zB HB)) : w.heap.size ≤ gb605)); have GE605 := Aside0.mk ((by rw [hg]; exact (below_size (zB HB)) : w.heap.size ≤ gb605)); replace HB := Aside0.mk (below_step (zB HB) hb); have NB604_605 := Aside0.mk ((by rw [hg]; exact Nat.ne_of_lt (blk_lt (g := gb604) (o := .cells #[.bool a0_0, .int .u64 a0_1, .int .u64 a0_2, .bool a0_3, .int .u64 a0_4, .int .u64 a0_5] 66 (0, 0)) (zK BK604)) : gb604 ≠ gb605)); have NB605_604 := Aside0.mk ((by rw [hg]; exact Nat.ne_of_gt (blk_lt (g := gb604) (o := .cells #[.bool a0_0, .int .u64 a0_1, .int .u64 a0_2, .bool a0_3, .int .u64 a0_4, .int .u64 a0_5] 66 (0, 0)) (zK BK604)) : gb605 ≠ gb604)); replace BK604 := Aside0.mk (blk_below (g := gb604) (o := .cells #[.bool a0_0, .int .u64 a0_1, .int .u64 a0_2, .bool a0_3, .int .u64 a0_4, .int .u64 a0_5] 66 (0, 0)) (zK BK604) hb); clear hb hbox hg; have hnb15 := NB604_605.out; have hnc15 := NB605_604.out; obtain ⟨hcz16_0, hcz16_1, hcz16_2, hcz16_3, hcz16_4, hcz16_5⟩ := zc6 BK604; obtain ⟨hfz16_0, hfz16_1, hfz16_2, hfz16_3, hfz16_4, hfz16_5⟩ := zf6 BK604; obtain ⟨hcz17_0, hcz17_1, hcz17_2, hcz17_3, hcz17_4, hcz17_5⟩ := zc6 BK605; obtain ⟨hfz17_0, hfz17_1, hfz17_2, hfz17_3, hfz17_4, hfz17_5⟩ := zf6 BK605))
       replace BK604 := Aside0.mk (blk_drew BK604.out)
       replace BK605 := Aside0.mk (blk_drew BK605.out)
       replace HB := Aside0.mk (below_drew1 HB.out)
       refine start_ (n := 21) (S := fun w' => w'.cell? ⟨gb604, 0, none⟩ = some (.bool a0_0) ∧ w'.cell? ⟨gb604, 1, none⟩ = some (.int .u64 a0_1) ∧ w'.cell? ⟨gb604, 2, none⟩ = some (.int .u64 a0_2) ∧ w'.cell? ⟨gb604, 3, none⟩ = some (.bool a0_3) ∧ w'.cell? ⟨gb604, 4, none⟩ = some (.int .u64 a0_4) ∧ w'.cell? ⟨gb604, 5, none⟩ = some (.int .u64 a0_5) ∧ w'.cell? ⟨gb605, 0, none⟩ = some (.bool a1_0) ∧ w'.cell? ⟨gb605, 1, none⟩ = some (.int .u64 a1_1) ∧ w'.cell? ⟨gb605, 2, none⟩ = some (.int .u64 a1_2) ∧ w'.cell? ⟨gb605, 3, none⟩ = some (.bool a1_3) ∧ w'.cell? ⟨gb605, 4, none⟩ = some (.int .u64 a1_4) ∧ w'.cell? ⟨gb605, 5, none⟩ = some (.int .u64 a1_5)) (ds := []) #[false, false, false, false, false, false, false, false, false, false, false, false, false, false, false, false, false, false, false, false, false] (by kernel_rfl) rfl rfl ⟨zc BK604 0, zc BK604 1, zc BK604 2, zc BK604 3, zc BK604 4, zc BK604 5, zc BK605 0, zc BK605 1, zc BK605 2, zc BK605 3, zc BK605 4, zc BK605 5⟩ (fun hHeld => ?_); refine with_tabW intrusionref07_joined.tab3 intrusionref07_joined.bits3 (fun HT_ HW_ => ?_)
       generalize w14.drew = w18 at BK604 BK605 HB hHeld ⊢
       refine zp 0 12 HT_ ?_; refine zp 2 14 HT_ ?_; refine zt 1 13 HT_ HW_ hHeld ?_; refine zt 3 15 HT_ HW_ hHeld ?_; refine zo 4 16 HT_ (fun K hK => ?_)
       refine zg Try.func80 #[.agg #[.bool a0_3, .int .u64 a0_4, .int .u64 a0_5], .agg #[.bool a1_0, .int .u64 a1_1, .int .u64 a1_2]] ?_
       with_reducible refine (intrusionref07_Before.calls a0_3 a0_4 a0_5 a1_0 a1_1 a1_2 true _ A9.out).mono ?_
       rintro e w19 ⟨rfl, hb⟩
       refine ⟨_, rfl, ?_⟩
       replace BK604 := Aside0.mk (blk_below (g := gb604) (o := .cells #[.bool a0_0, .int .u64 a0_1, .int .u64 a0_2, .bool a0_3, .int .u64 a0_4, .int .u64 a0_5] 66 (0, 0)) (zK BK604) hb)
       replace BK605 := Aside0.mk (blk_below (g := gb605) (o := .cells #[.bool a1_0, .int .u64 a1_1, .int .u64 a1_2, .bool a1_3, .int .u64 a1_4, .int .u64 a1_5] 66 (0, 0)) (zK BK605) hb)
       replace HB := Aside0.mk (below_step (zB HB) hb)
       (try clear hb)
       refine hK.out _ _ ⟨zc BK604 0, zc BK604 1, zc BK604 2, zc BK604 3, zc BK604 4, zc BK604 5, zc BK605 0, zc BK605 1, zc BK605 2, zc BK605 3, zc BK605 4, zc BK605 5⟩ (fun hHeld => ?_)
       clear hK K
       refine zn 16 ?_; refine zp 5 17 HT_ ?_; refine zp 6 18 HT_ ?_; refine zp 7 19 HT_ ?_; refine zt 8 20 HT_ HW_ hHeld ?_; refine zo 9 21 HT_ (fun K hK => ?_)
       refine zg Try.func106 #[.agg #[.bool a0_3, .int .u64 a0_4, .int .u64 a0_5]] ?_
       with_reducible refine (intrusionref07_Last.calls a0_3 a0_4 a0_5 true _ A11.out).mono ?_
       rintro e w20 ⟨rfl, hb⟩
       refine ⟨_, rfl, ?_⟩
       replace BK604 := Aside0.mk (blk_below (g := gb604) (o := .cells #[.bool a0_0, .int .u64 a0_1, .int .u64 a0_2, .bool a0_3, .int .u64 a0_4, .int .u64 a0_5] 66 (0, 0)) (zK BK604) hb)
       replace BK605 := Aside0.mk (blk_below (g := gb605) (o := .cells #[.bool a1_0, .int .u64 a1_1, .int .u64 a1_2, .bool a1_3, .int .u64 a1_4, .int .u64 a1_5] 66 (0, 0)) (zK BK605) hb)
       replace HB := Aside0.mk (below_step (zB HB) hb)
       (try clear hb)
       refine hK.out _ _ ⟨zc BK604 0, zc BK604 1, zc BK604 2, zc BK604 3, zc BK604 4, zc BK604 5, zc BK605 0, zc BK605 1, zc BK605 2, zc BK605 3, zc BK605 4, zc BK605 5⟩ (fun hHeld => ?_)
       clear hK K
       refine zn 21 ?_; refine zp 10 22 HT_ ?_; refine zp 11 23 HT_ ?_; refine zu 12 24 HT_ ?_; refine zu 13 25 HT_ ?_; refine zu 14 26 HT_ ?_; refine zu 15 27 HT_ ?_; refine zu 16 28 HT_ ?_; refine zu 17 29 HT_ ?_; refine zp 18 30 HT_ ?_; refine zp 19 31 HT_ ?_; refine zp 20 4 HT_ ?_; refine zd HT_ ?_
       try go_wp2
       go_ret
       exact ⟨by first | rfl | (simp [errW_none, errW_some] <;> rfl) | (simp [*, errW_none, errW_some] <;> rfl), by repeat (first | (with_reducible first | exact HB.out | apply below_alloc | apply pw_below_drewN | apply below_drew1 | refine below_set ?_ GE604.out | refine below_set ?_ GE605.out) | exact HB.out)⟩
     · replace c12 := Bool.eq_false_iff.mpr c12
       subst c12
       rw [if_neg zF] at H
       replace H := Option.bind_eq_some_iff.mp H
       obtain ⟨⟨t608, t609, t610⟩, A210, H⟩ := H
       try dsimp only at H
       have A21 := Aside0.mk A210
       clear A210
       obtain rfl := Option.some.inj H
       go_enter Try.func81, Try.ntmps81
       try go_wp2_with (first | ((with_reducible refine gate_dst (N := 2) rfl ?_); refine zx 2 #[.bool a0_0, .int .u64 a0_1, .int .u64 a0_2, .bool a0_3, .int .u64 a0_4, .int .u64 a0_5] 66 ?_; intro gb604 hg w22 hbox hb; have BK604 := Aside0.mk (hbox); have GW604 := Aside0.mk ((by rw [hg]; exact (below_size (zB HB)) : w.heap.size ≤ gb604)); have GE604 := Aside0.mk ((by rw [hg]; exact (below_size (zB HB)) : w.heap.size ≤ gb604)); replace HB := Aside0.mk (below_step (zB HB) hb); clear hb hbox hg) | ((with_reducible refine gate_dst (N := 3) rfl ?_); refine zx 3 #[.bool a1_0, .int .u64 a1_1, .int .u64 a1_2, .bool a1_3, .int .u64 a1_4, .int .u64 a1_5] 66 ?_; intro gb605 hg w23 hbox hb; have BK605 := Aside0.mk (hbox); have GW605 := Aside0.mk ((by rw [hg]; exact (below_size (zB HB)) : w.heap.size ≤ gb605)); have GE605 := Aside0.mk ((by rw [hg]; exact (below_size (zB HB)) : w.heap.size ≤ gb605)); replace HB := Aside0.mk (below_step (zB HB) hb); have NB604_605 := Aside0.mk ((by rw [hg]; exact Nat.ne_of_lt (blk_lt (g := gb604) (o := .cells #[.bool a0_0, .int .u64 a0_1, .int .u64 a0_2, .bool a0_3, .int .u64 a0_4, .int .u64 a0_5] 66 (0, 0)) (zK BK604)) : gb604 ≠ gb605)); have NB605_604 := Aside0.mk ((by rw [hg]; exact Nat.ne_of_gt (blk_lt (g := gb604) (o := .cells #[.bool a0_0, .int .u64 a0_1, .int .u64 a0_2, .bool a0_3, .int .u64 a0_4, .int .u64 a0_5] 66 (0, 0)) (zK BK604)) : gb605 ≠ gb604)); replace BK604 := Aside0.mk (blk_below (g := gb604) (o := .cells #[.bool a0_0, .int .u64 a0_1, .int .u64 a0_2, .bool a0_3, .int .u64 a0_4, .int .u64 a0_5] 66 (0, 0)) (zK BK604) hb); clear hb hbox hg; have hnb24 := NB604_605.out; have hnc24 := NB605_604.out; obtain ⟨hcz25_0, hcz25_1, hcz25_2, hcz25_3, hcz25_4, hcz25_5⟩ := zc6 BK604; obtain ⟨hfz25_0, hfz25_1, hfz25_2, hfz25_3, hfz25_4, hfz25_5⟩ := zf6 BK604; obtain ⟨hcz26_0, hcz26_1, hcz26_2, hcz26_3, hcz26_4, hcz26_5⟩ := zc6 BK605; obtain ⟨hfz26_0, hfz26_1, hfz26_2, hfz26_3, hfz26_4, hfz26_5⟩ := zf6 BK605))
       replace BK604 := Aside0.mk (blk_drew BK604.out)
       replace BK605 := Aside0.mk (blk_drew BK605.out)
       replace HB := Aside0.mk (below_drew1 HB.out)
       refine start_ (n := 21) (S := fun w' => w'.cell? ⟨gb604, 0, none⟩ = some (.bool a0_0) ∧ w'.cell? ⟨gb604, 1, none⟩ = some (.int .u64 a0_1) ∧ w'.cell? ⟨gb604, 2, none⟩ = some (.int .u64 a0_2) ∧ w'.cell? ⟨gb604, 3, none⟩ = some (.bool a0_3) ∧ w'.cell? ⟨gb604, 4, none⟩ = some (.int .u64 a0_4) ∧ w'.cell? ⟨gb604, 5, none⟩ = some (.int .u64 a0_5) ∧ w'.cell? ⟨gb605, 0, none⟩ = some (.bool a1_0) ∧ w'.cell? ⟨gb605, 1, none⟩ = some (.int .u64 a1_1) ∧ w'.cell? ⟨gb605, 2, none⟩ = some (.int .u64 a1_2) ∧ w'.cell? ⟨gb605, 3, none⟩ = some (.bool a1_3) ∧ w'.cell? ⟨gb605, 4, none⟩ = some (.int .u64 a1_4) ∧ w'.cell? ⟨gb605, 5, none⟩ = some (.int .u64 a1_5)) (ds := []) #[false, false, false, false, false, false, false, false, false, false, false, false, false, false, false, false, false, false, false, false, false] (by kernel_rfl) rfl rfl ⟨zc BK604 0, zc BK604 1, zc BK604 2, zc BK604 3, zc BK604 4, zc BK604 5, zc BK605 0, zc BK605 1, zc BK605 2, zc BK605 3, zc BK605 4, zc BK605 5⟩ (fun hHeld => ?_); refine with_tabW intrusionref07_joined.tab3 intrusionref07_joined.bits3 (fun HT_ HW_ => ?_)
       generalize w23.drew = w27 at BK604 BK605 HB hHeld ⊢
       refine zp 0 12 HT_ ?_; refine zp 2 14 HT_ ?_; refine zt 1 13 HT_ HW_ hHeld ?_; refine zt 3 15 HT_ HW_ hHeld ?_; refine zo 4 16 HT_ (fun K hK => ?_)
       refine zg Try.func80 #[.agg #[.bool a0_3, .int .u64 a0_4, .int .u64 a0_5], .agg #[.bool a1_0, .int .u64 a1_1, .int .u64 a1_2]] ?_
       with_reducible refine (intrusionref07_Before.calls a0_3 a0_4 a0_5 a1_0 a1_1 a1_2 true _ A9.out).mono ?_
       rintro e w28 ⟨rfl, hb⟩
       refine ⟨_, rfl, ?_⟩
       replace BK604 := Aside0.mk (blk_below (g := gb604) (o := .cells #[.bool a0_0, .int .u64 a0_1, .int .u64 a0_2, .bool a0_3, .int .u64 a0_4, .int .u64 a0_5] 66 (0, 0)) (zK BK604) hb)
       replace BK605 := Aside0.mk (blk_below (g := gb605) (o := .cells #[.bool a1_0, .int .u64 a1_1, .int .u64 a1_2, .bool a1_3, .int .u64 a1_4, .int .u64 a1_5] 66 (0, 0)) (zK BK605) hb)
       replace HB := Aside0.mk (below_step (zB HB) hb)
       (try clear hb)
       refine hK.out _ _ ⟨zc BK604 0, zc BK604 1, zc BK604 2, zc BK604 3, zc BK604 4, zc BK604 5, zc BK605 0, zc BK605 1, zc BK605 2, zc BK605 3, zc BK605 4, zc BK605 5⟩ (fun hHeld => ?_)
       clear hK K
       refine zn 16 ?_; refine zp 5 17 HT_ ?_; refine zp 6 18 HT_ ?_; refine zp 7 19 HT_ ?_; refine zt 8 20 HT_ HW_ hHeld ?_; refine zo 9 21 HT_ (fun K hK => ?_)
       refine zg Try.func106 #[.agg #[.bool a0_3, .int .u64 a0_4, .int .u64 a0_5]] ?_
       with_reducible refine (intrusionref07_Last.calls a0_3 a0_4 a0_5 false _ A11.out).mono ?_
       rintro e w29 ⟨rfl, hb⟩
       refine ⟨_, rfl, ?_⟩
       replace BK604 := Aside0.mk (blk_below (g := gb604) (o := .cells #[.bool a0_0, .int .u64 a0_1, .int .u64 a0_2, .bool a0_3, .int .u64 a0_4, .int .u64 a0_5] 66 (0, 0)) (zK BK604) hb)
       replace BK605 := Aside0.mk (blk_below (g := gb605) (o := .cells #[.bool a1_0, .int .u64 a1_1, .int .u64 a1_2, .bool a1_3, .int .u64 a1_4, .int .u64 a1_5] 66 (0, 0)) (zK BK605) hb)
       replace HB := Aside0.mk (below_step (zB HB) hb)
       (try clear hb)
       refine hK.out _ _ ⟨zc BK604 0, zc BK604 1, zc BK604 2, zc BK604 3, zc BK604 4, zc BK604 5, zc BK605 0, zc BK605 1, zc BK605 2, zc BK605 3, zc BK605 4, zc BK605 5⟩ (fun hHeld => ?_)
       clear hK K
       refine zn 21 ?_; refine zp 10 22 HT_ ?_; refine zp 11 23 HT_ ?_; refine zp 12 24 HT_ ?_; refine zp 15 27 HT_ ?_; refine zt 13 25 HT_ HW_ hHeld ?_; refine zt 16 28 HT_ HW_ hHeld ?_; refine zo 14 26 HT_ (fun K hK => ?_)
       refine zg Try.func91 #[.agg #[.bool a0_3, .int .u64 a0_4, .int .u64 a0_5]] ?_
       with_reducible refine (intrusionref07_After.calls a0_3 a0_4 a0_5 t608 t609 t610 _ A21.out).mono ?_
       rintro e w30 ⟨rfl, hb⟩
       refine ⟨_, rfl, ?_⟩
       replace BK604 := Aside0.mk (blk_below (g := gb604) (o := .cells #[.bool a0_0, .int .u64 a0_1, .int .u64 a0_2, .bool a0_3, .int .u64 a0_4, .int .u64 a0_5] 66 (0, 0)) (zK BK604) hb)
       replace BK605 := Aside0.mk (blk_below (g := gb605) (o := .cells #[.bool a1_0, .int .u64 a1_1, .int .u64 a1_2, .bool a1_3, .int .u64 a1_4, .int .u64 a1_5] 66 (0, 0)) (zK BK605) hb)
       replace HB := Aside0.mk (below_step (zB HB) hb)
       (try clear hb)
       refine hK.out _ _ ⟨zc BK604 0, zc BK604 1, zc BK604 2, zc BK604 3, zc BK604 4, zc BK604 5, zc BK605 0, zc BK605 1, zc BK605 2, zc BK605 3, zc BK605 4, zc BK605 5⟩ (fun hHeld => ?_)
       clear hK K
       refine zn 26 ?_; refine zp 17 29 HT_ ?_; refine zp 18 30 HT_ ?_; refine zp 19 31 HT_ ?_; refine zp 20 4 HT_ ?_; refine zd HT_ ?_
       try go_wp2
       go_ret
       exact ⟨by first | rfl | (simp [errW_none, errW_some] <;> rfl) | (simp [*, errW_none, errW_some] <;> rfl), by repeat (first | (with_reducible first | exact HB.out | apply below_alloc | apply pw_below_drewN | apply below_drew1 | refine below_set ?_ GE604.out | refine below_set ?_ GE605.out) | exact HB.out)⟩
   · replace c10 := Bool.eq_false_iff.mpr c10
     subst c10
     rw [if_neg zF] at H
     obtain rfl := Option.some.inj H
     go_enter Try.func81, Try.ntmps81
     try go_wp2_with (first | ((with_reducible refine gate_dst (N := 2) rfl ?_); refine zx 2 #[.bool a0_0, .int .u64 a0_1, .int .u64 a0_2, .bool a0_3, .int .u64 a0_4, .int .u64 a0_5] 66 ?_; intro gb604 hg w31 hbox hb; have BK604 := Aside0.mk (hbox); have GW604 := Aside0.mk ((by rw [hg]; exact (below_size (zB HB)) : w.heap.size ≤ gb604)); have GE604 := Aside0.mk ((by rw [hg]; exact (below_size (zB HB)) : w.heap.size ≤ gb604)); replace HB := Aside0.mk (below_step (zB HB) hb); clear hb hbox hg) | ((with_reducible refine gate_dst (N := 3) rfl ?_); refine zx 3 #[.bool a1_0, .int .u64 a1_1, .int .u64 a1_2, .bool a1_3, .int .u64 a1_4, .int .u64 a1_5] 66 ?_; intro gb605 hg w32 hbox hb; have BK605 := Aside0.mk (hbox); have GW605 := Aside0.mk ((by rw [hg]; exact (below_size (zB HB)) : w.heap.size ≤ gb605)); have GE605 := Aside0.mk ((by rw [hg]; exact (below_size (zB HB)) : w.heap.size ≤ gb605)); replace HB := Aside0.mk (below_step (zB HB) hb); have NB604_605 := Aside0.mk ((by rw [hg]; exact Nat.ne_of_lt (blk_lt (g := gb604) (o := .cells #[.bool a0_0, .int .u64 a0_1, .int .u64 a0_2, .bool a0_3, .int .u64 a0_4, .int .u64 a0_5] 66 (0, 0)) (zK BK604)) : gb604 ≠ gb605)); have NB605_604 := Aside0.mk ((by rw [hg]; exact Nat.ne_of_gt (blk_lt (g := gb604) (o := .cells #[.bool a0_0, .int .u64 a0_1, .int .u64 a0_2, .bool a0_3, .int .u64 a0_4, .int .u64 a0_5] 66 (0, 0)) (zK BK604)) : gb605 ≠ gb604)); replace BK604 := Aside0.mk (blk_below (g := gb604) (o := .cells #[.bool a0_0, .int .u64 a0_1, .int .u64 a0_2, .bool a0_3, .int .u64 a0_4, .int .u64 a0_5] 66 (0, 0)) (zK BK604) hb); clear hb hbox hg; have hnb33 := NB604_605.out; have hnc33 := NB605_604.out; obtain ⟨hcz34_0, hcz34_1, hcz34_2, hcz34_3, hcz34_4, hcz34_5⟩ := zc6 BK604; obtain ⟨hfz34_0, hfz34_1, hfz34_2, hfz34_3, hfz34_4, hfz34_5⟩ := zf6 BK604; obtain ⟨hcz35_0, hcz35_1, hcz35_2, hcz35_3, hcz35_4, hcz35_5⟩ := zc6 BK605; obtain ⟨hfz35_0, hfz35_1, hfz35_2, hfz35_3, hfz35_4, hfz35_5⟩ := zf6 BK605))
     replace BK604 := Aside0.mk (blk_drew BK604.out)
     replace BK605 := Aside0.mk (blk_drew BK605.out)
     replace HB := Aside0.mk (below_drew1 HB.out)
     refine start_ (n := 21) (S := fun w' => w'.cell? ⟨gb604, 0, none⟩ = some (.bool a0_0) ∧ w'.cell? ⟨gb604, 1, none⟩ = some (.int .u64 a0_1) ∧ w'.cell? ⟨gb604, 2, none⟩ = some (.int .u64 a0_2) ∧ w'.cell? ⟨gb604, 3, none⟩ = some (.bool a0_3) ∧ w'.cell? ⟨gb604, 4, none⟩ = some (.int .u64 a0_4) ∧ w'.cell? ⟨gb604, 5, none⟩ = some (.int .u64 a0_5) ∧ w'.cell? ⟨gb605, 0, none⟩ = some (.bool a1_0) ∧ w'.cell? ⟨gb605, 1, none⟩ = some (.int .u64 a1_1) ∧ w'.cell? ⟨gb605, 2, none⟩ = some (.int .u64 a1_2) ∧ w'.cell? ⟨gb605, 3, none⟩ = some (.bool a1_3) ∧ w'.cell? ⟨gb605, 4, none⟩ = some (.int .u64 a1_4) ∧ w'.cell? ⟨gb605, 5, none⟩ = some (.int .u64 a1_5)) (ds := []) #[false, false, false, false, false, false, false, false, false, false, false, false, false, false, false, false, false, false, false, false, false] (by kernel_rfl) rfl rfl ⟨zc BK604 0, zc BK604 1, zc BK604 2, zc BK604 3, zc BK604 4, zc BK604 5, zc BK605 0, zc BK605 1, zc BK605 2, zc BK605 3, zc BK605 4, zc BK605 5⟩ (fun hHeld => ?_); refine with_tabW intrusionref07_joined.tab3 intrusionref07_joined.bits3 (fun HT_ HW_ => ?_)
     generalize w32.drew = w36 at BK604 BK605 HB hHeld ⊢
     refine zp 0 12 HT_ ?_; refine zp 2 14 HT_ ?_; refine zt 1 13 HT_ HW_ hHeld ?_; refine zt 3 15 HT_ HW_ hHeld ?_; refine zo 4 16 HT_ (fun K hK => ?_)
     refine zg Try.func80 #[.agg #[.bool a0_3, .int .u64 a0_4, .int .u64 a0_5], .agg #[.bool a1_0, .int .u64 a1_1, .int .u64 a1_2]] ?_
     with_reducible refine (intrusionref07_Before.calls a0_3 a0_4 a0_5 a1_0 a1_1 a1_2 false _ A9.out).mono ?_
     rintro e w37 ⟨rfl, hb⟩
     refine ⟨_, rfl, ?_⟩
     replace BK604 := Aside0.mk (blk_below (g := gb604) (o := .cells #[.bool a0_0, .int .u64 a0_1, .int .u64 a0_2, .bool a0_3, .int .u64 a0_4, .int .u64 a0_5] 66 (0, 0)) (zK BK604) hb)
     replace BK605 := Aside0.mk (blk_below (g := gb605) (o := .cells #[.bool a1_0, .int .u64 a1_1, .int .u64 a1_2, .bool a1_3, .int .u64 a1_4, .int .u64 a1_5] 66 (0, 0)) (zK BK605) hb)
     replace HB := Aside0.mk (below_step (zB HB) hb)
     (try clear hb)
     refine hK.out _ _ ⟨zc BK604 0, zc BK604 1, zc BK604 2, zc BK604 3, zc BK604 4, zc BK604 5, zc BK605 0, zc BK605 1, zc BK605 2, zc BK605 3, zc BK605 4, zc BK605 5⟩ (fun hHeld => ?_)
     clear hK K
     refine zn 16 ?_; refine zp 5 17 HT_ ?_; refine zp 6 18 HT_ ?_; refine zu 7 19 HT_ ?_; refine zu 8 20 HT_ ?_; refine zu 9 21 HT_ ?_; refine zu 10 22 HT_ ?_; refine zu 11 23 HT_ ?_; refine zu 12 24 HT_ ?_; refine zu 13 25 HT_ ?_; refine zu 14 26 HT_ ?_; refine zu 15 27 HT_ ?_; refine zu 16 28 HT_ ?_; refine zu 17 29 HT_ ?_; refine zu 18 30 HT_ ?_; refine zp 19 31 HT_ ?_; refine zp 20 4 HT_ ?_; refine zd HT_ ?_
     try go_wp2
     go_ret
     exact ⟨by first | rfl | (simp [errW_none, errW_some] <;> rfl) | (simp [*, errW_none, errW_some] <;> rfl), by repeat (first | (with_reducible first | exact HB.out | apply below_alloc | apply pw_below_drewN | apply below_drew1 | refine below_set ?_ GE604.out | refine below_set ?_ GE605.out) | exact HB.out)⟩
end Go.Proofs.Ytcgfpffgiimgmaa.Q
end

section
namespace Go.Proofs.Ytcgfpffgiimgmaa.Q
open Go.RowKit Go.Proofs.YtcgfpffgiimgmaaW.PrintWords Go.Proofs.YtcgfpffgiimgmaaW.PrintLast Go.Proofs.YtcgfpffgiimgmaaW.PrintMore
attribute [local go_sem] max2_int min2_int max_two min_two max_three min_three max_four min_four
set_option linter.unusedVariables false
set_option linter.unusedSimpArgs false
mutual
def intrusionref07_add.l0 : Nat → List (S66) → List (S66) → Bool → Int → Bool → Int → Int → Bool → Int → Int → Option ((List (S66)))
  | 0, _, _, _, _, _, _, _, _, _, _ => none
  | k + 1, x0, x5, x6, x7, x612000, x612001, x612002, x612003, x612004, x612005 => if x7 < (x0.length : Int) then (if 0 ≤ x7 then (if x6 = true then (intrusionref07_add.j1 k x0 x5 x6 x7 true x612000 x612001 x612002 x612003 x612004 x612005 ((rd_T66 x0 x7).f0.f0) ((rd_T66 x0 x7).f0.f1) ((rd_T66 x0 x7).f0.f2) ((rd_T66 x0 x7).f1.f0) ((rd_T66 x0 x7).f1.f1) ((rd_T66 x0 x7).f1.f2)) else ((intrusionref07_Before.f ((rd_T66 x0 x7).f1.f0) ((rd_T66 x0 x7).f1.f1) ((rd_T66 x0 x7).f1.f2) x612000 x612001 x612002).bind fun t617 => (if t617 = true then ((intrusionref07_joined.f ((rd_T66 x0 x7).f0.f0) ((rd_T66 x0 x7).f0.f1) ((rd_T66 x0 x7).f0.f2) ((rd_T66 x0 x7).f1.f0) ((rd_T66 x0 x7).f1.f1) ((rd_T66 x0 x7).f1.f2) x612000 x612001 x612002 x612003 x612004 x612005).bind fun t618 => (intrusionref07_add.j1 k x0 x5 x6 x7 (!t618) x612000 x612001 x612002 x612003 x612004 x612005 ((rd_T66 x0 x7).f0.f0) ((rd_T66 x0 x7).f0.f1) ((rd_T66 x0 x7).f0.f2) ((rd_T66 x0 x7).f1.f0) ((rd_T66 x0 x7).f1.f1) ((rd_T66 x0 x7).f1.f2))) else (intrusionref07_add.j1 k x0 x5 x6 x7 false x612000 x612001 x612002 x612003 x612004 x612005 ((rd_T66 x0 x7).f0.f0) ((rd_T66 x0 x7).f0.f1) ((rd_T66 x0 x7).f0.f2) ((rd_T66 x0 x7).f1.f0) ((rd_T66 x0 x7).f1.f1) ((rd_T66 x0 x7).f1.f2))))) else (none)) else (if x6 = true then (some x5) else (if x5.length < 2932031007402 then (some (x5 ++ [(⟨(⟨x612000, x612001, x612002⟩ : S36), (⟨x612003, x612004, x612005⟩ : S36)⟩ : S66)])) else (none)))
def intrusionref07_add.j1 : Nat → List (S66) → List (S66) → Bool → Int → Bool → Bool → Int → Int → Bool → Int → Int → Bool → Int → Int → Bool → Int → Int → Option ((List (S66)))
  | 0, _, _, _, _, _, _, _, _, _, _, _, _, _, _, _, _, _ => none
  | k + 1, x0, x5, x6, x7, x32, x612000, x612001, x612002, x612003, x612004, x612005, x617000, x617001, x617002, x617003, x617004, x617005 => if x32 = true then (if x5.length < 2932031007402 then (intrusionref07_add.l0 k x0 (x5 ++ [(⟨(⟨x617000, x617001, x617002⟩ : S36), (⟨x617003, x617004, x617005⟩ : S36)⟩ : S66)]) x6 (wrap64 (x7 + 1)) x612000 x612001 x612002 x612003 x612004 x612005) else (none)) else ((intrusionref07_Before.f x612003 x612004 x612005 x617000 x617001 x617002).bind fun t622 => (if t622 = true then ((intrusionref07_joined.f x612000 x612001 x612002 x612003 x612004 x612005 x617000 x617001 x617002 x617003 x617004 x617005).bind fun t623 => (intrusionref07_add.j2 k x0 x5 x6 x7 (!t623) x612000 x612001 x612002 x612003 x612004 x612005 x617000 x617001 x617002 x617003 x617004 x617005)) else (intrusionref07_add.j2 k x0 x5 x6 x7 false x612000 x612001 x612002 x612003 x612004 x612005 x617000 x617001 x617002 x617003 x617004 x617005)))
def intrusionref07_add.j2 : Nat → List (S66) → List (S66) → Bool → Int → Bool → Bool → Int → Int → Bool → Int → Int → Bool → Int → Int → Bool → Int → Int → Option ((List (S66)))
  | 0, _, _, _, _, _, _, _, _, _, _, _, _, _, _, _, _, _ => none
  | k + 1, x0, x5, x6, x7, x47, x612000, x612001, x612002, x612003, x612004, x612005, x617000, x617001, x617002, x617003, x617004, x617005 => if x47 = true then ((some (([(⟨(⟨x612000, x612001, x612002⟩ : S36), (⟨x612003, x612004, x612005⟩ : S36)⟩ : S66), (⟨(⟨x617000, x617001, x617002⟩ : S36), (⟨x617003, x617004, x617005⟩ : S36)⟩ : S66)] : List (S66)) : List (S66))).bind fun y624 => (if x5.length + y624.length < 2932031007402 then (intrusionref07_add.l0 k x0 (x5 ++ y624) true (wrap64 (x7 + 1)) x612000 x612001 x612002 x612003 x612004 x612005) else (none))) else ((intrusionref07_Before.f x617000 x617001 x617002 x612000 x612001 x612002).bind fun t630 => (if t630 = true then ((intrusionref07_Before.f x612003 x612004 x612005 x617003 x617004 x617005).bind fun t631 => (if t631 = true then (intrusionref07_add.l0 k x0 x5 x6 (wrap64 (x7 + 1)) x617000 x617001 x617002 x617003 x617004 x617005) else (intrusionref07_add.l0 k x0 x5 x6 (wrap64 (x7 + 1)) x617000 x617001 x617002 x612003 x612004 x612005))) else ((intrusionref07_Before.f x612003 x612004 x612005 x617003 x617004 x617005).bind fun t632 => (if t632 = true then (intrusionref07_add.l0 k x0 x5 x6 (wrap64 (x7 + 1)) x612000 x612001 x612002 x617003 x617004 x617005) else (intrusionref07_add.l0 k x0 x5 x6 (wrap64 (x7 + 1)) x612000 x612001 x612002 x612003 x612004 x612005)))))
end
def intrusionref07_add.f (k : Nat) (l0 : List (S66)) (a1_0 : Bool) (a1_1 : Int) (a1_2 : Int) (a1_3 : Bool) (a1_4 : Int) (a1_5 : Int) : Option ((List (S66))) := intrusionref07_add.l0 k l0 ([] : List (S66)) false 0 a1_0 a1_1 a1_2 a1_3 a1_4 a1_5
theorem intrusionref07_add.mono_l : ∀ k, (∀ y0 y1 y2 y3 y4 y5 y6 y7 y8 y9, LeO (intrusionref07_add.l0 k y0 y1 y2 y3 y4 y5 y6 y7 y8 y9) (intrusionref07_add.l0 (k + 1) y0 y1 y2 y3 y4 y5 y6 y7 y8 y9)) ∧ (∀ y0 y1 y2 y3 y4 y5 y6 y7 y8 y9 y10 y11 y12 y13 y14 y15 y16, LeO (intrusionref07_add.j1 k y0 y1 y2 y3 y4 y5 y6 y7 y8 y9 y10 y11 y12 y13 y14 y15 y16) (intrusionref07_add.j1 (k + 1) y0 y1 y2 y3 y4 y5 y6 y7 y8 y9 y10 y11 y12 y13 y14 y15 y16)) ∧ (∀ y0 y1 y2 y3 y4 y5 y6 y7 y8 y9 y10 y11 y12 y13 y14 y15 y16, LeO (intrusionref07_add.j2 k y0 y1 y2 y3 y4 y5 y6 y7 y8 y9 y10 y11 y12 y13 y14 y15 y16) (intrusionref07_add.j2 (k + 1) y0 y1 y2 y3 y4 y5 y6 y7 y8 y9 y10 y11 y12 y13 y14 y15 y16))
  | 0 => ⟨fun _ _ _ _ _ _ _ _ _ _ r h => by simp [intrusionref07_add.l0] at h, fun _ _ _ _ _ _ _ _ _ _ _ _ _ _ _ _ _ r h => by simp [intrusionref07_add.j1] at h, fun _ _ _ _ _ _ _ _ _ _ _ _ _ _ _ _ _ r h => by simp [intrusionref07_add.j2] at h⟩
  | k + 1 => by
    obtain ⟨ih0, ih1, ih2⟩ := intrusionref07_add.mono_l k
    refine ⟨?_, ?_, ?_⟩
    · intro y0 y1 y2 y3 y4 y5 y6 y7 y8 y9
      unfold intrusionref07_add.l0
      repeat' first
      | (with_reducible exact ih0 _ _ _ _ _ _ _ _ _ _)
      | (with_reducible exact ih1 _ _ _ _ _ _ _ _ _ _ _ _ _ _ _ _ _)
      | (with_reducible exact ih2 _ _ _ _ _ _ _ _ _ _ _ _ _ _ _ _ _)
      | (with_reducible exact LeO.refl _)
      | (with_reducible exact LeO.none _)
      | (with_reducible refine LeO.ite ?_ ?_)
      | (with_reducible refine LeO.bind ?_ (fun _ => ?_))
      | exact ih0 _ _ _ _ _ _ _ _ _ _
      | exact ih1 _ _ _ _ _ _ _ _ _ _ _ _ _ _ _ _ _
      | exact ih2 _ _ _ _ _ _ _ _ _ _ _ _ _ _ _ _ _
      | exact LeO.none _
      | refine LeO.ite ?_ ?_
      | refine LeO.bind ?_ (fun _ => ?_)
    · intro y0 y1 y2 y3 y4 y5 y6 y7 y8 y9 y10 y11 y12 y13 y14 y15 y16
      unfold intrusionref07_add.j1
      repeat' first
      | (with_reducible exact ih0 _ _ _ _ _ _ _ _ _ _)
      | (with_reducible exact ih1 _ _ _ _ _ _ _ _ _ _ _ _ _ _ _ _ _)
      | (with_reducible exact ih2 _ _ _ _ _ _ _ _ _ _ _ _ _ _ _ _ _)
      | (with_reducible exact LeO.refl _)
      | (with_reducible exact LeO.none _)
      | (with_reducible refine LeO.ite ?_ ?_)
      | (with_reducible refine LeO.bind ?_ (fun _ => ?_))
      | exact ih0 _ _ _ _ _ _ _ _ _ _
      | exact ih1 _ _ _ _ _ _ _ _ _ _ _ _ _ _ _ _ _
      | exact ih2 _ _ _ _ _ _ _ _ _ _ _ _ _ _ _ _ _
      | exact LeO.none _
      | refine LeO.ite ?_ ?_
      | refine LeO.bind ?_ (fun _ => ?_)
    · intro y0 y1 y2 y3 y4 y5 y6 y7 y8 y9 y10 y11 y12 y13 y14 y15 y16
      unfold intrusionref07_add.j2
      repeat' first
      | (with_reducible exact ih0 _ _ _ _ _ _ _ _ _ _)
      | (with_reducible exact ih1 _ _ _ _ _ _ _ _ _ _ _ _ _ _ _ _ _)
      | (with_reducible exact ih2 _ _ _ _ _ _ _ _ _ _ _ _ _ _ _ _ _)
      | (with_reducible exact LeO.refl _)
      | (with_reducible exact LeO.none _)
      | (with_reducible refine LeO.ite ?_ ?_)
      | (with_reducible refine LeO.bind ?_ (fun _ => ?_))
      | exact ih0 _ _ _ _ _ _ _ _ _ _
      | exact ih1 _ _ _ _ _ _ _ _ _ _ _ _ _ _ _ _ _
      | exact ih2 _ _ _ _ _ _ _ _ _ _ _ _ _ _ _ _ _
      | exact LeO.none _
      | refine LeO.ite ?_ ?_
      | refine LeO.bind ?_ (fun _ => ?_)
theorem intrusionref07_add.mono : ∀ a0 a1 a2 a3 a4 a5 a6 k, LeO (intrusionref07_add.f k a0 a1 a2 a3 a4 a5 a6) (intrusionref07_add.f (k + 1) a0 a1 a2 a3 a4 a5 a6) := by
  intro a0 a1 a2 a3 a4 a5 a6 k
  obtain ⟨ih0, ih1, ih2⟩ := intrusionref07_add.mono_l k
  unfold intrusionref07_add.f
  repeat' first
      | (with_reducible exact ih0 _ _ _ _ _ _ _ _ _ _)
      | (with_reducible exact ih1 _ _ _ _ _ _ _ _ _ _ _ _ _ _ _ _ _)
      | (with_reducible exact ih2 _ _ _ _ _ _ _ _ _ _ _ _ _ _ _ _ _)
      | (with_reducible exact LeO.refl _)
      | (with_reducible exact LeO.none _)
      | (with_reducible refine LeO.ite ?_ ?_)
      | (with_reducible refine LeO.bind ?_ (fun _ => ?_))
      | exact ih0 _ _ _ _ _ _ _ _ _ _
      | exact ih1 _ _ _ _ _ _ _ _ _ _ _ _ _ _ _ _ _
      | exact ih2 _ _ _ _ _ _ _ _ _ _ _ _ _ _ _ _ _
      | exact LeO.none _
      | refine LeO.ite ?_ ?_
      | refine LeO.bind ?_ (fun _ => ?_)
set_option maxHeartbeats 8000000 in
set_option maxRecDepth 100000 in
theorem intrusionref07_add.calls (k : Nat) (A0 : Option Addr) (c0 : Nat) (l0 : List (S66)) (a1_0 : Bool) (a1_1 : Int) (a1_2 : Int) (a1_3 : Bool) (a1_4 : Int) (a1_5 : Int) (r : List (S66)) (w : World) (hr0 : Kd.C k66 w A0 l0.length l0) (hc0 : l0.length ≤ c0) (h : intrusionref07_add.f k l0 a1_0 a1_1 a1_2 a1_3 a1_4 a1_5 = some r) :
 Calls Try.prog 79 #[.slice A0 l0.length c0, .agg #[.bool a1_0, .int .u64 a1_1, .int .u64 a1_2, .bool a1_3, .int .u64 a1_4, .int .u64 a1_5]] w fun e w' => ∃ v0_ : Value, e = .returned (v0_) ∧ Kd.R k66 66 w' w.heap.size (fun _ => True) v0_ r ∧ Below w.heap.size w w' := by
 have hu66 := Try.underlying66
 have hu36 := Try.underlying36
 have HR0 := Aside0.mk hr0
 have HC0 := Aside0.mk hc0
 clear hr0 hc0
 have HB := Aside0.mk (Below.refl w.heap.size w)
 unfold intrusionref07_add.f at h; have H := h
 clear h
 have H' := Aside0.mk H
 clear H
 go_enter Try.func79, Try.ntmps79
 go_wp2_with (first | ((with_reducible refine gate_dst (N := 3) rfl ?_); refine zx 3 #[.bool a1_0, .int .u64 a1_1, .int .u64 a1_2, .bool a1_3, .int .u64 a1_4, .int .u64 a1_5] 66 ?_; intro gb611 hg w3 hbox hb; have BK611 := Aside0.mk (hbox); have GW611 := Aside0.mk ((by rw [hg]; exact (below_size (zB HB)) : w.heap.size ≤ gb611)); have GE611 := Aside0.mk ((by rw [hg]; exact (below_size (zB HB)) : w.heap.size ≤ gb611)); replace HB := Aside0.mk (below_step (zB HB) hb); clear hb hbox hg))
 go_loopg [5, 6, 7] k (fun kq v5 v6 v7 w' => ∃ (x5_1 : List (S66)) (x6_1 : Bool) (x7_1 : Int) (x612000_1 : Bool) (x612001_1 : Int) (x612002_1 : Int) (x612003_1 : Bool) (x612004_1 : Int) (x612005_1 : Int), v6 = .bool x6_1 ∧ v7 = .int .i64 x7_1 ∧ Aside0 (intrusionref07_add.l0 kq l0 x5_1 x6_1 x7_1 x612000_1 x612001_1 x612002_1 x612003_1 x612004_1 x612005_1 = some r) ∧ Aside0 (kq ≤ k) ∧ Aside0 (Kd.R k66 66 w' w.heap.size (fun k_ => k_ ≠ gb611) v5 x5_1) ∧ Aside0 (w'.heap[gb611]? = some (.cells #[.bool x612000_1, .int .u64 x612001_1, .int .u64 x612002_1, .bool x612003_1, .int .u64 x612004_1, .int .u64 x612005_1] 66 (0, 0))) ∧ Aside0 (Below w.heap.size w w'))
 case atStart => exact ⟨(([] : List (S66))), (false), (0), (a1_0), (a1_1), (a1_2), (a1_3), (a1_4), (a1_5), (by first | rfl | (simp; done) | (simp [*]; done)), (by first | rfl | (simp; done) | (simp [*]; done)), H', ⟨Nat.le_refl _⟩, ⟨by first | exact Kd.R_nil _ _ _ _ _ | exact Kd.N_nil _ _ _ _ _ | exact Kd.V_nil _ _ _ _ _ | exact Kd.Q_nil _ _ _ _ _ | exact Kd.S_nil _ _ _ _ _⟩, ⟨zK BK611⟩, ⟨zB HB⟩⟩
 case round =>
  clear H'
  try clear p2
  obtain ⟨x5_1, x6_1, x7_1, x612000_1, x612001_1, x612002_1, x612003_1, x612004_1, x612005_1, rfl, rfl, HA, HK1, HO_5, BK611, HB⟩ := hrel
  cases gk with
  | zero => exact absurd HA.out (by simp [intrusionref07_add.l0])
  | succ k1 =>
   have H := HA.out
   clear HA
   simp only [intrusionref07_add.l0] at H
   by_cases c4 : x7_1 < (l0.length : Int)
   · rw [if_pos c4] at H
     have c4b0 : decide (x7_1 < (l0.length : Int)) = true := decide_eq_true c4
     clear c4
     by_cases c5 : 0 ≤ x7_1
     · rw [if_pos c5] at H
       have c5b0 : decide (0 ≤ x7_1) = true := decide_eq_true c5
       clear c5
       have HC6 := Aside0.mk H
       clear H
       have p615 : 0 ≤ (x7_1 : Int) := za
       have q615 : x7_1 < (l0.length : Int) := za
       obtain ⟨ad615, e615, hx615_0, hx615_1, hx615_2, hx615_3, hx615_4, hx615_5⟩ := at_T66 HR0.out x7_1 p615 q615
       cases e615
       replace hx615_0 := zh HB hx615_0
       replace hx615_1 := zh HB hx615_1
       replace hx615_2 := zh HB hx615_2
       replace hx615_3 := zh HB hx615_3
       replace hx615_4 := zh HB hx615_4
       replace hx615_5 := zh HB hx615_5
       replace p615 := eq_true p615
       replace q615 := eq_true q615
       go_upto_region 7 with (first | ((with_reducible refine gate_dst (N := 8) rfl ?_); refine zx 8 #[.bool false, .int .u64 0, .int .u64 0, .bool false, .int .u64 0, .int .u64 0] 66 ?_; intro gb616 hg w7 hbox hb; replace HO_5 := Aside0.mk (Kd.R_below (Kd.R_elderB (zR HO_5) gb616 (Nat.le_of_eq hg.symm)) hb); have BK616 := Aside0.mk (hbox); have GW616 := Aside0.mk ((by rw [hg]; exact (below_size (zB HB)) : w.heap.size ≤ gb616)); have GE616 := Aside0.mk ((by rw [hg]; exact (below_size (zB HB)) : w.heap.size ≤ gb616)); replace HB := Aside0.mk (below_step (zB HB) hb); have NB611_616 := Aside0.mk ((by rw [hg]; exact Nat.ne_of_lt (blk_lt (g := gb611) (o := .cells #[.bool x612000_1, .int .u64 x612001_1, .int .u64 x612002_1, .bool x612003_1, .int .u64 x612004_1, .int .u64 x612005_1] 66 (0, 0)) (zK BK611)) : gb611 ≠ gb616)); have NB616_611 := Aside0.mk ((by rw [hg]; exact Nat.ne_of_gt (blk_lt (g := gb611) (o := .cells #[.bool x612000_1, .int .u64 x612001_1, .int .u64 x612002_1, .bool x612003_1, .int .u64 x612004_1, .int .u64 x612005_1] 66 (0, 0)) (zK BK611)) : gb616 ≠ gb611)); replace BK611 := Aside0.mk (blk_below (g := gb611) (o := .cells #[.bool x612000_1, .int .u64 x612001_1, .int .u64 x612002_1, .bool x612003_1, .int .u64 x612004_1, .int .u64 x612005_1] 66 (0, 0)) (zK BK611) hb); clear hb hbox hg; have hnb8 := NB616_611.out; have hnc8 := NB611_616.out; obtain ⟨hcz9_0, hcz9_1, hcz9_2, hcz9_3, hcz9_4, hcz9_5⟩ := zc6 BK616; obtain ⟨hfz9_0, hfz9_1, hfz9_2, hfz9_3, hfz9_4, hfz9_5⟩ := zf6 BK616))
       (try simp only [Act.put, List.setIfInBounds_toArray, List.set_cons_zero, List.set_cons_succ])
       go_cut [32] (fun v32 wc => ∃ (kq : Nat) (x32_5 : Bool), v32 = .bool x32_5 ∧ Aside0 (intrusionref07_add.j1 kq l0 x5_1 x6_1 x7_1 x32_5 x612000_1 x612001_1 x612002_1 x612003_1 x612004_1 x612005_1 ((rd_T66 l0 x7_1).f0.f0) ((rd_T66 l0 x7_1).f0.f1) ((rd_T66 l0 x7_1).f0.f2) ((rd_T66 l0 x7_1).f1.f0) ((rd_T66 l0 x7_1).f1.f1) ((rd_T66 l0 x7_1).f1.f2) = some r) ∧ Aside0 (kq ≤ k1) ∧ Aside0 (Kd.R k66 66 wc w.heap.size (fun k_ => k_ ≠ gb611 ∧ k_ ≠ gb616) u5 x5_1) ∧ Aside0 (wc.heap[gb611]? = some (.cells #[.bool x612000_1, .int .u64 x612001_1, .int .u64 x612002_1, .bool x612003_1, .int .u64 x612004_1, .int .u64 x612005_1] 66 (0, 0))) ∧ Aside0 (wc.heap[gb616]? = some (.cells #[.bool ((rd_T66 l0 x7_1).f0.f0), .int .u64 ((rd_T66 l0 x7_1).f0.f1), .int .u64 ((rd_T66 l0 x7_1).f0.f2), .bool ((rd_T66 l0 x7_1).f1.f0), .int .u64 ((rd_T66 l0 x7_1).f1.f1), .int .u64 ((rd_T66 l0 x7_1).f1.f2)] 66 (0, 0))) ∧ Aside0 (Below w.heap.size w wc))
       case first =>
        have H := HC6.out
        clear HC6
        by_cases c10 : x6_1 = true
        · subst c10
          rw [if_pos rfl] at H
          have H' := Aside0.mk H
          clear H
          go_wp2
          go_meet
          case rel => exact ⟨_, (true), (by first | rfl | (simp; done) | (simp [*]; done)), H', ⟨by have := HK1.out; first | omega | exact Nat.le_refl _⟩, ⟨by (with_reducible repeat (first | apply Kd.R_alloc | apply Kd.R_drewN | apply Kd.R_drew)); exact Kd.R_mono (Kd.R_far (p := ⟨gb616, 5, none⟩) (Kd.R_far (p := ⟨gb616, 4, none⟩) (Kd.R_far (p := ⟨gb616, 3, none⟩) (Kd.R_far (p := ⟨gb616, 2, none⟩) (Kd.R_far (p := ⟨gb616, 1, none⟩) (Kd.R_far (p := ⟨gb616, 0, none⟩) (Kd.R_mono HO_5.out (fun k_ hk => (⟨hk, hk.2⟩ : _ ∧ k_ ≠ gb616))) (fun _ hk => hk.2) (.bool ((rd_T66 l0 x7_1).f0.f0))) (fun _ hk => hk.2) (.int .u64 ((rd_T66 l0 x7_1).f0.f1))) (fun _ hk => hk.2) (.int .u64 ((rd_T66 l0 x7_1).f0.f2))) (fun _ hk => hk.2) (.bool ((rd_T66 l0 x7_1).f1.f0))) (fun _ hk => hk.2) (.int .u64 ((rd_T66 l0 x7_1).f1.f1))) (fun _ hk => hk.2) (.int .u64 ((rd_T66 l0 x7_1).f1.f2))) (fun _ hk => ⟨hk.1.1, hk.1.2⟩)⟩, ⟨by refine zL ?_; refine blk_far ?_ NB611_616.out _; refine zL ?_; refine blk_far ?_ NB611_616.out _; refine zL ?_; refine blk_far ?_ NB611_616.out _; refine zL ?_; refine blk_far ?_ NB611_616.out _; refine zL ?_; refine blk_far ?_ NB611_616.out _; refine zL ?_; refine blk_far ?_ NB611_616.out _; refine zL ?_; exact BK611.out⟩, ⟨by refine zL ?_; refine blk_put (cs := #[.bool ((rd_T66 l0 x7_1).f0.f0), .int .u64 ((rd_T66 l0 x7_1).f0.f1), .int .u64 ((rd_T66 l0 x7_1).f0.f2), .bool ((rd_T66 l0 x7_1).f1.f0), .int .u64 ((rd_T66 l0 x7_1).f1.f1), .int .u64 0]) ?_ 5 _ rfl; refine zL ?_; refine blk_put (cs := #[.bool ((rd_T66 l0 x7_1).f0.f0), .int .u64 ((rd_T66 l0 x7_1).f0.f1), .int .u64 ((rd_T66 l0 x7_1).f0.f2), .bool ((rd_T66 l0 x7_1).f1.f0), .int .u64 0, .int .u64 0]) ?_ 4 _ rfl; refine zL ?_; refine blk_put (cs := #[.bool ((rd_T66 l0 x7_1).f0.f0), .int .u64 ((rd_T66 l0 x7_1).f0.f1), .int .u64 ((rd_T66 l0 x7_1).f0.f2), .bool false, .int .u64 0, .int .u64 0]) ?_ 3 _ rfl; refine zL ?_; refine blk_put (cs := #[.bool ((rd_T66 l0 x7_1).f0.f0), .int .u64 ((rd_T66 l0 x7_1).f0.f1), .int .u64 0, .bool false, .int .u64 0, .int .u64 0]) ?_ 2 _ rfl; refine zL ?_; refine blk_put (cs := #[.bool ((rd_T66 l0 x7_1).f0.f0), .int .u64 0, .int .u64 0, .bool false, .int .u64 0, .int .u64 0]) ?_ 1 _ rfl; refine zL ?_; refine blk_put (cs := #[.bool false, .int .u64 0, .int .u64 0, .bool false, .int .u64 0, .int .u64 0]) ?_ 0 _ rfl; refine zL ?_; exact BK616.out⟩, ⟨zB HB⟩⟩
        · replace c10 := Bool.eq_false_iff.mpr c10
          subst c10
          rw [if_neg zF] at H
          replace H := Option.bind_eq_some_iff.mp H
          obtain ⟨t617, A110, H⟩ := H
          try dsimp only at H
          have A11 := Aside0.mk A110
          clear A110
          by_cases c12 : t617 = true
          · subst c12
            rw [if_pos rfl] at H
            replace H := Option.bind_eq_some_iff.mp H
            obtain ⟨t618, A130, H⟩ := H
            try dsimp only at H
            have A13 := Aside0.mk A130
            clear A130
            have H' := Aside0.mk H
            clear H
            have hnb14 := NB616_611.out
            have hnc14 := NB611_616.out
            obtain ⟨hcz15_0, hcz15_1, hcz15_2, hcz15_3, hcz15_4, hcz15_5⟩ := zc6 BK616
            obtain ⟨hfz15_0, hfz15_1, hfz15_2, hfz15_3, hfz15_4, hfz15_5⟩ := zf6 BK616
            obtain ⟨hcz16_0, hcz16_1, hcz16_2, hcz16_3, hcz16_4, hcz16_5⟩ := zc6 BK611
            obtain ⟨hfz16_0, hfz16_1, hfz16_2, hfz16_3, hfz16_4, hfz16_5⟩ := zf6 BK611
            go_wp2_with (first | (go_at_call 80; (with_reducible refine (intrusionref07_Before.calls ((rd_T66 l0 x7_1).f1.f0) ((rd_T66 l0 x7_1).f1.f1) ((rd_T66 l0 x7_1).f1.f2) x612000_1 x612001_1 x612002_1 true _ A11.out).mono ?_); rintro e w17 ⟨rfl, hb⟩; replace HO_5 := Aside0.mk (Kd.R_below (zQ (Kd.R_mono (Kd.R_far (p := ⟨gb616, 5, none⟩) (Kd.R_far (p := ⟨gb616, 4, none⟩) (Kd.R_far (p := ⟨gb616, 3, none⟩) (Kd.R_far (p := ⟨gb616, 2, none⟩) (Kd.R_far (p := ⟨gb616, 1, none⟩) (Kd.R_far (p := ⟨gb616, 0, none⟩) (Kd.R_mono HO_5.out (fun k_ hk => (⟨hk, hk.2⟩ : _ ∧ k_ ≠ gb616))) (fun _ hk => hk.2) (.bool ((rd_T66 l0 x7_1).f0.f0))) (fun _ hk => hk.2) (.int .u64 ((rd_T66 l0 x7_1).f0.f1))) (fun _ hk => hk.2) (.int .u64 ((rd_T66 l0 x7_1).f0.f2))) (fun _ hk => hk.2) (.bool ((rd_T66 l0 x7_1).f1.f0))) (fun _ hk => hk.2) (.int .u64 ((rd_T66 l0 x7_1).f1.f1))) (fun _ hk => hk.2) (.int .u64 ((rd_T66 l0 x7_1).f1.f2))) (fun _ h_ => h_.1))) hb); replace BK611 := Aside0.mk (blk_below (g := gb611) (o := .cells #[.bool x612000_1, .int .u64 x612001_1, .int .u64 x612002_1, .bool x612003_1, .int .u64 x612004_1, .int .u64 x612005_1] 66 (0, 0)) (by refine zL ?_; refine blk_far ?_ NB611_616.out _; refine zL ?_; refine blk_far ?_ NB611_616.out _; refine zL ?_; refine blk_far ?_ NB611_616.out _; refine zL ?_; refine blk_far ?_ NB611_616.out _; refine zL ?_; refine blk_far ?_ NB611_616.out _; refine zL ?_; refine blk_far ?_ NB611_616.out _; refine zL ?_; exact BK611.out) hb); replace BK616 := Aside0.mk (blk_below (g := gb616) (o := .cells #[.bool ((rd_T66 l0 x7_1).f0.f0), .int .u64 ((rd_T66 l0 x7_1).f0.f1), .int .u64 ((rd_T66 l0 x7_1).f0.f2), .bool ((rd_T66 l0 x7_1).f1.f0), .int .u64 ((rd_T66 l0 x7_1).f1.f1), .int .u64 ((rd_T66 l0 x7_1).f1.f2)] 66 (0, 0)) (by refine zL ?_; refine blk_put (cs := #[.bool ((rd_T66 l0 x7_1).f0.f0), .int .u64 ((rd_T66 l0 x7_1).f0.f1), .int .u64 ((rd_T66 l0 x7_1).f0.f2), .bool ((rd_T66 l0 x7_1).f1.f0), .int .u64 ((rd_T66 l0 x7_1).f1.f1), .int .u64 0]) ?_ 5 _ rfl; refine zL ?_; refine blk_put (cs := #[.bool ((rd_T66 l0 x7_1).f0.f0), .int .u64 ((rd_T66 l0 x7_1).f0.f1), .int .u64 ((rd_T66 l0 x7_1).f0.f2), .bool ((rd_T66 l0 x7_1).f1.f0), .int .u64 0, .int .u64 0]) ?_ 4 _ rfl; refine zL ?_; refine blk_put (cs := #[.bool ((rd_T66 l0 x7_1).f0.f0), .int .u64 ((rd_T66 l0 x7_1).f0.f1), .int .u64 ((rd_T66 l0 x7_1).f0.f2), .bool false, .int .u64 0, .int .u64 0]) ?_ 3 _ rfl; refine zL ?_; refine blk_put (cs := #[.bool ((rd_T66 l0 x7_1).f0.f0), .int .u64 ((rd_T66 l0 x7_1).f0.f1), .int .u64 0, .bool false, .int .u64 0, .int .u64 0]) ?_ 2 _ rfl; refine zL ?_; refine blk_put (cs := #[.bool ((rd_T66 l0 x7_1).f0.f0), .int .u64 0, .int .u64 0, .bool false, .int .u64 0, .int .u64 0]) ?_ 1 _ rfl; refine zL ?_; refine blk_put (cs := #[.bool false, .int .u64 0, .int .u64 0, .bool false, .int .u64 0, .int .u64 0]) ?_ 0 _ rfl; refine zL ?_; exact BK616.out) hb); replace HB := Aside0.mk (below_step (zB HB) hb); (try clear hb); obtain ⟨hcz18_0, hcz18_1, hcz18_2, hcz18_3, hcz18_4, hcz18_5⟩ := zc6 BK616; obtain ⟨hfz18_0, hfz18_1, hfz18_2, hfz18_3, hfz18_4, hfz18_5⟩ := zf6 BK616; obtain ⟨hcz19_0, hcz19_1, hcz19_2, hcz19_3, hcz19_4, hcz19_5⟩ := zc6 BK611; obtain ⟨hfz19_0, hfz19_1, hfz19_2, hfz19_3, hfz19_4, hfz19_5⟩ := zf6 BK611) | (go_at_call 81; (with_reducible refine (intrusionref07_joined.calls ((rd_T66 l0 x7_1).f0.f0) ((rd_T66 l0 x7_1).f0.f1) ((rd_T66 l0 x7_1).f0.f2) ((rd_T66 l0 x7_1).f1.f0) ((rd_T66 l0 x7_1).f1.f1) ((rd_T66 l0 x7_1).f1.f2) x612000_1 x612001_1 x612002_1 x612003_1 x612004_1 x612005_1 t618 _ A13.out).mono ?_); rintro e w20 ⟨rfl, hb⟩; replace HO_5 := Aside0.mk (Kd.R_below (zR HO_5) hb); replace BK611 := Aside0.mk (blk_below (g := gb611) (o := .cells #[.bool x612000_1, .int .u64 x612001_1, .int .u64 x612002_1, .bool x612003_1, .int .u64 x612004_1, .int .u64 x612005_1] 66 (0, 0)) (zK BK611) hb); replace BK616 := Aside0.mk (blk_below (g := gb616) (o := .cells #[.bool ((rd_T66 l0 x7_1).f0.f0), .int .u64 ((rd_T66 l0 x7_1).f0.f1), .int .u64 ((rd_T66 l0 x7_1).f0.f2), .bool ((rd_T66 l0 x7_1).f1.f0), .int .u64 ((rd_T66 l0 x7_1).f1.f1), .int .u64 ((rd_T66 l0 x7_1).f1.f2)] 66 (0, 0)) (zK BK616) hb); replace HB := Aside0.mk (below_step (zB HB) hb); (try clear hb)))
            go_meet
            case rel => exact ⟨_, (!t618), (by first | rfl | (simp; done) | (simp [*]; done)), H', ⟨by have := HK1.out; first | omega | exact Nat.le_refl _⟩, ⟨zR HO_5⟩, ⟨zK BK611⟩, ⟨zK BK616⟩, ⟨zB HB⟩⟩
          · replace c12 := Bool.eq_false_iff.mpr c12
            subst c12
            rw [if_neg zF] at H
            have H' := Aside0.mk H
            clear H
            have hnb21 := NB616_611.out
            have hnc21 := NB611_616.out
            obtain ⟨hcz22_0, hcz22_1, hcz22_2, hcz22_3, hcz22_4, hcz22_5⟩ := zc6 BK616
            obtain ⟨hfz22_0, hfz22_1, hfz22_2, hfz22_3, hfz22_4, hfz22_5⟩ := zf6 BK616
            obtain ⟨hcz23_0, hcz23_1, hcz23_2, hcz23_3, hcz23_4, hcz23_5⟩ := zc6 BK611
            obtain ⟨hfz23_0, hfz23_1, hfz23_2, hfz23_3, hfz23_4, hfz23_5⟩ := zf6 BK611
            go_wp2_with (first | (go_at_call 80; (with_reducible refine (intrusionref07_Before.calls ((rd_T66 l0 x7_1).f1.f0) ((rd_T66 l0 x7_1).f1.f1) ((rd_T66 l0 x7_1).f1.f2) x612000_1 x612001_1 x612002_1 false _ A11.out).mono ?_); rintro e w24 ⟨rfl, hb⟩; replace HO_5 := Aside0.mk (Kd.R_below (zQ (Kd.R_mono (Kd.R_far (p := ⟨gb616, 5, none⟩) (Kd.R_far (p := ⟨gb616, 4, none⟩) (Kd.R_far (p := ⟨gb616, 3, none⟩) (Kd.R_far (p := ⟨gb616, 2, none⟩) (Kd.R_far (p := ⟨gb616, 1, none⟩) (Kd.R_far (p := ⟨gb616, 0, none⟩) (Kd.R_mono HO_5.out (fun k_ hk => (⟨hk, hk.2⟩ : _ ∧ k_ ≠ gb616))) (fun _ hk => hk.2) (.bool ((rd_T66 l0 x7_1).f0.f0))) (fun _ hk => hk.2) (.int .u64 ((rd_T66 l0 x7_1).f0.f1))) (fun _ hk => hk.2) (.int .u64 ((rd_T66 l0 x7_1).f0.f2))) (fun _ hk => hk.2) (.bool ((rd_T66 l0 x7_1).f1.f0))) (fun _ hk => hk.2) (.int .u64 ((rd_T66 l0 x7_1).f1.f1))) (fun _ hk => hk.2) (.int .u64 ((rd_T66 l0 x7_1).f1.f2))) (fun _ h_ => h_.1))) hb); replace BK611 := Aside0.mk (blk_below (g := gb611) (o := .cells #[.bool x612000_1, .int .u64 x612001_1, .int .u64 x612002_1, .bool x612003_1, .int .u64 x612004_1, .int .u64 x612005_1] 66 (0, 0)) (by refine zL ?_; refine blk_far ?_ NB611_616.out _; refine zL ?_; refine blk_far ?_ NB611_616.out _; refine zL ?_; refine blk_far ?_ NB611_616.out _; refine zL ?_; refine blk_far ?_ NB611_616.out _; refine zL ?_; refine blk_far ?_ NB611_616.out _; refine zL ?_; refine blk_far ?_ NB611_616.out _; refine zL ?_; exact BK611.out) hb); replace BK616 := Aside0.mk (blk_below (g := gb616) (o := .cells #[.bool ((rd_T66 l0 x7_1).f0.f0), .int .u64 ((rd_T66 l0 x7_1).f0.f1), .int .u64 ((rd_T66 l0 x7_1).f0.f2), .bool ((rd_T66 l0 x7_1).f1.f0), .int .u64 ((rd_T66 l0 x7_1).f1.f1), .int .u64 ((rd_T66 l0 x7_1).f1.f2)] 66 (0, 0)) (by refine zL ?_; refine blk_put (cs := #[.bool ((rd_T66 l0 x7_1).f0.f0), .int .u64 ((rd_T66 l0 x7_1).f0.f1), .int .u64 ((rd_T66 l0 x7_1).f0.f2), .bool ((rd_T66 l0 x7_1).f1.f0), .int .u64 ((rd_T66 l0 x7_1).f1.f1), .int .u64 0]) ?_ 5 _ rfl; refine zL ?_; refine blk_put (cs := #[.bool ((rd_T66 l0 x7_1).f0.f0), .int .u64 ((rd_T66 l0 x7_1).f0.f1), .int .u64 ((rd_T66 l0 x7_1).f0.f2), .bool ((rd_T66 l0 x7_1).f1.f0), .int .u64 0, .int .u64 0]) ?_ 4 _ rfl; refine zL ?_; refine blk_put (cs := #[.bool ((rd_T66 l0 x7_1).f0.f0), .int .u64 ((rd_T66 l0 x7_1).f0.f1), .int .u64 ((rd_T66 l0 x7_1).f0.f2), .bool false, .int .u64 0, .int .u64 0]) ?_ 3 _ rfl; refine zL ?_; refine blk_put (cs := #[.bool ((rd_T66 l0 x7_1).f0.f0), .int .u64 ((rd_T66 l0 x7_1).f0.f1), .int .u64 0, .bool false, .int .u64 0, .int .u64 0]) ?_ 2 _ rfl; refine zL ?_; refine blk_put (cs := #[.bool ((rd_T66 l0 x7_1).f0.f0), .int .u64 0, .int .u64 0, .bool false, .int .u64 0, .int .u64 0]) ?_ 1 _ rfl; refine zL ?_; refine blk_put (cs := #[.bool false, .int .u64 0, .int .u64 0, .bool false, .int .u64 0, .int .u64 0]) ?_ 0 _ rfl; refine zL ?_; exact BK616.out) hb); replace HB := Aside0.mk (below_step (zB HB) hb); (try clear hb)))
            go_meet
            case rel => exact ⟨_, (false), (by first | rfl | (simp; done) | (simp [*]; done)), H', ⟨by have := HK1.out; first | omega | exact Nat.le_refl _⟩, ⟨zR HO_5⟩, ⟨zK BK611⟩, ⟨zK BK616⟩, ⟨zB HB⟩⟩
       case rest =>
        clear HC6
        try clear c1
        try clear c2
        try clear p2
        try clear c4
        try clear c4b0
        try clear c5
        try clear c5b0
        try clear p6
        try clear q6
        try clear hx6
        try clear c7
        try clear c8
        try clear c10
        try clear c12
        try clear c14
        try clear c21
        try clear hcz15_0
        try clear hcz15_1
        try clear hcz15_2
        try clear hcz15_3
        try clear hcz15_4
        try clear hcz15_5
        try clear hcz16_0
        try clear hcz16_1
        try clear hcz16_2
        try clear hcz16_3
        try clear hcz16_4
        try clear hcz16_5
        try clear hcz18_0
        try clear hcz18_1
        try clear hcz18_2
        try clear hcz18_3
        try clear hcz18_4
        try clear hcz18_5
        try clear hcz19_0
        try clear hcz19_1
        try clear hcz19_2
        try clear hcz19_3
        try clear hcz19_4
        try clear hcz19_5
        try clear hcz22_0
        try clear hcz22_1
        try clear hcz22_2
        try clear hcz22_3
        try clear hcz22_4
        try clear hcz22_5
        try clear hcz23_0
        try clear hcz23_1
        try clear hcz23_2
        try clear hcz23_3
        try clear hcz23_4
        try clear hcz23_5
        try clear hcz9_0
        try clear hcz9_1
        try clear hcz9_2
        try clear hcz9_3
        try clear hcz9_4
        try clear hcz9_5
        try clear hfz15_0
        try clear hfz15_1
        try clear hfz15_2
        try clear hfz15_3
        try clear hfz15_4
        try clear hfz15_5
        try clear hfz16_0
        try clear hfz16_1
        try clear hfz16_2
        try clear hfz16_3
        try clear hfz16_4
        try clear hfz16_5
        try clear hfz18_0
        try clear hfz18_1
        try clear hfz18_2
        try clear hfz18_3
        try clear hfz18_4
        try clear hfz18_5
        try clear hfz19_0
        try clear hfz19_1
        try clear hfz19_2
        try clear hfz19_3
        try clear hfz19_4
        try clear hfz19_5
        try clear hfz22_0
        try clear hfz22_1
        try clear hfz22_2
        try clear hfz22_3
        try clear hfz22_4
        try clear hfz22_5
        try clear hfz23_0
        try clear hfz23_1
        try clear hfz23_2
        try clear hfz23_3
        try clear hfz23_4
        try clear hfz23_5
        try clear hfz9_0
        try clear hfz9_1
        try clear hfz9_2
        try clear hfz9_3
        try clear hfz9_4
        try clear hfz9_5
        try clear hx615_0
        try clear hx615_1
        try clear hx615_2
        try clear hx615_3
        try clear hx615_4
        try clear hx615_5
        try clear p2
        try clear p615
        try clear q615
        obtain ⟨kq, x32_5, rfl, HA, HJ5, HO_5, BK611, BK616, HB⟩ := hcut
        cases kq with
        | zero => exact absurd HA.out (by simp [intrusionref07_add.j1])
        | succ kj5 =>
         have H := HA.out
         clear HA
         simp only [intrusionref07_add.j1] at H
         by_cases c25 : x32_5 = true
         · subst c25
           rw [if_pos rfl] at H
           by_cases c26 : x5_1.length < 2932031007402
           · rw [if_pos c26] at H
             have LMc26 := Aside0.mk c26
             clear c26
             obtain ⟨y619, hy619⟩ : ∃ y_ : List (S66), y_ = (x5_1 ++ [(⟨(⟨((rd_T66 l0 x7_1).f0.f0), ((rd_T66 l0 x7_1).f0.f1), ((rd_T66 l0 x7_1).f0.f2)⟩ : S36), (⟨((rd_T66 l0 x7_1).f1.f0), ((rd_T66 l0 x7_1).f1.f1), ((rd_T66 l0 x7_1).f1.f2)⟩ : S36)⟩ : S66)]) := ⟨_, rfl⟩
             rw [← hy619] at H; try dsimp only [Option.bind_some] at H
             have Ny619 := Aside0.mk hy619
             clear hy619
             have H' := Aside0.mk H
             clear H
             have hnb27 := NB616_611.out
             have hnc27 := NB611_616.out
             obtain ⟨hcz28_0, hcz28_1, hcz28_2, hcz28_3, hcz28_4, hcz28_5⟩ := zc6 BK616
             obtain ⟨hfz28_0, hfz28_1, hfz28_2, hfz28_3, hfz28_4, hfz28_5⟩ := zf6 BK616
             go_wp2_with (first | ((with_reducible refine gate_builtin (b := .append) (xs := #[.tmp 33, .tmp 35]) rfl ?_); at_builtin; refine Kd.R_append k66 (w0 := w) w.heap.size rfl (.tmp 33) (.tmp 35) 33 66 (.agg #[(.bool false), (.int .u64 0), (.int .u64 0), (.bool false), (.int .u64 0), (.int .u64 0)]) 48 rfl Try.underlying33 info66 rfl (by decide) (by omega) u5 x5_1 (⟨(⟨((rd_T66 l0 x7_1).f0.f0), ((rd_T66 l0 x7_1).f0.f1), ((rd_T66 l0 x7_1).f0.f2)⟩ : S36), (⟨((rd_T66 l0 x7_1).f1.f0), ((rd_T66 l0 x7_1).f1.f1), ((rd_T66 l0 x7_1).f1.f2)⟩ : S36)⟩ : S66) [.bool ((rd_T66 l0 x7_1).f0.f0), .int .u64 ((rd_T66 l0 x7_1).f0.f1), .int .u64 ((rd_T66 l0 x7_1).f0.f2), .bool ((rd_T66 l0 x7_1).f1.f0), .int .u64 ((rd_T66 l0 x7_1).f1.f1), .int .u64 ((rd_T66 l0 x7_1).f1.f2)] (fun k_ => k_ ≠ gb611 ∧ k_ ≠ gb616) (fun _ => False) rfl rfl ?aP (fun _ hk => hk.elim) ?aF ?aO ?aB ?aS ?aL ?_; (case aP => exact k66_mkM _ _ _ (⟨(⟨((rd_T66 l0 x7_1).f0.f0), ((rd_T66 l0 x7_1).f0.f1), ((rd_T66 l0 x7_1).f0.f2)⟩ : S36), (⟨((rd_T66 l0 x7_1).f1.f0), ((rd_T66 l0 x7_1).f1.f1), ((rd_T66 l0 x7_1).f1.f2)⟩ : S36)⟩ : S66)); (case aB => exact (zB HB)); (case aF => exact (fun k_ hk => ⟨Kd.freshB (g := gb611) (o := .cells #[.bool x612000_1, .int .u64 x612001_1, .int .u64 x612002_1, .bool x612003_1, .int .u64 x612004_1, .int .u64 x612005_1] 66 (0, 0)) (zK BK611) k_ hk, Kd.freshB (g := gb616) (o := .cells #[.bool ((rd_T66 l0 x7_1).f0.f0), .int .u64 ((rd_T66 l0 x7_1).f0.f1), .int .u64 ((rd_T66 l0 x7_1).f0.f2), .bool ((rd_T66 l0 x7_1).f1.f0), .int .u64 ((rd_T66 l0 x7_1).f1.f1), .int .u64 ((rd_T66 l0 x7_1).f1.f2)] 66 (0, 0)) (zK BK616) k_ hk⟩)); (case aO => exact (zR HO_5)); (case aS => exact (below_size (zB HB))); (case aL => have := LMc26.out; omega); intro v620 w29 ho hb hg hat; rw [← Ny619.out] at ho; replace BK611 := Aside0.mk (blk_grown (g := gb611) (o := .cells #[.bool x612000_1, .int .u64 x612001_1, .int .u64 x612002_1, .bool x612003_1, .int .u64 x612004_1, .int .u64 x612005_1] 66 (0, 0)) (zK BK611) hg (Kd.R_away HO_5.out (fun _ hk => hk.1))); replace BK616 := Aside0.mk (blk_grown (g := gb616) (o := .cells #[.bool ((rd_T66 l0 x7_1).f0.f0), .int .u64 ((rd_T66 l0 x7_1).f0.f1), .int .u64 ((rd_T66 l0 x7_1).f0.f2), .bool ((rd_T66 l0 x7_1).f1.f0), .int .u64 ((rd_T66 l0 x7_1).f1.f1), .int .u64 ((rd_T66 l0 x7_1).f1.f2)] 66 (0, 0)) (zK BK616) hg (Kd.R_away HO_5.out (fun _ hk => hk.2))); replace HB := Aside0.mk (hb); have HO621 := Aside0.mk (ho); clear HO_5; clear ho hb hg hat))
             go_roundg kj5
             case measure => have := HK1.out; have := HJ5.out; omega
             case rel => exact ⟨(y619), (x6_1), (wrap64 (x7_1 + 1)), (x612000_1), (x612001_1), (x612002_1), (x612003_1), (x612004_1), (x612005_1), (by first | rfl | (simp; done) | (simp [*]; done)), (by first | rfl | (simp; done) | (simp [*]; done)), H', ⟨by have := HK1.out; have := HJ5.out; omega⟩, ⟨by (with_reducible repeat (first | apply Kd.R_alloc | apply Kd.R_drewN | apply Kd.R_drew)); exact Kd.R_mono HO621.out (fun _ hk => hk.1)⟩, ⟨zK BK611⟩, ⟨zB HB⟩⟩
           · rw [if_neg c26] at H
             exact absurd H (by simp)
         · replace c25 := Bool.eq_false_iff.mpr c25
           subst c25
           rw [if_neg zF] at H
           have HC30 := Aside0.mk H
           clear H
           go_upto_region 9 with (fail)
           go_cut [47] (fun v47 wc => ∃ (kq : Nat) (x47_29 : Bool), v47 = .bool x47_29 ∧ Aside0 (intrusionref07_add.j2 kq l0 x5_1 x6_1 x7_1 x47_29 x612000_1 x612001_1 x612002_1 x612003_1 x612004_1 x612005_1 ((rd_T66 l0 x7_1).f0.f0) ((rd_T66 l0 x7_1).f0.f1) ((rd_T66 l0 x7_1).f0.f2) ((rd_T66 l0 x7_1).f1.f0) ((rd_T66 l0 x7_1).f1.f1) ((rd_T66 l0 x7_1).f1.f2) = some r) ∧ Aside0 (kq ≤ kj5) ∧ Aside0 (Kd.R k66 66 wc w.heap.size (fun k_ => k_ ≠ gb611 ∧ k_ ≠ gb616) u5 x5_1) ∧ Aside0 (wc.heap[gb611]? = some (.cells #[.bool x612000_1, .int .u64 x612001_1, .int .u64 x612002_1, .bool x612003_1, .int .u64 x612004_1, .int .u64 x612005_1] 66 (0, 0))) ∧ Aside0 (wc.heap[gb616]? = some (.cells #[.bool ((rd_T66 l0 x7_1).f0.f0), .int .u64 ((rd_T66 l0 x7_1).f0.f1), .int .u64 ((rd_T66 l0 x7_1).f0.f2), .bool ((rd_T66 l0 x7_1).f1.f0), .int .u64 ((rd_T66 l0 x7_1).f1.f1), .int .u64 ((rd_T66 l0 x7_1).f1.f2)] 66 (0, 0))) ∧ Aside0 (Below w.heap.size w wc))
           case first =>
            have H := HC30.out
            clear HC30
            replace H := Option.bind_eq_some_iff.mp H
            obtain ⟨t622, A310, H⟩ := H
            try dsimp only at H
            have A31 := Aside0.mk A310
            clear A310
            by_cases c32 : t622 = true
            · subst c32
              rw [if_pos rfl] at H
              replace H := Option.bind_eq_some_iff.mp H
              obtain ⟨t623, A330, H⟩ := H
              try dsimp only at H
              have A33 := Aside0.mk A330
              clear A330
              have H' := Aside0.mk H
              clear H
              have hnb34 := NB611_616.out
              have hnc34 := NB616_611.out
              obtain ⟨hcz35_0, hcz35_1, hcz35_2, hcz35_3, hcz35_4, hcz35_5⟩ := zc6 BK611
              obtain ⟨hfz35_0, hfz35_1, hfz35_2, hfz35_3, hfz35_4, hfz35_5⟩ := zf6 BK611
              obtain ⟨hcz36_0, hcz36_1, hcz36_2, hcz36_3, hcz36_4, hcz36_5⟩ := zc6 BK616
              obtain ⟨hfz36_0, hfz36_1, hfz36_2, hfz36_3, hfz36_4, hfz36_5⟩ := zf6 BK616
              go_wp2_with (first | ((with_reducible refine gate_callee (f := 80) rfl ?_); refine goesL_ (some 41) rfl rfl Try.func80 (by kernel_rfl) rfl #[.agg #[.bool x612003_1, .int .u64 x612004_1, .int .u64 x612005_1], .agg #[.bool ((rd_T66 l0 x7_1).f0.f0), .int .u64 ((rd_T66 l0 x7_1).f0.f1), .int .u64 ((rd_T66 l0 x7_1).f0.f2)]] rfl (by (try simp only [List.map_toArray, List.map_cons, List.map_nil]); first | done | rfl | (simp only [List.length_drop, List.length_take]; rfl)) ?_; (with_reducible refine (intrusionref07_Before.calls x612003_1 x612004_1 x612005_1 ((rd_T66 l0 x7_1).f0.f0) ((rd_T66 l0 x7_1).f0.f1) ((rd_T66 l0 x7_1).f0.f2) true _ A31.out).mono ?_); rintro e w37 ⟨rfl, hb⟩; refine ⟨_, rfl, ?_⟩; replace HO_5 := Aside0.mk (Kd.R_below (zR HO_5) hb); replace BK611 := Aside0.mk (blk_below (g := gb611) (o := .cells #[.bool x612000_1, .int .u64 x612001_1, .int .u64 x612002_1, .bool x612003_1, .int .u64 x612004_1, .int .u64 x612005_1] 66 (0, 0)) (zK BK611) hb); replace BK616 := Aside0.mk (blk_below (g := gb616) (o := .cells #[.bool ((rd_T66 l0 x7_1).f0.f0), .int .u64 ((rd_T66 l0 x7_1).f0.f1), .int .u64 ((rd_T66 l0 x7_1).f0.f2), .bool ((rd_T66 l0 x7_1).f1.f0), .int .u64 ((rd_T66 l0 x7_1).f1.f1), .int .u64 ((rd_T66 l0 x7_1).f1.f2)] 66 (0, 0)) (zK BK616) hb); replace HB := Aside0.mk (below_step (zB HB) hb); (try clear hb); obtain ⟨hcz38_0, hcz38_1, hcz38_2, hcz38_3, hcz38_4, hcz38_5⟩ := zc6 BK611; obtain ⟨hfz38_0, hfz38_1, hfz38_2, hfz38_3, hfz38_4, hfz38_5⟩ := zf6 BK611; obtain ⟨hcz39_0, hcz39_1, hcz39_2, hcz39_3, hcz39_4, hcz39_5⟩ := zc6 BK616; obtain ⟨hfz39_0, hfz39_1, hfz39_2, hfz39_3, hfz39_4, hfz39_5⟩ := zf6 BK616) | (go_at_call 81; (with_reducible refine (intrusionref07_joined.calls x612000_1 x612001_1 x612002_1 x612003_1 x612004_1 x612005_1 ((rd_T66 l0 x7_1).f0.f0) ((rd_T66 l0 x7_1).f0.f1) ((rd_T66 l0 x7_1).f0.f2) ((rd_T66 l0 x7_1).f1.f0) ((rd_T66 l0 x7_1).f1.f1) ((rd_T66 l0 x7_1).f1.f2) t623 _ A33.out).mono ?_); rintro e w40 ⟨rfl, hb⟩; replace HO_5 := Aside0.mk (Kd.R_below (zR HO_5) hb); replace BK611 := Aside0.mk (blk_below (g := gb611) (o := .cells #[.bool x612000_1, .int .u64 x612001_1, .int .u64 x612002_1, .bool x612003_1, .int .u64 x612004_1, .int .u64 x612005_1] 66 (0, 0)) (zK BK611) hb); replace BK616 := Aside0.mk (blk_below (g := gb616) (o := .cells #[.bool ((rd_T66 l0 x7_1).f0.f0), .int .u64 ((rd_T66 l0 x7_1).f0.f1), .int .u64 ((rd_T66 l0 x7_1).f0.f2), .bool ((rd_T66 l0 x7_1).f1.f0), .int .u64 ((rd_T66 l0 x7_1).f1.f1), .int .u64 ((rd_T66 l0 x7_1).f1.f2)] 66 (0, 0)) (zK BK616) hb); replace HB := Aside0.mk (below_step (zB HB) hb); (try clear hb)))
              go_meet
              case rel => exact ⟨_, (!t623), (by first | rfl | (simp; done) | (simp [*]; done)), H', ⟨by have := HK1.out; have := HJ5.out; first | omega | exact Nat.le_refl _⟩, ⟨zR HO_5⟩, ⟨zK BK611⟩, ⟨zK BK616⟩, ⟨zB HB⟩⟩
            · replace c32 := Bool.eq_false_iff.mpr c32
              subst c32
              rw [if_neg zF] at H
              have H' := Aside0.mk H
              clear H
              have hnb41 := NB611_616.out
              have hnc41 := NB616_611.out
              obtain ⟨hcz42_0, hcz42_1, hcz42_2, hcz42_3, hcz42_4, hcz42_5⟩ := zc6 BK611
              obtain ⟨hfz42_0, hfz42_1, hfz42_2, hfz42_3, hfz42_4, hfz42_5⟩ := zf6 BK611
              obtain ⟨hcz43_0, hcz43_1, hcz43_2, hcz43_3, hcz43_4, hcz43_5⟩ := zc6 BK616
              obtain ⟨hfz43_0, hfz43_1, hfz43_2, hfz43_3, hfz43_4, hfz43_5⟩ := zf6 BK616
              go_wp2_with (first | ((with_reducible refine gate_callee (f := 80) rfl ?_); refine goesL_ (some 41) rfl rfl Try.func80 (by kernel_rfl) rfl #[.agg #[.bool x612003_1, .int .u64 x612004_1, .int .u64 x612005_1], .agg #[.bool ((rd_T66 l0 x7_1).f0.f0), .int .u64 ((rd_T66 l0 x7_1).f0.f1), .int .u64 ((rd_T66 l0 x7_1).f0.f2)]] rfl (by (try simp only [List.map_toArray, List.map_cons, List.map_nil]); first | done | rfl | (simp only [List.length_drop, List.length_take]; rfl)) ?_; (with_reducible refine (intrusionref07_Before.calls x612003_1 x612004_1 x612005_1 ((rd_T66 l0 x7_1).f0.f0) ((rd_T66 l0 x7_1).f0.f1) ((rd_T66 l0 x7_1).f0.f2) false _ A31.out).mono ?_); rintro e w44 ⟨rfl, hb⟩; refine ⟨_, rfl, ?_⟩; replace HO_5 := Aside0.mk (Kd.R_below (zR HO_5) hb); replace BK611 := Aside0.mk (blk_below (g := gb611) (o := .cells #[.bool x612000_1, .int .u64 x612001_1, .int .u64 x612002_1, .bool x612003_1, .int .u64 x612004_1, .int .u64 x612005_1] 66 (0, 0)) (zK BK611) hb); replace BK616 := Aside0.mk (blk_below (g := gb616) (o := .cells #[.bool ((rd_T66 l0 x7_1).f0.f0), .int .u64 ((rd_T66 l0 x7_1).f0.f1), .int .u64 ((rd_T66 l0 x7_1).f0.f2), .bool ((rd_T66 l0 x7_1).f1.f0), .int .u64 ((rd_T66 l0 x7_1).f1.f1), .int .u64 ((rd_T66 l0 x7_1).f1.f2)] 66 (0, 0)) (zK BK616) hb); replace HB := Aside0.mk (below_step (zB HB) hb); (try clear hb)))
              go_meet
              case rel => exact ⟨_, (false), (by first | rfl | (simp; done) | (simp [*]; done)), H', ⟨by have := HK1.out; have := HJ5.out; first | omega | exact Nat.le_refl _⟩, ⟨zR HO_5⟩, ⟨zK BK611⟩, ⟨zK BK616⟩, ⟨zB HB⟩⟩
           case rest =>
            clear HC30
            try clear c1
            try clear c2
            try clear p2
            try clear c3
            try clear c4
            try clear c4b0
            try clear c5
            try clear c5b0
            try clear p6
            try clear q6
            try clear hx6
            try clear c7
            try clear c8
            try clear c10
            try clear c12
            try clear c14
            try clear c21
            try clear c25
            try clear c26
            try clear c27
            try clear c32
            try clear c34
            try clear c41
            try clear hcz15_0
            try clear hcz15_1
            try clear hcz15_2
            try clear hcz15_3
            try clear hcz15_4
            try clear hcz15_5
            try clear hcz16_0
            try clear hcz16_1
            try clear hcz16_2
            try clear hcz16_3
            try clear hcz16_4
            try clear hcz16_5
            try clear hcz18_0
            try clear hcz18_1
            try clear hcz18_2
            try clear hcz18_3
            try clear hcz18_4
            try clear hcz18_5
            try clear hcz19_0
            try clear hcz19_1
            try clear hcz19_2
            try clear hcz19_3
            try clear hcz19_4
            try clear hcz19_5
            try clear hcz22_0
            try clear hcz22_1
            try clear hcz22_2
            try clear hcz22_3
            try clear hcz22_4
            try clear hcz22_5
            try clear hcz23_0
            try clear hcz23_1
            try clear hcz23_2
            try clear hcz23_3
            try clear hcz23_4
            try clear hcz23_5
            try clear hcz28_0
            try clear hcz28_1
            try clear hcz28_2
            try clear hcz28_3
            try clear hcz28_4
            try clear hcz28_5
            try clear hcz35_0
            try clear hcz35_1
            try clear hcz35_2
            try clear hcz35_3
            try clear hcz35_4
            try clear hcz35_5
            try clear hcz36_0
            try clear hcz36_1
            try clear hcz36_2
            try clear hcz36_3
            try clear hcz36_4
            try clear hcz36_5
            try clear hcz38_0
            try clear hcz38_1
            try clear hcz38_2
            try clear hcz38_3
            try clear hcz38_4
            try clear hcz38_5
            try clear hcz39_0
            try clear hcz39_1
            try clear hcz39_2
            try clear hcz39_3
            try clear hcz39_4
            try clear hcz39_5
            try clear hcz42_0
            try clear hcz42_1
            try clear hcz42_2
            try clear hcz42_3
            try clear hcz42_4
            try clear hcz42_5
            try clear hcz43_0
            try clear hcz43_1
            try clear hcz43_2
            try clear hcz43_3
            try clear hcz43_4
            try clear hcz43_5
            try clear hcz9_0
            try clear hcz9_1
            try clear hcz9_2
            try clear hcz9_3
            try clear hcz9_4
            try clear hcz9_5
            try clear hfz15_0
            try clear hfz15_1
            try clear hfz15_2
            try clear hfz15_3
            try clear hfz15_4
            try clear hfz15_5
            try clear hfz16_0
            try clear hfz16_1
            try clear hfz16_2
            try clear hfz16_3
            try clear hfz16_4
            try clear hfz16_5
            try clear hfz18_0
            try clear hfz18_1
            try clear hfz18_2
            try clear hfz18_3
            try clear hfz18_4
            try clear hfz18_5
            try clear hfz19_0
            try clear hfz19_1
            try clear hfz19_2
            try clear hfz19_3
            try clear hfz19_4
            try clear hfz19_5
            try clear hfz22_0
            try clear hfz22_1
            try clear hfz22_2
            try clear hfz22_3
            try clear hfz22_4
            try clear hfz22_5
            try clear hfz23_0
            try clear hfz23_1
            try clear hfz23_2
            try clear hfz23_3
            try clear hfz23_4
            try clear hfz23_5
            try clear hfz28_0
            try clear hfz28_1
            try clear hfz28_2
            try clear hfz28_3
            try clear hfz28_4
            try clear hfz28_5
            try clear hfz35_0
            try clear hfz35_1
            try clear hfz35_2
            try clear hfz35_3
            try clear hfz35_4
            try clear hfz35_5
            try clear hfz36_0
            try clear hfz36_1
            try clear hfz36_2
            try clear hfz36_3
            try clear hfz36_4
            try clear hfz36_5
            try clear hfz38_0
            try clear hfz38_1
            try clear hfz38_2
            try clear hfz38_3
            try clear hfz38_4
            try clear hfz38_5
            try clear hfz39_0
            try clear hfz39_1
            try clear hfz39_2
            try clear hfz39_3
            try clear hfz39_4
            try clear hfz39_5
            try clear hfz42_0
            try clear hfz42_1
            try clear hfz42_2
            try clear hfz42_3
            try clear hfz42_4
            try clear hfz42_5
            try clear hfz43_0
            try clear hfz43_1
            try clear hfz43_2
            try clear hfz43_3
            try clear hfz43_4
            try clear hfz43_5
            try clear hfz9_0
            try clear hfz9_1
            try clear hfz9_2
            try clear hfz9_3
            try clear hfz9_4
            try clear hfz9_5
            try clear hx615_0
            try clear hx615_1
            try clear hx615_2
            try clear hx615_3
            try clear hx615_4
            try clear hx615_5
            try clear p2
            try clear p6
            try clear p615
            try clear q6
            try clear q615
            obtain ⟨kq, x47_29, rfl, HA, HJ29, HO_5, BK611, BK616, HB⟩ := hcut
            cases kq with
            | zero => exact absurd HA.out (by simp [intrusionref07_add.j2])
            | succ kj29 =>
             have H := HA.out
             clear HA
             simp only [intrusionref07_add.j2] at H
             by_cases c45 : x47_29 = true
             · subst c45
               rw [if_pos rfl] at H
               obtain ⟨y624, hy624⟩ : ∃ y_ : List (S66), y_ = (([(⟨(⟨x612000_1, x612001_1, x612002_1⟩ : S36), (⟨x612003_1, x612004_1, x612005_1⟩ : S36)⟩ : S66), (⟨(⟨((rd_T66 l0 x7_1).f0.f0), ((rd_T66 l0 x7_1).f0.f1), ((rd_T66 l0 x7_1).f0.f2)⟩ : S36), (⟨((rd_T66 l0 x7_1).f1.f0), ((rd_T66 l0 x7_1).f1.f1), ((rd_T66 l0 x7_1).f1.f2)⟩ : S36)⟩ : S66)] : List (S66))) := ⟨_, rfl⟩
               rw [← hy624] at H; try dsimp only [Option.bind_some] at H
               have Ny624 := Aside0.mk hy624
               clear hy624
               by_cases c46 : x5_1.length + y624.length < 2932031007402
               · rw [if_pos c46] at H
                 have LMc46 := Aside0.mk c46
                 clear c46
                 obtain ⟨y627, hy627⟩ : ∃ y_ : List (S66), y_ = (x5_1 ++ y624) := ⟨_, rfl⟩
                 rw [← hy627] at H; try dsimp only [Option.bind_some] at H
                 have Ny627 := Aside0.mk hy627
                 clear hy627
                 have H' := Aside0.mk H
                 clear H
                 have hnb47 := NB611_616.out
                 have hnc47 := NB616_611.out
                 obtain ⟨hcz48_0, hcz48_1, hcz48_2, hcz48_3, hcz48_4, hcz48_5⟩ := zc6 BK611
                 obtain ⟨hfz48_0, hfz48_1, hfz48_2, hfz48_3, hfz48_4, hfz48_5⟩ := zf6 BK611
                 obtain ⟨hcz49_0, hcz49_1, hcz49_2, hcz49_3, hcz49_4, hcz49_5⟩ := zc6 BK616
                 obtain ⟨hfz49_0, hfz49_1, hfz49_2, hfz49_3, hfz49_4, hfz49_5⟩ := zf6 BK616
                 go_wp2_with (first | ((with_reducible refine gate_dst (N := 51) rfl ?_); refine Kd.R_lit k66 _ 66 ?hg (N := 51) ?hd (xs := ([(⟨(⟨x612000_1, x612001_1, x612002_1⟩ : S36), (⟨x612003_1, x612004_1, x612005_1⟩ : S36)⟩ : S66), (⟨(⟨((rd_T66 l0 x7_1).f0.f0), ((rd_T66 l0 x7_1).f0.f1), ((rd_T66 l0 x7_1).f0.f2)⟩ : S36), (⟨((rd_T66 l0 x7_1).f1.f0), ((rd_T66 l0 x7_1).f1.f1), ((rd_T66 l0 x7_1).f1.f2)⟩ : S36)⟩ : S66)] : List (S66))) (inner := [.bool x612000_1, .int .u64 x612001_1, .int .u64 x612002_1, .bool x612003_1, .int .u64 x612004_1, .int .u64 x612005_1, .bool ((rd_T66 l0 x7_1).f0.f0), .int .u64 ((rd_T66 l0 x7_1).f0.f1), .int .u64 ((rd_T66 l0 x7_1).f0.f2), .bool ((rd_T66 l0 x7_1).f1.f0), .int .u64 ((rd_T66 l0 x7_1).f1.f1), .int .u64 ((rd_T66 l0 x7_1).f1.f2)]) (ok := fun _ => True) (okp := fun _ => True) ?hr ?hp (fun _ hk => hk) trivial (Below.refl _ _) (Nat.le_refl _) (by simp) ?_; (case hd => rfl); (case hg => rfl); (case hr => first | (go_simp; done) | (go_simp; rfl)); (case hp => exact (Reps.c6 (show Kd.M k66 _ _ _ (⟨(⟨x612000_1, x612001_1, x612002_1⟩ : S36), (⟨x612003_1, x612004_1, x612005_1⟩ : S36)⟩ : S66) [.bool x612000_1, .int .u64 x612001_1, .int .u64 x612002_1, .bool x612003_1, .int .u64 x612004_1, .int .u64 x612005_1] from (k66_mkM _ _ _ (⟨(⟨x612000_1, x612001_1, x612002_1⟩ : S36), (⟨x612003_1, x612004_1, x612005_1⟩ : S36)⟩ : S66) )) (Reps.c6 (show Kd.M k66 _ _ _ (⟨(⟨((rd_T66 l0 x7_1).f0.f0), ((rd_T66 l0 x7_1).f0.f1), ((rd_T66 l0 x7_1).f0.f2)⟩ : S36), (⟨((rd_T66 l0 x7_1).f1.f0), ((rd_T66 l0 x7_1).f1.f1), ((rd_T66 l0 x7_1).f1.f2)⟩ : S36)⟩ : S66) [.bool ((rd_T66 l0 x7_1).f0.f0), .int .u64 ((rd_T66 l0 x7_1).f0.f1), .int .u64 ((rd_T66 l0 x7_1).f0.f2), .bool ((rd_T66 l0 x7_1).f1.f0), .int .u64 ((rd_T66 l0 x7_1).f1.f1), .int .u64 ((rd_T66 l0 x7_1).f1.f2)] from (k66_mkM _ _ _ (⟨(⟨((rd_T66 l0 x7_1).f0.f0), ((rd_T66 l0 x7_1).f0.f1), ((rd_T66 l0 x7_1).f0.f2)⟩ : S36), (⟨((rd_T66 l0 x7_1).f1.f0), ((rd_T66 l0 x7_1).f1.f1), ((rd_T66 l0 x7_1).f1.f2)⟩ : S36)⟩ : S66) )) (Reps.none _ _)))); intro v625 w50 ho51 hb hg_ hnew_; clear hg_ hnew_; (first | rw [← Ny624.out] at ho51 | (simp only [Int.reduceToNat] at ho51; rw [← Ny624.out] at ho51)); have HO626 := Aside0.mk (Kd.R_lower (Kd.R_newB (Kd.R_newB (Kd.R_new' ho51 (Kd.R_lt (zR HO_5))) (g := gb611) (o := .cells #[.bool x612000_1, .int .u64 x612001_1, .int .u64 x612002_1, .bool x612003_1, .int .u64 x612004_1, .int .u64 x612005_1] 66 (0, 0)) (zK BK611)) (g := gb616) (o := .cells #[.bool ((rd_T66 l0 x7_1).f0.f0), .int .u64 ((rd_T66 l0 x7_1).f0.f1), .int .u64 ((rd_T66 l0 x7_1).f0.f2), .bool ((rd_T66 l0 x7_1).f1.f0), .int .u64 ((rd_T66 l0 x7_1).f1.f1), .int .u64 ((rd_T66 l0 x7_1).f1.f2)] 66 (0, 0)) (zK BK616)) (below_size (zB HB))); replace HO_5 := Aside0.mk (Kd.R_elder' (zR HO_5) (Kd.R_base ho51) hb); replace BK611 := Aside0.mk (blk_below (g := gb611) (o := .cells #[.bool x612000_1, .int .u64 x612001_1, .int .u64 x612002_1, .bool x612003_1, .int .u64 x612004_1, .int .u64 x612005_1] 66 (0, 0)) (zK BK611) hb); replace BK616 := Aside0.mk (blk_below (g := gb616) (o := .cells #[.bool ((rd_T66 l0 x7_1).f0.f0), .int .u64 ((rd_T66 l0 x7_1).f0.f1), .int .u64 ((rd_T66 l0 x7_1).f0.f2), .bool ((rd_T66 l0 x7_1).f1.f0), .int .u64 ((rd_T66 l0 x7_1).f1.f1), .int .u64 ((rd_T66 l0 x7_1).f1.f2)] 66 (0, 0)) (zK BK616) hb); replace HB := Aside0.mk (below_step (zB HB) hb); clear hb ho51; obtain ⟨Ao53, co53, eo53⟩ := Kd.R_slice HO626.out; subst eo53) | ((with_reducible refine gate_builtin (b := .append) (xs := #[.tmp 48, .tmp 51]) rfl ?_); at_builtin; refine Kd.R_append_rows k66 (w0 := w) w.heap.size rfl (.tmp 48) (.tmp 51) 33 66 (.agg #[(.bool false), (.int .u64 0), (.int .u64 0), (.bool false), (.int .u64 0), (.int .u64 0)]) 48 rfl Try.underlying33 info66 rfl (by decide) (by omega) u5 x5_1 y624 _ _ _ (fun k_ => some k_ ≠ (.slice Ao53 y624.length co53 : Value).ownBlock ∧ k_ ≠ gb611 ∧ k_ ≠ gb616) (fun _ => False) rfl rfl ?aO ?aR (fun _ _ h => h) (fun _ h => h.elim) ?aF ?aB ?aS ?aL ?_; (case aR => repeat (first | exact (Kd.R_reads' HO626.out).2.2 | (with_reducible refine Kd.C_alloc ?_ _) | (with_reducible refine Kd.C_drewN ?_ _) | (with_reducible refine Kd.C_drew ?_))); (case aB => exact (zB HB)); (case aF => exact (fun k_ hk => ⟨Kd.fresh' (Kd.R_lt (zR HO626)) k_ hk, Kd.freshB (g := gb611) (o := .cells #[.bool x612000_1, .int .u64 x612001_1, .int .u64 x612002_1, .bool x612003_1, .int .u64 x612004_1, .int .u64 x612005_1] 66 (0, 0)) (zK BK611) k_ hk, Kd.freshB (g := gb616) (o := .cells #[.bool ((rd_T66 l0 x7_1).f0.f0), .int .u64 ((rd_T66 l0 x7_1).f0.f1), .int .u64 ((rd_T66 l0 x7_1).f0.f2), .bool ((rd_T66 l0 x7_1).f1.f0), .int .u64 ((rd_T66 l0 x7_1).f1.f1), .int .u64 ((rd_T66 l0 x7_1).f1.f2)] 66 (0, 0)) (zK BK616) k_ hk⟩)); (case aO => exact (by (with_reducible repeat (first | apply Kd.R_alloc | apply Kd.R_drewN | apply Kd.R_drew)); exact Kd.R_mono HO_5.out (fun _ hk => ⟨hk.2, ⟨hk.1.1, hk.1.2⟩⟩))); (case aS => exact (below_size (zB HB))); (case aL => have := LMc46.out; omega); intro v628 w52 ho hb hg hat; rw [← Ny627.out] at ho; replace BK611 := Aside0.mk (blk_grown (g := gb611) (o := .cells #[.bool x612000_1, .int .u64 x612001_1, .int .u64 x612002_1, .bool x612003_1, .int .u64 x612004_1, .int .u64 x612005_1] 66 (0, 0)) (zK BK611) hg (Kd.R_away HO_5.out (fun _ hk => hk.1.1))); replace BK616 := Aside0.mk (blk_grown (g := gb616) (o := .cells #[.bool ((rd_T66 l0 x7_1).f0.f0), .int .u64 ((rd_T66 l0 x7_1).f0.f1), .int .u64 ((rd_T66 l0 x7_1).f0.f2), .bool ((rd_T66 l0 x7_1).f1.f0), .int .u64 ((rd_T66 l0 x7_1).f1.f1), .int .u64 ((rd_T66 l0 x7_1).f1.f2)] 66 (0, 0)) (zK BK616) hg (Kd.R_away HO_5.out (fun _ hk => hk.1.2))); replace HO626 := Aside0.mk (Kd.R_after (ok := (fun k_ => k_ ≠ gb611 ∧ k_ ≠ gb616)) (by (with_reducible repeat (first | apply Kd.R_alloc | apply Kd.R_drewN | apply Kd.R_drew)); exact Kd.R_mono HO626.out (fun _ hk => ⟨⟨hk.1.2, hk.2⟩, hk.1.1.2⟩)) hg hat); replace HB := Aside0.mk (hb); have HO629 := Aside0.mk (ho); clear HO_5; clear ho hb hg hat))
                 go_roundg kj29
                 case measure => have := HK1.out; have := HJ5.out; have := HJ29.out; omega
                 case rel => exact ⟨(y627), (true), (wrap64 (x7_1 + 1)), (x612000_1), (x612001_1), (x612002_1), (x612003_1), (x612004_1), (x612005_1), (by first | rfl | (simp; done) | (simp [*]; done)), (by first | rfl | (simp; done) | (simp [*]; done)), H', ⟨by have := HK1.out; have := HJ5.out; have := HJ29.out; omega⟩, ⟨by (with_reducible repeat (first | apply Kd.R_alloc | apply Kd.R_drewN | apply Kd.R_drew)); exact Kd.R_mono HO629.out (fun _ hk => hk.2.1)⟩, ⟨zK BK611⟩, ⟨zB HB⟩⟩
               · rw [if_neg c46] at H
                 exact absurd H (by simp)
             · replace c45 := Bool.eq_false_iff.mpr c45
               subst c45
               rw [if_neg zF] at H
               replace H := Option.bind_eq_some_iff.mp H
               obtain ⟨t630, A540, H⟩ := H
               try dsimp only at H
               have A54 := Aside0.mk A540
               clear A540
               by_cases c55 : t630 = true
               · subst c55
                 rw [if_pos rfl] at H
                 replace H := Option.bind_eq_some_iff.mp H
                 obtain ⟨t631, A560, H⟩ := H
                 try dsimp only at H
                 have A56 := Aside0.mk A560
                 clear A560
                 by_cases c57 : t631 = true
                 · subst c57
                   rw [if_pos rfl] at H
                   have H' := Aside0.mk H
                   clear H
                   have hnb58 := NB616_611.out
                   have hnc58 := NB611_616.out
                   obtain ⟨hcz59_0, hcz59_1, hcz59_2, hcz59_3, hcz59_4, hcz59_5⟩ := zc6 BK616
                   obtain ⟨hfz59_0, hfz59_1, hfz59_2, hfz59_3, hfz59_4, hfz59_5⟩ := zf6 BK616
                   obtain ⟨hcz60_0, hcz60_1, hcz60_2, hcz60_3, hcz60_4, hcz60_5⟩ := zc6 BK611
                   obtain ⟨hfz60_0, hfz60_1, hfz60_2, hfz60_3, hfz60_4, hfz60_5⟩ := zf6 BK611
                   go_wp2_with (first | ((with_reducible refine gate_callee (f := 80) rfl ?_); refine goesL_ (some 57) rfl rfl Try.func80 (by kernel_rfl) rfl #[.agg #[.bool ((rd_T66 l0 x7_1).f0.f0), .int .u64 ((rd_T66 l0 x7_1).f0.f1), .int .u64 ((rd_T66 l0 x7_1).f0.f2)], .agg #[.bool x612000_1, .int .u64 x612001_1, .int .u64 x612002_1]] rfl (by (try simp only [List.map_toArray, List.map_cons, List.map_nil]); first | done | rfl | (simp only [List.length_drop, List.length_take]; rfl)) ?_; (with_reducible refine (intrusionref07_Before.calls ((rd_T66 l0 x7_1).f0.f0) ((rd_T66 l0 x7_1).f0.f1) ((rd_T66 l0 x7_1).f0.f2) x612000_1 x612001_1 x612002_1 true _ A54.out).mono ?_); rintro e w61 ⟨rfl, hb⟩; refine ⟨_, rfl, ?_⟩; replace HO_5 := Aside0.mk (Kd.R_below (zR HO_5) hb); replace BK611 := Aside0.mk (blk_below (g := gb611) (o := .cells #[.bool x612000_1, .int .u64 x612001_1, .int .u64 x612002_1, .bool x612003_1, .int .u64 x612004_1, .int .u64 x612005_1] 66 (0, 0)) (zK BK611) hb); replace BK616 := Aside0.mk (blk_below (g := gb616) (o := .cells #[.bool ((rd_T66 l0 x7_1).f0.f0), .int .u64 ((rd_T66 l0 x7_1).f0.f1), .int .u64 ((rd_T66 l0 x7_1).f0.f2), .bool ((rd_T66 l0 x7_1).f1.f0), .int .u64 ((rd_T66 l0 x7_1).f1.f1), .int .u64 ((rd_T66 l0 x7_1).f1.f2)] 66 (0, 0)) (zK BK616) hb); replace HB := Aside0.mk (below_step (zB HB) hb); (try clear hb); obtain ⟨hcz62_0, hcz62_1, hcz62_2, hcz62_3, hcz62_4, hcz62_5⟩ := zc6 BK616; obtain ⟨hfz62_0, hfz62_1, hfz62_2, hfz62_3, hfz62_4, hfz62_5⟩ := zf6 BK616; obtain ⟨hcz63_0, hcz63_1, hcz63_2, hcz63_3, hcz63_4, hcz63_5⟩ := zc6 BK611; obtain ⟨hfz63_0, hfz63_1, hfz63_2, hfz63_3, hfz63_4, hfz63_5⟩ := zf6 BK611) | ((with_reducible refine gate_callee (f := 80) rfl ?_); refine goesL_ (some 65) rfl rfl Try.func80 (by kernel_rfl) rfl #[.agg #[.bool x612003_1, .int .u64 x612004_1, .int .u64 x612005_1], .agg #[.bool ((rd_T66 l0 x7_1).f1.f0), .int .u64 ((rd_T66 l0 x7_1).f1.f1), .int .u64 ((rd_T66 l0 x7_1).f1.f2)]] rfl (by (try simp only [List.map_toArray, List.map_cons, List.map_nil]); first | done | rfl | (simp only [List.length_drop, List.length_take]; rfl)) ?_; (with_reducible refine (intrusionref07_Before.calls x612003_1 x612004_1 x612005_1 ((rd_T66 l0 x7_1).f1.f0) ((rd_T66 l0 x7_1).f1.f1) ((rd_T66 l0 x7_1).f1.f2) true _ A56.out).mono ?_); rintro e w64 ⟨rfl, hb⟩; refine ⟨_, rfl, ?_⟩; replace HO_5 := Aside0.mk (Kd.R_below (zQ (Kd.R_mono (Kd.R_far (p := ⟨gb611, 2, none⟩) (Kd.R_far (p := ⟨gb611, 1, none⟩) (Kd.R_far (p := ⟨gb611, 0, none⟩) (Kd.R_mono HO_5.out (fun k_ hk => (⟨hk, hk.1⟩ : _ ∧ k_ ≠ gb611))) (fun _ hk => hk.2) (.bool ((rd_T66 l0 x7_1).f0.f0))) (fun _ hk => hk.2) (.int .u64 ((rd_T66 l0 x7_1).f0.f1))) (fun _ hk => hk.2) (.int .u64 ((rd_T66 l0 x7_1).f0.f2))) (fun _ h_ => h_.1))) hb); replace BK611 := Aside0.mk (blk_below (g := gb611) (o := .cells #[.bool ((rd_T66 l0 x7_1).f0.f0), .int .u64 ((rd_T66 l0 x7_1).f0.f1), .int .u64 ((rd_T66 l0 x7_1).f0.f2), .bool x612003_1, .int .u64 x612004_1, .int .u64 x612005_1] 66 (0, 0)) (by refine zL ?_; refine blk_put (cs := #[.bool ((rd_T66 l0 x7_1).f0.f0), .int .u64 ((rd_T66 l0 x7_1).f0.f1), .int .u64 x612002_1, .bool x612003_1, .int .u64 x612004_1, .int .u64 x612005_1]) ?_ 2 _ rfl; refine zL ?_; refine blk_put (cs := #[.bool ((rd_T66 l0 x7_1).f0.f0), .int .u64 x612001_1, .int .u64 x612002_1, .bool x612003_1, .int .u64 x612004_1, .int .u64 x612005_1]) ?_ 1 _ rfl; refine zL ?_; refine blk_put (cs := #[.bool x612000_1, .int .u64 x612001_1, .int .u64 x612002_1, .bool x612003_1, .int .u64 x612004_1, .int .u64 x612005_1]) ?_ 0 _ rfl; refine zL ?_; exact BK611.out) hb); replace BK616 := Aside0.mk (blk_below (g := gb616) (o := .cells #[.bool ((rd_T66 l0 x7_1).f0.f0), .int .u64 ((rd_T66 l0 x7_1).f0.f1), .int .u64 ((rd_T66 l0 x7_1).f0.f2), .bool ((rd_T66 l0 x7_1).f1.f0), .int .u64 ((rd_T66 l0 x7_1).f1.f1), .int .u64 ((rd_T66 l0 x7_1).f1.f2)] 66 (0, 0)) (by refine zL ?_; refine blk_far ?_ NB616_611.out _; refine zL ?_; refine blk_far ?_ NB616_611.out _; refine zL ?_; refine blk_far ?_ NB616_611.out _; refine zL ?_; exact BK616.out) hb); replace HB := Aside0.mk (below_step (zB HB) hb); (try clear hb); obtain ⟨hcz65_0, hcz65_1, hcz65_2, hcz65_3, hcz65_4, hcz65_5⟩ := zc6 BK616; obtain ⟨hfz65_0, hfz65_1, hfz65_2, hfz65_3, hfz65_4, hfz65_5⟩ := zf6 BK616; obtain ⟨hcz66_0, hcz66_1, hcz66_2, hcz66_3, hcz66_4, hcz66_5⟩ := zc6 BK611; obtain ⟨hfz66_0, hfz66_1, hfz66_2, hfz66_3, hfz66_4, hfz66_5⟩ := zf6 BK611))
                   go_roundg kj29
                   case measure => have := HK1.out; have := HJ5.out; have := HJ29.out; omega
                   case rel => exact ⟨(x5_1), (x6_1), (wrap64 (x7_1 + 1)), (((rd_T66 l0 x7_1).f0.f0)), (((rd_T66 l0 x7_1).f0.f1)), (((rd_T66 l0 x7_1).f0.f2)), (((rd_T66 l0 x7_1).f1.f0)), (((rd_T66 l0 x7_1).f1.f1)), (((rd_T66 l0 x7_1).f1.f2)), (by first | rfl | (simp; done) | (simp [*]; done)), (by first | rfl | (simp; done) | (simp [*]; done)), H', ⟨by have := HK1.out; have := HJ5.out; have := HJ29.out; omega⟩, ⟨by (with_reducible repeat (first | apply Kd.R_alloc | apply Kd.R_drewN | apply Kd.R_drew)); exact Kd.R_mono (Kd.R_far (p := ⟨gb611, 5, none⟩) (Kd.R_far (p := ⟨gb611, 4, none⟩) (Kd.R_far (p := ⟨gb611, 3, none⟩) (Kd.R_mono HO_5.out (fun k_ hk => (⟨hk, hk.1⟩ : _ ∧ k_ ≠ gb611))) (fun _ hk => hk.2) (.bool ((rd_T66 l0 x7_1).f1.f0))) (fun _ hk => hk.2) (.int .u64 ((rd_T66 l0 x7_1).f1.f1))) (fun _ hk => hk.2) (.int .u64 ((rd_T66 l0 x7_1).f1.f2))) (fun _ hk => hk.1.1)⟩, ⟨by refine zL ?_; refine blk_put (cs := #[.bool ((rd_T66 l0 x7_1).f0.f0), .int .u64 ((rd_T66 l0 x7_1).f0.f1), .int .u64 ((rd_T66 l0 x7_1).f0.f2), .bool ((rd_T66 l0 x7_1).f1.f0), .int .u64 ((rd_T66 l0 x7_1).f1.f1), .int .u64 x612005_1]) ?_ 5 _ rfl; refine zL ?_; refine blk_put (cs := #[.bool ((rd_T66 l0 x7_1).f0.f0), .int .u64 ((rd_T66 l0 x7_1).f0.f1), .int .u64 ((rd_T66 l0 x7_1).f0.f2), .bool ((rd_T66 l0 x7_1).f1.f0), .int .u64 x612004_1, .int .u64 x612005_1]) ?_ 4 _ rfl; refine zL ?_; refine blk_put (cs := #[.bool ((rd_T66 l0 x7_1).f0.f0), .int .u64 ((rd_T66 l0 x7_1).f0.f1), .int .u64 ((rd_T66 l0 x7_1).f0.f2), .bool x612003_1, .int .u64 x612004_1, .int .u64 x612005_1]) ?_ 3 _ rfl; refine zL ?_; exact BK611.out⟩, ⟨zB HB⟩⟩
                 · replace c57 := Bool.eq_false_iff.mpr c57
                   subst c57
                   rw [if_neg zF] at H
                   have H' := Aside0.mk H
                   clear H
                   have hnb67 := NB616_611.out
                   have hnc67 := NB611_616.out
                   obtain ⟨hcz68_0, hcz68_1, hcz68_2, hcz68_3, hcz68_4, hcz68_5⟩ := zc6 BK616
                   obtain ⟨hfz68_0, hfz68_1, hfz68_2, hfz68_3, hfz68_4, hfz68_5⟩ := zf6 BK616
                   obtain ⟨hcz69_0, hcz69_1, hcz69_2, hcz69_3, hcz69_4, hcz69_5⟩ := zc6 BK611
                   obtain ⟨hfz69_0, hfz69_1, hfz69_2, hfz69_3, hfz69_4, hfz69_5⟩ := zf6 BK611
                   go_wp2_with (first | ((with_reducible refine gate_callee (f := 80) rfl ?_); refine goesL_ (some 57) rfl rfl Try.func80 (by kernel_rfl) rfl #[.agg #[.bool ((rd_T66 l0 x7_1).f0.f0), .int .u64 ((rd_T66 l0 x7_1).f0.f1), .int .u64 ((rd_T66 l0 x7_1).f0.f2)], .agg #[.bool x612000_1, .int .u64 x612001_1, .int .u64 x612002_1]] rfl (by (try simp only [List.map_toArray, List.map_cons, List.map_nil]); first | done | rfl | (simp only [List.length_drop, List.length_take]; rfl)) ?_; (with_reducible refine (intrusionref07_Before.calls ((rd_T66 l0 x7_1).f0.f0) ((rd_T66 l0 x7_1).f0.f1) ((rd_T66 l0 x7_1).f0.f2) x612000_1 x612001_1 x612002_1 true _ A54.out).mono ?_); rintro e w70 ⟨rfl, hb⟩; refine ⟨_, rfl, ?_⟩; replace HO_5 := Aside0.mk (Kd.R_below (zR HO_5) hb); replace BK611 := Aside0.mk (blk_below (g := gb611) (o := .cells #[.bool x612000_1, .int .u64 x612001_1, .int .u64 x612002_1, .bool x612003_1, .int .u64 x612004_1, .int .u64 x612005_1] 66 (0, 0)) (zK BK611) hb); replace BK616 := Aside0.mk (blk_below (g := gb616) (o := .cells #[.bool ((rd_T66 l0 x7_1).f0.f0), .int .u64 ((rd_T66 l0 x7_1).f0.f1), .int .u64 ((rd_T66 l0 x7_1).f0.f2), .bool ((rd_T66 l0 x7_1).f1.f0), .int .u64 ((rd_T66 l0 x7_1).f1.f1), .int .u64 ((rd_T66 l0 x7_1).f1.f2)] 66 (0, 0)) (zK BK616) hb); replace HB := Aside0.mk (below_step (zB HB) hb); (try clear hb); obtain ⟨hcz71_0, hcz71_1, hcz71_2, hcz71_3, hcz71_4, hcz71_5⟩ := zc6 BK616; obtain ⟨hfz71_0, hfz71_1, hfz71_2, hfz71_3, hfz71_4, hfz71_5⟩ := zf6 BK616; obtain ⟨hcz72_0, hcz72_1, hcz72_2, hcz72_3, hcz72_4, hcz72_5⟩ := zc6 BK611; obtain ⟨hfz72_0, hfz72_1, hfz72_2, hfz72_3, hfz72_4, hfz72_5⟩ := zf6 BK611) | ((with_reducible refine gate_callee (f := 80) rfl ?_); refine goesL_ (some 65) rfl rfl Try.func80 (by kernel_rfl) rfl #[.agg #[.bool x612003_1, .int .u64 x612004_1, .int .u64 x612005_1], .agg #[.bool ((rd_T66 l0 x7_1).f1.f0), .int .u64 ((rd_T66 l0 x7_1).f1.f1), .int .u64 ((rd_T66 l0 x7_1).f1.f2)]] rfl (by (try simp only [List.map_toArray, List.map_cons, List.map_nil]); first | done | rfl | (simp only [List.length_drop, List.length_take]; rfl)) ?_; (with_reducible refine (intrusionref07_Before.calls x612003_1 x612004_1 x612005_1 ((rd_T66 l0 x7_1).f1.f0) ((rd_T66 l0 x7_1).f1.f1) ((rd_T66 l0 x7_1).f1.f2) false _ A56.out).mono ?_); rintro e w73 ⟨rfl, hb⟩; refine ⟨_, rfl, ?_⟩; replace HO_5 := Aside0.mk (Kd.R_below (zQ (Kd.R_mono (Kd.R_far (p := ⟨gb611, 2, none⟩) (Kd.R_far (p := ⟨gb611, 1, none⟩) (Kd.R_far (p := ⟨gb611, 0, none⟩) (Kd.R_mono HO_5.out (fun k_ hk => (⟨hk, hk.1⟩ : _ ∧ k_ ≠ gb611))) (fun _ hk => hk.2) (.bool ((rd_T66 l0 x7_1).f0.f0))) (fun _ hk => hk.2) (.int .u64 ((rd_T66 l0 x7_1).f0.f1))) (fun _ hk => hk.2) (.int .u64 ((rd_T66 l0 x7_1).f0.f2))) (fun _ h_ => h_.1))) hb); replace BK611 := Aside0.mk (blk_below (g := gb611) (o := .cells #[.bool ((rd_T66 l0 x7_1).f0.f0), .int .u64 ((rd_T66 l0 x7_1).f0.f1), .int .u64 ((rd_T66 l0 x7_1).f0.f2), .bool x612003_1, .int .u64 x612004_1, .int .u64 x612005_1] 66 (0, 0)) (by refine zL ?_; refine blk_put (cs := #[.bool ((rd_T66 l0 x7_1).f0.f0), .int .u64 ((rd_T66 l0 x7_1).f0.f1), .int .u64 x612002_1, .bool x612003_1, .int .u64 x612004_1, .int .u64 x612005_1]) ?_ 2 _ rfl; refine zL ?_; refine blk_put (cs := #[.bool ((rd_T66 l0 x7_1).f0.f0), .int .u64 x612001_1, .int .u64 x612002_1, .bool x612003_1, .int .u64 x612004_1, .int .u64 x612005_1]) ?_ 1 _ rfl; refine zL ?_; refine blk_put (cs := #[.bool x612000_1, .int .u64 x612001_1, .int .u64 x612002_1, .bool x612003_1, .int .u64 x612004_1, .int .u64 x612005_1]) ?_ 0 _ rfl; refine zL ?_; exact BK611.out) hb); replace BK616 := Aside0.mk (blk_below (g := gb616) (o := .cells #[.bool ((rd_T66 l0 x7_1).f0.f0), .int .u64 ((rd_T66 l0 x7_1).f0.f1), .int .u64 ((rd_T66 l0 x7_1).f0.f2), .bool ((rd_T66 l0 x7_1).f1.f0), .int .u64 ((rd_T66 l0 x7_1).f1.f1), .int .u64 ((rd_T66 l0 x7_1).f1.f2)] 66 (0, 0)) (by refine zL ?_; refine blk_far ?_ NB616_611.out _; refine zL ?_; refine blk_far ?_ NB616_611.out _; refine zL ?_; refine blk_far ?_ NB616_611.out _; refine zL ?_; exact BK616.out) hb); replace HB := Aside0.mk (below_step (zB HB) hb); (try clear hb)))
                   go_roundg kj29
                   case measure => have := HK1.out; have := HJ5.out; have := HJ29.out; omega
                   case rel => exact ⟨(x5_1), (x6_1), (wrap64 (x7_1 + 1)), (((rd_T66 l0 x7_1).f0.f0)), (((rd_T66 l0 x7_1).f0.f1)), (((rd_T66 l0 x7_1).f0.f2)), (x612003_1), (x612004_1), (x612005_1), (by first | rfl | (simp; done) | (simp [*]; done)), (by first | rfl | (simp; done) | (simp [*]; done)), H', ⟨by have := HK1.out; have := HJ5.out; have := HJ29.out; omega⟩, ⟨by (with_reducible repeat (first | apply Kd.R_alloc | apply Kd.R_drewN | apply Kd.R_drew)); exact Kd.R_mono HO_5.out (fun _ hk => hk.1)⟩, ⟨zK BK611⟩, ⟨zB HB⟩⟩
               · replace c55 := Bool.eq_false_iff.mpr c55
                 subst c55
                 rw [if_neg zF] at H
                 replace H := Option.bind_eq_some_iff.mp H
                 obtain ⟨t632, A740, H⟩ := H
                 try dsimp only at H
                 have A74 := Aside0.mk A740
                 clear A740
                 by_cases c75 : t632 = true
                 · subst c75
                   rw [if_pos rfl] at H
                   have H' := Aside0.mk H
                   clear H
                   have hnb76 := NB616_611.out
                   have hnc76 := NB611_616.out
                   obtain ⟨hcz77_0, hcz77_1, hcz77_2, hcz77_3, hcz77_4, hcz77_5⟩ := zc6 BK616
                   obtain ⟨hfz77_0, hfz77_1, hfz77_2, hfz77_3, hfz77_4, hfz77_5⟩ := zf6 BK616
                   obtain ⟨hcz78_0, hcz78_1, hcz78_2, hcz78_3, hcz78_4, hcz78_5⟩ := zc6 BK611
                   obtain ⟨hfz78_0, hfz78_1, hfz78_2, hfz78_3, hfz78_4, hfz78_5⟩ := zf6 BK611
                   go_wp2_with (first | ((with_reducible refine gate_callee (f := 80) rfl ?_); refine goesL_ (some 57) rfl rfl Try.func80 (by kernel_rfl) rfl #[.agg #[.bool ((rd_T66 l0 x7_1).f0.f0), .int .u64 ((rd_T66 l0 x7_1).f0.f1), .int .u64 ((rd_T66 l0 x7_1).f0.f2)], .agg #[.bool x612000_1, .int .u64 x612001_1, .int .u64 x612002_1]] rfl (by (try simp only [List.map_toArray, List.map_cons, List.map_nil]); first | done | rfl | (simp only [List.length_drop, List.length_take]; rfl)) ?_; (with_reducible refine (intrusionref07_Before.calls ((rd_T66 l0 x7_1).f0.f0) ((rd_T66 l0 x7_1).f0.f1) ((rd_T66 l0 x7_1).f0.f2) x612000_1 x612001_1 x612002_1 false _ A54.out).mono ?_); rintro e w79 ⟨rfl, hb⟩; refine ⟨_, rfl, ?_⟩; replace HO_5 := Aside0.mk (Kd.R_below (zR HO_5) hb); replace BK611 := Aside0.mk (blk_below (g := gb611) (o := .cells #[.bool x612000_1, .int .u64 x612001_1, .int .u64 x612002_1, .bool x612003_1, .int .u64 x612004_1, .int .u64 x612005_1] 66 (0, 0)) (zK BK611) hb); replace BK616 := Aside0.mk (blk_below (g := gb616) (o := .cells #[.bool ((rd_T66 l0 x7_1).f0.f0), .int .u64 ((rd_T66 l0 x7_1).f0.f1), .int .u64 ((rd_T66 l0 x7_1).f0.f2), .bool ((rd_T66 l0 x7_1).f1.f0), .int .u64 ((rd_T66 l0 x7_1).f1.f1), .int .u64 ((rd_T66 l0 x7_1).f1.f2)] 66 (0, 0)) (zK BK616) hb); replace HB := Aside0.mk (below_step (zB HB) hb); (try clear hb); obtain ⟨hcz80_0, hcz80_1, hcz80_2, hcz80_3, hcz80_4, hcz80_5⟩ := zc6 BK611; obtain ⟨hfz80_0, hfz80_1, hfz80_2, hfz80_3, hfz80_4, hfz80_5⟩ := zf6 BK611; obtain ⟨hcz81_0, hcz81_1, hcz81_2, hcz81_3, hcz81_4, hcz81_5⟩ := zc6 BK616; obtain ⟨hfz81_0, hfz81_1, hfz81_2, hfz81_3, hfz81_4, hfz81_5⟩ := zf6 BK616) | ((with_reducible refine gate_callee (f := 80) rfl ?_); refine goesL_ (some 65) rfl rfl Try.func80 (by kernel_rfl) rfl #[.agg #[.bool x612003_1, .int .u64 x612004_1, .int .u64 x612005_1], .agg #[.bool ((rd_T66 l0 x7_1).f1.f0), .int .u64 ((rd_T66 l0 x7_1).f1.f1), .int .u64 ((rd_T66 l0 x7_1).f1.f2)]] rfl (by (try simp only [List.map_toArray, List.map_cons, List.map_nil]); first | done | rfl | (simp only [List.length_drop, List.length_take]; rfl)) ?_; (with_reducible refine (intrusionref07_Before.calls x612003_1 x612004_1 x612005_1 ((rd_T66 l0 x7_1).f1.f0) ((rd_T66 l0 x7_1).f1.f1) ((rd_T66 l0 x7_1).f1.f2) true _ A74.out).mono ?_); rintro e w82 ⟨rfl, hb⟩; refine ⟨_, rfl, ?_⟩; replace HO_5 := Aside0.mk (Kd.R_below (zR HO_5) hb); replace BK611 := Aside0.mk (blk_below (g := gb611) (o := .cells #[.bool x612000_1, .int .u64 x612001_1, .int .u64 x612002_1, .bool x612003_1, .int .u64 x612004_1, .int .u64 x612005_1] 66 (0, 0)) (zK BK611) hb); replace BK616 := Aside0.mk (blk_below (g := gb616) (o := .cells #[.bool ((rd_T66 l0 x7_1).f0.f0), .int .u64 ((rd_T66 l0 x7_1).f0.f1), .int .u64 ((rd_T66 l0 x7_1).f0.f2), .bool ((rd_T66 l0 x7_1).f1.f0), .int .u64 ((rd_T66 l0 x7_1).f1.f1), .int .u64 ((rd_T66 l0 x7_1).f1.f2)] 66 (0, 0)) (zK BK616) hb); replace HB := Aside0.mk (below_step (zB HB) hb); (try clear hb); obtain ⟨hcz83_0, hcz83_1, hcz83_2, hcz83_3, hcz83_4, hcz83_5⟩ := zc6 BK616; obtain ⟨hfz83_0, hfz83_1, hfz83_2, hfz83_3, hfz83_4, hfz83_5⟩ := zf6 BK616; obtain ⟨hcz84_0, hcz84_1, hcz84_2, hcz84_3, hcz84_4, hcz84_5⟩ := zc6 BK611; obtain ⟨hfz84_0, hfz84_1, hfz84_2, hfz84_3, hfz84_4, hfz84_5⟩ := zf6 BK611))
                   go_roundg kj29
                   case measure => have := HK1.out; have := HJ5.out; have := HJ29.out; omega
                   case rel => exact ⟨(x5_1), (x6_1), (wrap64 (x7_1 + 1)), (x612000_1), (x612001_1), (x612002_1), (((rd_T66 l0 x7_1).f1.f0)), (((rd_T66 l0 x7_1).f1.f1)), (((rd_T66 l0 x7_1).f1.f2)), (by first | rfl | (simp; done) | (simp [*]; done)), (by first | rfl | (simp; done) | (simp [*]; done)), H', ⟨by have := HK1.out; have := HJ5.out; have := HJ29.out; omega⟩, ⟨by (with_reducible repeat (first | apply Kd.R_alloc | apply Kd.R_drewN | apply Kd.R_drew)); exact Kd.R_mono (Kd.R_far (p := ⟨gb611, 5, none⟩) (Kd.R_far (p := ⟨gb611, 4, none⟩) (Kd.R_far (p := ⟨gb611, 3, none⟩) (Kd.R_mono HO_5.out (fun k_ hk => (⟨hk, hk.1⟩ : _ ∧ k_ ≠ gb611))) (fun _ hk => hk.2) (.bool ((rd_T66 l0 x7_1).f1.f0))) (fun _ hk => hk.2) (.int .u64 ((rd_T66 l0 x7_1).f1.f1))) (fun _ hk => hk.2) (.int .u64 ((rd_T66 l0 x7_1).f1.f2))) (fun _ hk => hk.1.1)⟩, ⟨by refine zL ?_; refine blk_put (cs := #[.bool x612000_1, .int .u64 x612001_1, .int .u64 x612002_1, .bool ((rd_T66 l0 x7_1).f1.f0), .int .u64 ((rd_T66 l0 x7_1).f1.f1), .int .u64 x612005_1]) ?_ 5 _ rfl; refine zL ?_; refine blk_put (cs := #[.bool x612000_1, .int .u64 x612001_1, .int .u64 x612002_1, .bool ((rd_T66 l0 x7_1).f1.f0), .int .u64 x612004_1, .int .u64 x612005_1]) ?_ 4 _ rfl; refine zL ?_; refine blk_put (cs := #[.bool x612000_1, .int .u64 x612001_1, .int .u64 x612002_1, .bool x612003_1, .int .u64 x612004_1, .int .u64 x612005_1]) ?_ 3 _ rfl; refine zL ?_; exact BK611.out⟩, ⟨zB HB⟩⟩
                 · replace c75 := Bool.eq_false_iff.mpr c75
                   subst c75
                   rw [if_neg zF] at H
                   have H' := Aside0.mk H
                   clear H
                   have hnb85 := NB616_611.out
                   have hnc85 := NB611_616.out
                   obtain ⟨hcz86_0, hcz86_1, hcz86_2, hcz86_3, hcz86_4, hcz86_5⟩ := zc6 BK616
                   obtain ⟨hfz86_0, hfz86_1, hfz86_2, hfz86_3, hfz86_4, hfz86_5⟩ := zf6 BK616
                   obtain ⟨hcz87_0, hcz87_1, hcz87_2, hcz87_3, hcz87_4, hcz87_5⟩ := zc6 BK611
                   obtain ⟨hfz87_0, hfz87_1, hfz87_2, hfz87_3, hfz87_4, hfz87_5⟩ := zf6 BK611
                   go_wp2_with (first | ((with_reducible refine gate_callee (f := 80) rfl ?_); refine goesL_ (some 57) rfl rfl Try.func80 (by kernel_rfl) rfl #[.agg #[.bool ((rd_T66 l0 x7_1).f0.f0), .int .u64 ((rd_T66 l0 x7_1).f0.f1), .int .u64 ((rd_T66 l0 x7_1).f0.f2)], .agg #[.bool x612000_1, .int .u64 x612001_1, .int .u64 x612002_1]] rfl (by (try simp only [List.map_toArray, List.map_cons, List.map_nil]); first | done | rfl | (simp only [List.length_drop, List.length_take]; rfl)) ?_; (with_reducible refine (intrusionref07_Before.calls ((rd_T66 l0 x7_1).f0.f0) ((rd_T66 l0 x7_1).f0.f1) ((rd_T66 l0 x7_1).f0.f2) x612000_1 x612001_1 x612002_1 false _ A54.out).mono ?_); rintro e w88 ⟨rfl, hb⟩; refine ⟨_, rfl, ?_⟩; replace HO_5 := Aside0.mk (Kd.R_below (zR HO_5) hb); replace BK611 := Aside0.mk (blk_below (g := gb611) (o := .cells #[.bool x612000_1, .int .u64 x612001_1, .int .u64 x612002_1, .bool x612003_1, .int .u64 x612004_1, .int .u64 x612005_1] 66 (0, 0)) (zK BK611) hb); replace BK616 := Aside0.mk (blk_below (g := gb616) (o := .cells #[.bool ((rd_T66 l0 x7_1).f0.f0), .int .u64 ((rd_T66 l0 x7_1).f0.f1), .int .u64 ((rd_T66 l0 x7_1).f0.f2), .bool ((rd_T66 l0 x7_1).f1.f0), .int .u64 ((rd_T66 l0 x7_1).f1.f1), .int .u64 ((rd_T66 l0 x7_1).f1.f2)] 66 (0, 0)) (zK BK616) hb); replace HB := Aside0.mk (below_step (zB HB) hb); (try clear hb); obtain ⟨hcz89_0, hcz89_1, hcz89_2, hcz89_3, hcz89_4, hcz89_5⟩ := zc6 BK611; obtain ⟨hfz89_0, hfz89_1, hfz89_2, hfz89_3, hfz89_4, hfz89_5⟩ := zf6 BK611; obtain ⟨hcz90_0, hcz90_1, hcz90_2, hcz90_3, hcz90_4, hcz90_5⟩ := zc6 BK616; obtain ⟨hfz90_0, hfz90_1, hfz90_2, hfz90_3, hfz90_4, hfz90_5⟩ := zf6 BK616) | ((with_reducible refine gate_callee (f := 80) rfl ?_); refine goesL_ (some 65) rfl rfl Try.func80 (by kernel_rfl) rfl #[.agg #[.bool x612003_1, .int .u64 x612004_1, .int .u64 x612005_1], .agg #[.bool ((rd_T66 l0 x7_1).f1.f0), .int .u64 ((rd_T66 l0 x7_1).f1.f1), .int .u64 ((rd_T66 l0 x7_1).f1.f2)]] rfl (by (try simp only [List.map_toArray, List.map_cons, List.map_nil]); first | done | rfl | (simp only [List.length_drop, List.length_take]; rfl)) ?_; (with_reducible refine (intrusionref07_Before.calls x612003_1 x612004_1 x612005_1 ((rd_T66 l0 x7_1).f1.f0) ((rd_T66 l0 x7_1).f1.f1) ((rd_T66 l0 x7_1).f1.f2) false _ A74.out).mono ?_); rintro e w91 ⟨rfl, hb⟩; refine ⟨_, rfl, ?_⟩; replace HO_5 := Aside0.mk (Kd.R_below (zR HO_5) hb); replace BK611 := Aside0.mk (blk_below (g := gb611) (o := .cells #[.bool x612000_1, .int .u64 x612001_1, .int .u64 x612002_1, .bool x612003_1, .int .u64 x612004_1, .int .u64 x612005_1] 66 (0, 0)) (zK BK611) hb); replace BK616 := Aside0.mk (blk_below (g := gb616) (o := .cells #[.bool ((rd_T66 l0 x7_1).f0.f0), .int .u64 ((rd_T66 l0 x7_1).f0.f1), .int .u64 ((rd_T66 l0 x7_1).f0.f2), .bool ((rd_T66 l0 x7_1).f1.f0), .int .u64 ((rd_T66 l0 x7_1).f1.f1), .int .u64 ((rd_T66 l0 x7_1).f1.f2)] 66 (0, 0)) (zK BK616) hb); replace HB := Aside0.mk (below_step (zB HB) hb); (try clear hb)))
                   go_roundg kj29
                   case measure => have := HK1.out; have := HJ5.out; have := HJ29.out; omega
                   case rel => exact ⟨(x5_1), (x6_1), (wrap64 (x7_1 + 1)), (x612000_1), (x612001_1), (x612002_1), (x612003_1), (x612004_1), (x612005_1), (by first | rfl | (simp; done) | (simp [*]; done)), (by first | rfl | (simp; done) | (simp [*]; done)), H', ⟨by have := HK1.out; have := HJ5.out; have := HJ29.out; omega⟩, ⟨by (with_reducible repeat (first | apply Kd.R_alloc | apply Kd.R_drewN | apply Kd.R_drew)); exact Kd.R_mono HO_5.out (fun _ hk => hk.1)⟩, ⟨zK BK611⟩, ⟨zB HB⟩⟩
     · rw [if_neg c5] at H
       exact absurd H (by simp)
   · rw [if_neg c4] at H
     have c4b0 : decide (x7_1 < (l0.length : Int)) = false := decide_eq_false c4
     clear c4
     by_cases c92 : x6_1 = true
     · subst c92
       rw [if_pos rfl] at H
       obtain rfl := Option.some.inj H
       go_wp2
       go_ret
       exact ⟨_, by first | rfl | (simp [errW_none, errW_some] <;> rfl) | (simp [*, errW_none, errW_some] <;> rfl), by (with_reducible repeat (first | apply Kd.R_alloc | apply Kd.R_drewN | apply Kd.R_drew)); exact Kd.R_mono HO_5.out (fun _ hk => trivial), by repeat (first | (with_reducible first | exact HB.out | apply below_alloc | apply pw_below_drewN | apply below_drew1 | refine below_set ?_ GE611.out) | exact HB.out)⟩
     · replace c92 := Bool.eq_false_iff.mpr c92
       subst c92
       rw [if_neg zF] at H
       by_cases c93 : x5_1.length < 2932031007402
       · rw [if_pos c93] at H
         have LMc93 := Aside0.mk c93
         clear c93
         obtain ⟨y612, hy612⟩ : ∃ y_ : List (S66), y_ = (x5_1 ++ [(⟨(⟨x612000_1, x612001_1, x612002_1⟩ : S36), (⟨x612003_1, x612004_1, x612005_1⟩ : S36)⟩ : S66)]) := ⟨_, rfl⟩
         rw [← hy612] at H; try dsimp only [Option.bind_some] at H
         have Ny612 := Aside0.mk hy612
         clear hy612
         obtain rfl := Option.some.inj H
         obtain ⟨hcz94_0, hcz94_1, hcz94_2, hcz94_3, hcz94_4, hcz94_5⟩ := zc6 BK611
         obtain ⟨hfz94_0, hfz94_1, hfz94_2, hfz94_3, hfz94_4, hfz94_5⟩ := zf6 BK611
         go_wp2_with (first | ((with_reducible refine gate_builtin (b := .append) (xs := #[.tmp 71, .tmp 73]) rfl ?_); at_builtin; refine Kd.R_append k66 (w0 := w) w.heap.size rfl (.tmp 71) (.tmp 73) 33 66 (.agg #[(.bool false), (.int .u64 0), (.int .u64 0), (.bool false), (.int .u64 0), (.int .u64 0)]) 48 rfl Try.underlying33 info66 rfl (by decide) (by omega) u5 x5_1 (⟨(⟨x612000_1, x612001_1, x612002_1⟩ : S36), (⟨x612003_1, x612004_1, x612005_1⟩ : S36)⟩ : S66) [.bool x612000_1, .int .u64 x612001_1, .int .u64 x612002_1, .bool x612003_1, .int .u64 x612004_1, .int .u64 x612005_1] (fun k_ => k_ ≠ gb611) (fun _ => False) rfl rfl ?aP (fun _ hk => hk.elim) ?aF ?aO ?aB ?aS ?aL ?_; (case aP => exact k66_mkM _ _ _ (⟨(⟨x612000_1, x612001_1, x612002_1⟩ : S36), (⟨x612003_1, x612004_1, x612005_1⟩ : S36)⟩ : S66)); (case aB => exact (zB HB)); (case aF => exact (fun k_ hk => Kd.freshB (g := gb611) (o := .cells #[.bool x612000_1, .int .u64 x612001_1, .int .u64 x612002_1, .bool x612003_1, .int .u64 x612004_1, .int .u64 x612005_1] 66 (0, 0)) (zK BK611) k_ hk)); (case aO => exact (zR HO_5)); (case aS => exact (below_size (zB HB))); (case aL => have := LMc93.out; omega); intro v613 w95 ho hb hg hat; rw [← Ny612.out] at ho; replace BK611 := Aside0.mk (blk_grown (g := gb611) (o := .cells #[.bool x612000_1, .int .u64 x612001_1, .int .u64 x612002_1, .bool x612003_1, .int .u64 x612004_1, .int .u64 x612005_1] 66 (0, 0)) (zK BK611) hg (Kd.R_away HO_5.out (fun _ hk => hk))); replace HB := Aside0.mk (hb); have HO614 := Aside0.mk (ho); clear HO_5; clear ho hb hg hat))
         go_ret
         exact ⟨_, by first | rfl | (simp [errW_none, errW_some] <;> rfl) | (simp [*, errW_none, errW_some] <;> rfl), by (with_reducible repeat (first | apply Kd.R_alloc | apply Kd.R_drewN | apply Kd.R_drew)); exact Kd.R_mono HO614.out (fun _ hk => trivial), by repeat (first | (with_reducible first | exact HB.out | apply below_alloc | apply pw_below_drewN | apply below_drew1 | refine below_set ?_ GE611.out) | exact HB.out)⟩
       · rw [if_neg c93] at H
         exact absurd H (by simp)
end Go.Proofs.Ytcgfpffgiimgmaa.Q
end
