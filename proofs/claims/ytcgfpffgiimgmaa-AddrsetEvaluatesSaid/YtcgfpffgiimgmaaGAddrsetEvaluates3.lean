/- The law AddrsetEvaluates answers true for every input and leaves its arguments as they were. No condition. (Part 3 of 6: the kit's printed words and walks, hand-made contracts and plain laws, joined in build order, without what the theorem does not reach.) -/
import Derived.OneCell
import Derived.Laws.EntriesVeiled
import Derived.Test.YtcgfpffgiimgmaaGAddrsetEvaluates2
section
namespace Go.Proofs.Ytcgfpffgiimgmaa.Q
open Go.RowKit Go.Proofs.YtcgfpffgiimgmaaW.PrintWords Go.Proofs.YtcgfpffgiimgmaaW.PrintLast Go.Proofs.YtcgfpffgiimgmaaW.PrintMore
attribute [local go_sem] max2_int min2_int max_two min_two max_three min_three max_four min_four
set_option linter.unusedVariables false
set_option linter.unusedSimpArgs false
attribute [local go_sem high] eqA45
def intrusionlaw07_awake.f (k : Nat)  : Option (Bool) := (intrusionlaw07_ip.f 2).bind fun bt544 => ((intrusionlaw07_ip.f 3).bind fun bt547 => ((intrusionlaw07_ip.f 1).bind fun bt550 => ((intrusionlaw07_ip.f 1).bind fun bt553 => ((some (([(⟨(⟨bt544.1, bt544.2.1, bt544.2.2⟩ : S36), (⟨bt547.1, bt547.2.1, bt547.2.2⟩ : S36)⟩ : S66), (⟨(⟨bt550.1, bt550.2.1, bt550.2.2⟩ : S36), (⟨bt553.1, bt553.2.1, bt553.2.2⟩ : S36)⟩ : S66)] : List (S66)) : List (S66))).bind fun y556 => ((intrusionlaw07_ip.f 1).bind fun bt559 => ((intrusionlaw07_ip.f 4).bind fun bt562 => ((addrset_Prefixes.f k (([(⟨(⟨bt559.1, bt559.2.1, bt559.2.2⟩ : S36), (⟨bt562.1, bt562.2.1, bt562.2.2⟩ : S36)⟩ : S66)] : List (S66)))).bind fun t568 => ((addrset_Normal.f k y556).bind fun t571 => ((intrusionlaw07_ip.f 1).bind fun bt574 => ((intrusionlaw07_ip.f 3).bind fun bt577 => ((intrusionref07_Same.f k t571 (([(⟨(⟨bt574.1, bt574.2.1, bt574.2.2⟩ : S36), (⟨bt577.1, bt577.2.1, bt577.2.2⟩ : S36)⟩ : S66)] : List (S66)))).bind fun t583 => (if t583 = true then ((addrset_Valid.f k y556).bind fun t584 => (if t584 = true then (some false) else (if (t568.length : Int) = 3 then (if 0 < (t568.length : Int) then ((intrusionlaw07_ip.f 1).bind fun bt586 => (if ((((rd_T45 t568 0).f0.f0) == bt586.1 && (((rd_T45 t568 0).f0.f1) == bt586.2.1 && (((rd_T45 t568 0).f0.f2) == bt586.2.2))) && (((rd_T45 t568 0).f1) == 32)) = true then (if 1 < (t568.length : Int) then ((intrusionlaw07_ip.f 2).bind fun bt590 => (if ((((rd_T45 t568 1).f0.f0) == bt590.1 && (((rd_T45 t568 1).f0.f1) == bt590.2.1 && (((rd_T45 t568 1).f0.f2) == bt590.2.2))) && (((rd_T45 t568 1).f1) == 31)) = true then ((addrset_All.f).bind fun t593 => (some ((t593.length : Int) == 2))) else (some false))) else (none)) else (some false))) else (none)) else (some false)))) else (some false)))))))))))))
theorem intrusionlaw07_awake.mono : ∀ k, LeO (intrusionlaw07_awake.f k ) (intrusionlaw07_awake.f (k + 1) ) := by
  intro  k
  unfold intrusionlaw07_awake.f
  repeat' first
      | (with_reducible exact addrset_Normal.mono _ _)
      | (with_reducible exact addrset_Prefixes.mono _ _)
      | (with_reducible exact addrset_Valid.mono _ _)
      | (with_reducible exact intrusionref07_Same.mono _ _ _)
      | (with_reducible exact LeO.refl _)
      | (with_reducible exact LeO.none _)
      | (with_reducible refine LeO.ite ?_ ?_)
      | (with_reducible refine LeO.bind ?_ (fun _ => ?_))
      | exact addrset_Normal.mono _ _
      | exact addrset_Prefixes.mono _ _
      | exact addrset_Valid.mono _ _
      | exact intrusionref07_Same.mono _ _ _
      | exact LeO.none _
      | refine LeO.ite ?_ ?_
      | refine LeO.bind ?_ (fun _ => ?_)
def intrusionlaw07_awake.T3 : Bool × List (List Nat × List Nat) := (true, [([], []), ([0], [0]), ([1], []), ([2], []), ([2, 3], [2, 3]), ([4], [4]), ([1, 5, 3], [1, 5]), ([6, 6], [6]), ([7], [7]), ([8, 7, 7], [7, 8]), ([9, 7], [7, 9]), ([7, 10], [7, 10]), ([11, 9], [11]), ([12], [12]), ([13, 12], [12, 13]), ([14, 12], [12, 14]), ([12, 15], [12, 15]), ([16, 12], [16]), ([17], [17]), ([18, 17], [17, 18]), ([19, 17], [17, 19]), ([17, 17], [17]), ([21, 17], [17, 21]), ([20, 22, 17], [17, 20, 22]), ([17, 23], [17, 23]), ([24, 21], [24]), ([25], [25]), ([26, 25], [25, 26]), ([27, 25], [25, 27]), ([25, 25], [25]), ([29, 25], [25, 29]), ([28, 30, 25], [25, 28, 30]), ([25, 31], [25, 31]), ([32, 29], [32]), ([33, 33], [33]), ([34, 33], [33, 34]), ([35, 33], [33, 35]), ([33, 36], [33, 36]), ([37, 34, 0, 1, 2, 3, 4, 5, 6, 7, 8, 9, 10, 11, 12, 13, 14, 15, 16, 17, 18, 19, 20, 21, 22, 23, 24, 25, 26, 27, 28, 29, 30, 31, 32, 33, 34, 35, 36, 37], [37])])
def intrusionlaw07_awake.B3 : List Nat := [0, 1, 3, 7, 15, 31, 63, 127, 255, 511, 1023, 2047, 4095, 8191, 16383, 32767, 65535, 131071, 262143, 524287, 1048575, 262143, 2359295, 8388607, 16777215, 33554431, 67108863, 134217727, 268435455, 67108863, 603979775, 2147483647, 4294967295, 8589934591, 17179869183, 34359738367, 68719476735, 137438953471, 274877906943]
theorem intrusionlaw07_awake.tab3 : rtab .any (opsOf Try.f36 3) = intrusionlaw07_awake.T3 := by kernel_rfl
theorem intrusionlaw07_awake.bits3 : waitsOk intrusionlaw07_awake.T3.2 intrusionlaw07_awake.B3 = true := by kernel_rfl
set_option maxHeartbeats 8000000 in
set_option maxRecDepth 100000 in
theorem intrusionlaw07_awake.calls (k : Nat)  (r : Bool) (w : World) (h : intrusionlaw07_awake.f k  = some r) :
 Calls Try.prog 36 #[] w fun e w' => e = .returned (.bool r) ∧ Below w.heap.size w w' := by
 have hu66 := Try.underlying66
 have hu45 := Try.underlying45
 have HB := Aside0.mk (Below.refl w.heap.size w)
 unfold intrusionlaw07_awake.f at h; have H := h
 clear h
 replace H := Option.bind_eq_some_iff.mp H
 obtain ⟨⟨t544, t545, t546⟩, A10, H⟩ := H
 try dsimp only at H
 have A1 := Aside0.mk A10
 clear A10
 replace H := Option.bind_eq_some_iff.mp H
 obtain ⟨⟨t547, t548, t549⟩, A20, H⟩ := H
 try dsimp only at H
 have A2 := Aside0.mk A20
 clear A20
 replace H := Option.bind_eq_some_iff.mp H
 obtain ⟨⟨t550, t551, t552⟩, A30, H⟩ := H
 try dsimp only at H
 have A3 := Aside0.mk A30
 clear A30
 replace H := Option.bind_eq_some_iff.mp H
 obtain ⟨⟨t553, t554, t555⟩, A40, H⟩ := H
 try dsimp only at H
 have A4 := Aside0.mk A40
 clear A40
 obtain ⟨y556, hy556⟩ : ∃ y_ : List (S66), y_ = (([(⟨(⟨t544, t545, t546⟩ : S36), (⟨t547, t548, t549⟩ : S36)⟩ : S66), (⟨(⟨t550, t551, t552⟩ : S36), (⟨t553, t554, t555⟩ : S36)⟩ : S66)] : List (S66))) := ⟨_, rfl⟩
 rw [← hy556] at H; try dsimp only [Option.bind_some] at H
 have Ny556 := Aside0.mk hy556
 clear hy556
 replace H := Option.bind_eq_some_iff.mp H
 obtain ⟨⟨t559, t560, t561⟩, A50, H⟩ := H
 try dsimp only at H
 have A5 := Aside0.mk A50
 clear A50
 replace H := Option.bind_eq_some_iff.mp H
 obtain ⟨⟨t562, t563, t564⟩, A60, H⟩ := H
 try dsimp only at H
 have A6 := Aside0.mk A60
 clear A60
 obtain ⟨y565, hy565⟩ : ∃ y_ : List (S66), y_ = (([(⟨(⟨t559, t560, t561⟩ : S36), (⟨t562, t563, t564⟩ : S36)⟩ : S66)] : List (S66))) := ⟨_, rfl⟩
 rw [← hy565] at H; try dsimp only [Option.bind_some] at H
 have Ny565 := Aside0.mk hy565
 clear hy565
 replace H := Option.bind_eq_some_iff.mp H
 obtain ⟨t568, A70, H⟩ := H
 try dsimp only at H
 have A7 := Aside0.mk A70
 clear A70
 replace H := Option.bind_eq_some_iff.mp H
 obtain ⟨t571, A80, H⟩ := H
 try dsimp only at H
 have A8 := Aside0.mk A80
 clear A80
 replace H := Option.bind_eq_some_iff.mp H
 obtain ⟨⟨t574, t575, t576⟩, A90, H⟩ := H
 try dsimp only at H
 have A9 := Aside0.mk A90
 clear A90
 replace H := Option.bind_eq_some_iff.mp H
 obtain ⟨⟨t577, t578, t579⟩, A100, H⟩ := H
 try dsimp only at H
 have A10 := Aside0.mk A100
 clear A100
 obtain ⟨y580, hy580⟩ : ∃ y_ : List (S66), y_ = (([(⟨(⟨t574, t575, t576⟩ : S36), (⟨t577, t578, t579⟩ : S36)⟩ : S66)] : List (S66))) := ⟨_, rfl⟩
 rw [← hy580] at H; try dsimp only [Option.bind_some] at H
 have Ny580 := Aside0.mk hy580
 clear hy580
 replace H := Option.bind_eq_some_iff.mp H
 obtain ⟨t583, A110, H⟩ := H
 try dsimp only at H
 have A11 := Aside0.mk A110
 clear A110
 by_cases c12 : t583 = true
 · subst c12
   rw [if_pos rfl] at H
   replace H := Option.bind_eq_some_iff.mp H
   obtain ⟨t584, A130, H⟩ := H
   try dsimp only at H
   have A13 := Aside0.mk A130
   clear A130
   by_cases c14 : t584 = true
   · subst c14
     rw [if_pos rfl] at H
     obtain rfl := Option.some.inj H
     go_enter Try.func36, Try.ntmps36
     try go_wp2_with (first | ((with_reducible refine gate_callee (f := 70) rfl ?_); refine goesL_ (some 3) rfl rfl Try.func70 (by kernel_rfl) rfl #[.int .u64 2] rfl (by (try simp only [List.map_toArray, List.map_cons, List.map_nil]); first | done | rfl | (simp only [List.length_drop, List.length_take]; rfl)) ?_; (with_reducible refine (intrusionlaw07_ip.calls 2 t544 t545 t546 _ A1.out).mono ?_); rintro e w15 ⟨rfl, hb⟩; refine ⟨_, rfl, ?_⟩; replace HB := Aside0.mk (below_step (zB HB) hb); (try clear hb)) | ((with_reducible refine gate_callee (f := 70) rfl ?_); refine goesL_ (some 4) rfl rfl Try.func70 (by kernel_rfl) rfl #[.int .u64 3] rfl (by (try simp only [List.map_toArray, List.map_cons, List.map_nil]); first | done | rfl | (simp only [List.length_drop, List.length_take]; rfl)) ?_; (with_reducible refine (intrusionlaw07_ip.calls 3 t547 t548 t549 _ A2.out).mono ?_); rintro e w16 ⟨rfl, hb⟩; refine ⟨_, rfl, ?_⟩; replace HB := Aside0.mk (below_step (zB HB) hb); (try clear hb)) | ((with_reducible refine gate_callee (f := 70) rfl ?_); refine goesL_ (some 6) rfl rfl Try.func70 (by kernel_rfl) rfl #[.int .u64 1] rfl (by (try simp only [List.map_toArray, List.map_cons, List.map_nil]); first | done | rfl | (simp only [List.length_drop, List.length_take]; rfl)) ?_; (with_reducible refine (intrusionlaw07_ip.calls 1 t550 t551 t552 _ A3.out).mono ?_); rintro e w17 ⟨rfl, hb⟩; refine ⟨_, rfl, ?_⟩; replace HB := Aside0.mk (below_step (zB HB) hb); (try clear hb)) | ((with_reducible refine gate_callee (f := 70) rfl ?_); refine goesL_ (some 7) rfl rfl Try.func70 (by kernel_rfl) rfl #[.int .u64 1] rfl (by (try simp only [List.map_toArray, List.map_cons, List.map_nil]); first | done | rfl | (simp only [List.length_drop, List.length_take]; rfl)) ?_; (with_reducible refine (intrusionlaw07_ip.calls 1 t553 t554 t555 _ A4.out).mono ?_); rintro e w18 ⟨rfl, hb⟩; refine ⟨_, rfl, ?_⟩; replace HB := Aside0.mk (below_step (zB HB) hb); (try clear hb)) | ((with_reducible refine gate_dst (N := 9) rfl ?_); (try (refine gate_guard (by rfl) ?_; dsimp only)); refine Kd.R_lit k66 _ 66 ?hg (N := 9) ?hd (xs := ([(⟨(⟨t544, t545, t546⟩ : S36), (⟨t547, t548, t549⟩ : S36)⟩ : S66), (⟨(⟨t550, t551, t552⟩ : S36), (⟨t553, t554, t555⟩ : S36)⟩ : S66)] : List (S66))) (inner := [.bool t544, .int .u64 t545, .int .u64 t546, .bool t547, .int .u64 t548, .int .u64 t549, .bool t550, .int .u64 t551, .int .u64 t552, .bool t553, .int .u64 t554, .int .u64 t555]) (ok := fun _ => True) (okp := fun _ => True) ?hr ?hp (fun _ hk => hk) trivial (Below.refl _ _) (Nat.le_refl _) (by simp) ?_; (case hd => rfl); (case hg => rfl); (case hr => first | (go_simp; done) | (go_simp; rfl)); (case hp => exact (Reps.c6 (show Kd.M k66 _ _ _ (⟨(⟨t544, t545, t546⟩ : S36), (⟨t547, t548, t549⟩ : S36)⟩ : S66) [.bool t544, .int .u64 t545, .int .u64 t546, .bool t547, .int .u64 t548, .int .u64 t549] from (k66_mkM _ _ _ (⟨(⟨t544, t545, t546⟩ : S36), (⟨t547, t548, t549⟩ : S36)⟩ : S66) )) (Reps.c6 (show Kd.M k66 _ _ _ (⟨(⟨t550, t551, t552⟩ : S36), (⟨t553, t554, t555⟩ : S36)⟩ : S66) [.bool t550, .int .u64 t551, .int .u64 t552, .bool t553, .int .u64 t554, .int .u64 t555] from (k66_mkM _ _ _ (⟨(⟨t550, t551, t552⟩ : S36), (⟨t553, t554, t555⟩ : S36)⟩ : S66) )) (Reps.none _ _)))); intro v557 w19 ho20 hb hg_ hnew_; clear hg_ hnew_; (first | rw [← Ny556.out] at ho20 | (simp only [Int.reduceToNat] at ho20; rw [← Ny556.out] at ho20)); have HO558 := Aside0.mk (Kd.R_lower ho20 (below_size (zB HB))); replace HB := Aside0.mk (below_step (zB HB) hb); clear hb ho20) | ((with_reducible refine gate_callee (f := 70) rfl ?_); refine goesL_ (some 10) rfl rfl Try.func70 (by kernel_rfl) rfl #[.int .u64 1] rfl (by (try simp only [List.map_toArray, List.map_cons, List.map_nil]); first | done | rfl | (simp only [List.length_drop, List.length_take]; rfl)) ?_; (with_reducible refine (intrusionlaw07_ip.calls 1 t559 t560 t561 _ A5.out).mono ?_); rintro e w21 ⟨rfl, hb⟩; refine ⟨_, rfl, ?_⟩; replace HO558 := Aside0.mk (Kd.R_below (zR HO558) hb); replace HB := Aside0.mk (below_step (zB HB) hb); (try clear hb)) | ((with_reducible refine gate_callee (f := 70) rfl ?_); refine goesL_ (some 11) rfl rfl Try.func70 (by kernel_rfl) rfl #[.int .u64 4] rfl (by (try simp only [List.map_toArray, List.map_cons, List.map_nil]); first | done | rfl | (simp only [List.length_drop, List.length_take]; rfl)) ?_; (with_reducible refine (intrusionlaw07_ip.calls 4 t562 t563 t564 _ A6.out).mono ?_); rintro e w22 ⟨rfl, hb⟩; refine ⟨_, rfl, ?_⟩; replace HO558 := Aside0.mk (Kd.R_below (zR HO558) hb); replace HB := Aside0.mk (below_step (zB HB) hb); (try clear hb)) | ((with_reducible refine gate_dst (N := 13) rfl ?_); (try (refine gate_guard (by rfl) ?_; dsimp only)); refine Kd.R_lit k66 _ 66 ?hg (N := 13) ?hd (xs := ([(⟨(⟨t559, t560, t561⟩ : S36), (⟨t562, t563, t564⟩ : S36)⟩ : S66)] : List (S66))) (inner := [.bool t559, .int .u64 t560, .int .u64 t561, .bool t562, .int .u64 t563, .int .u64 t564]) (ok := fun _ => True) (okp := fun _ => True) ?hr ?hp (fun _ hk => hk) trivial (Below.refl _ _) (Nat.le_refl _) (by simp) ?_; (case hd => rfl); (case hg => rfl); (case hr => first | (go_simp; done) | (go_simp; rfl)); (case hp => exact (Reps.c6 (show Kd.M k66 _ _ _ (⟨(⟨t559, t560, t561⟩ : S36), (⟨t562, t563, t564⟩ : S36)⟩ : S66) [.bool t559, .int .u64 t560, .int .u64 t561, .bool t562, .int .u64 t563, .int .u64 t564] from (k66_mkM _ _ _ (⟨(⟨t559, t560, t561⟩ : S36), (⟨t562, t563, t564⟩ : S36)⟩ : S66) )) (Reps.none _ _))); intro v566 w23 ho24 hb hg_ hnew_; clear hg_ hnew_; (first | rw [← Ny565.out] at ho24 | (simp only [Int.reduceToNat] at ho24; rw [← Ny565.out] at ho24)); have HO567 := Aside0.mk (Kd.R_lower (Kd.R_new' ho24 (Kd.R_lt (zR HO558))) (below_size (zB HB))); replace HO558 := Aside0.mk (Kd.R_elder' (zR HO558) (Kd.R_base ho24) hb); replace HB := Aside0.mk (below_step (zB HB) hb); clear hb ho24; obtain ⟨Ao25, co25, eo25⟩ := Kd.R_slice HO567.out; subst eo25) | ((with_reducible refine gate_callee (f := 46) rfl ?_); refine goesL_ (some 14) rfl rfl Try.func46 (by kernel_rfl) rfl #[.slice Ao25 y565.length co25] rfl (by (try simp only [List.map_toArray, List.map_cons, List.map_nil]); first | done | rfl | (simp only [List.length_drop, List.length_take]; rfl)) ?_; (with_reducible refine (addrset_Prefixes.calls k _ _ y565 t568 _ ?side1 ?side2 A7.out).mono ?_); (case side1 => repeat (first | exact (Kd.R_reads' HO567.out).2.2 | (with_reducible refine Kd.C_alloc ?_ _) | (with_reducible refine Kd.C_drewN ?_ _) | (with_reducible refine Kd.C_drew ?_))); (case side2 => exact (Kd.R_reads' HO567.out).2.1); rintro e w26 ⟨v569, rfl, ho0, hb⟩; refine ⟨_, rfl, ?_⟩; replace HO558 := Aside0.mk (Kd.R_below (zR HO558) hb); replace HO567 := Aside0.mk (Kd.R_below (zR HO567) hb); have HO570 := Aside0.mk (Kd.R_lower ho0 (below_size (zB HB))); replace HB := Aside0.mk (below_step (zB HB) hb); (try clear hb); (try clear ho0)))
     replace HO558 := Aside0.mk (Kd.R_drew HO558.out)
     replace HO567 := Aside0.mk (Kd.R_drew HO567.out)
     replace HO570 := Aside0.mk (Kd.R_drew HO570.out)
     replace HB := Aside0.mk (below_drew1 HB.out)
     obtain ⟨Ao28, co28, eo28⟩ := Kd.R_slice HO558.out
     (first | subst eo28 | (injection eo28 with f1_ f2_ f3_; have f4_ := f1_.symm; have f5_ := f3_.symm; clear f1_ f2_ f3_; subst f4_; subst f5_))
     refine start_ (n := 39) (S := fun w' => True) (ds := []) #[false, false, false, false, false, false, false, false, false, false, false, false, false, false, false, false, false, false, false, false, false, false, false, false, false, false, false, false, false, false, false, false, false, false, false, false, false, false, false] (by kernel_rfl) rfl rfl trivial (fun hHeld => ?_); refine with_tabW intrusionlaw07_awake.tab3 intrusionlaw07_awake.bits3 (fun HT_ HW_ => ?_)
     generalize w26.drew = w27 at HO558 HO567 HO570 HB hHeld ⊢
     refine zp 0 15 HT_ ?_; refine zo 1 16 HT_ (fun K hK => ?_)
     refine zg Try.func38 #[.slice Ao28 y556.length co28] ?_
     with_reducible refine (addrset_Normal.calls k _ _ y556 t571 _ ?side1 ?side2 A8.out).mono ?_
     (case side1 => repeat (first | exact (Kd.R_reads' HO558.out).2.2 | (with_reducible refine Kd.C_alloc ?_ _) | (with_reducible refine Kd.C_drewN ?_ _) | (with_reducible refine Kd.C_drew ?_)))
     (case side2 => exact (Kd.R_reads' HO558.out).2.1)
     rintro e w29 ⟨v572, rfl, ho0, hb⟩
     refine ⟨_, rfl, ?_⟩
     replace HO570 := Aside0.mk (Kd.R_below (zR HO570) hb)
     have HO573 := Aside0.mk (Kd.R_lower (Kd.R_new' (Kd.R_new' ho0 (Kd.R_lt (zR HO558))) (Kd.R_lt (zR HO567))) (below_size (zB HB)))
     replace HO558 := Aside0.mk (Kd.R_elder' (zR HO558) (Kd.R_base ho0) hb)
     replace HO567 := Aside0.mk (Kd.R_elder' (zR HO567) (Kd.R_base ho0) hb)
     replace HB := Aside0.mk (below_step (zB HB) hb)
     (try clear hb)
     (try clear ho0)
     refine hK.out _ _ trivial (fun hHeld => ?_)
     clear hK K
     refine zn 16 ?_; refine zo 2 17 HT_ (fun K hK => ?_)
     refine zg Try.func70 #[.int .u64 1] ?_
     with_reducible refine (intrusionlaw07_ip.calls 1 t574 t575 t576 _ A9.out).mono ?_
     rintro e w30 ⟨rfl, hb⟩
     refine ⟨_, rfl, ?_⟩
     replace HO558 := Aside0.mk (Kd.R_below (zR HO558) hb)
     replace HO567 := Aside0.mk (Kd.R_below (zR HO567) hb)
     replace HO570 := Aside0.mk (Kd.R_below (zR HO570) hb)
     replace HO573 := Aside0.mk (Kd.R_below (zR HO573) hb)
     replace HB := Aside0.mk (below_step (zB HB) hb)
     (try clear hb)
     refine hK.out _ _ trivial (fun hHeld => ?_)
     clear hK K
     refine zn 17 ?_; refine zo 3 18 HT_ (fun K hK => ?_)
     refine zg Try.func70 #[.int .u64 3] ?_
     with_reducible refine (intrusionlaw07_ip.calls 3 t577 t578 t579 _ A10.out).mono ?_
     rintro e w31 ⟨rfl, hb⟩
     refine ⟨_, rfl, ?_⟩
     replace HO558 := Aside0.mk (Kd.R_below (zR HO558) hb)
     replace HO567 := Aside0.mk (Kd.R_below (zR HO567) hb)
     replace HO570 := Aside0.mk (Kd.R_below (zR HO570) hb)
     replace HO573 := Aside0.mk (Kd.R_below (zR HO573) hb)
     replace HB := Aside0.mk (below_step (zB HB) hb)
     (try clear hb)
     refine hK.out _ _ trivial (fun hHeld => ?_)
     clear hK K
     refine zn 18 ?_; refine zp 4 19 HT_ ?_; refine zo 5 20 HT_ (fun K hK => ?_)
     refine Kd.R_lit_step k66 _ 66 ?hg (N := 20) ?hd (xs := ([(⟨(⟨t574, t575, t576⟩ : S36), (⟨t577, t578, t579⟩ : S36)⟩ : S66)] : List (S66))) (inner := [.bool t574, .int .u64 t575, .int .u64 t576, .bool t577, .int .u64 t578, .int .u64 t579]) (ok := fun _ => True) (okp := fun _ => True) ?hr ?hp (fun _ hk => hk) trivial (Below.refl _ _) (Nat.le_refl _) (by simp) ?_; (case hd => rfl); (case hg => rfl); (case hr => first | (go_simp; done) | (go_simp; rfl)); (case hp => exact (Reps.c6 (show Kd.M k66 _ _ _ (⟨(⟨t574, t575, t576⟩ : S36), (⟨t577, t578, t579⟩ : S36)⟩ : S66) [.bool t574, .int .u64 t575, .int .u64 t576, .bool t577, .int .u64 t578, .int .u64 t579] from (k66_mkM _ _ _ (⟨(⟨t574, t575, t576⟩ : S36), (⟨t577, t578, t579⟩ : S36)⟩ : S66) )) (Reps.none _ _)))
     intro v581 w32 ho33 hb hg_ hnew_
     clear hg_ hnew_
     (first | rw [← Ny580.out] at ho33 | (simp only [Int.reduceToNat] at ho33; rw [← Ny580.out] at ho33))
     replace HO570 := Aside0.mk (Kd.R_below (zR HO570) hb)
     have HO582 := Aside0.mk (Kd.R_lower (Kd.R_new' (Kd.R_new' (Kd.R_new' ho33 (Kd.R_lt (zR HO558))) (Kd.R_lt (zR HO567))) (Kd.R_lt (zR HO573))) (below_size (zB HB)))
     replace HO558 := Aside0.mk (Kd.R_elder' (zR HO558) (Kd.R_base ho33) hb)
     replace HO567 := Aside0.mk (Kd.R_elder' (zR HO567) (Kd.R_base ho33) hb)
     replace HO573 := Aside0.mk (Kd.R_elder' (zR HO573) (Kd.R_base ho33) hb)
     replace HB := Aside0.mk (below_step (zB HB) hb)
     clear hb ho33
     obtain ⟨Ao34, co34, eo34⟩ := Kd.R_slice HO573.out
     (first | subst eo34 | (injection eo34 with f1_ f2_ f3_; have f4_ := f1_.symm; have f5_ := f3_.symm; clear f1_ f2_ f3_; subst f4_; subst f5_))
     obtain ⟨Ao35, co35, eo35⟩ := Kd.R_slice HO582.out
     (first | subst eo35 | (injection eo35 with f1_ f2_ f3_; have f4_ := f1_.symm; have f5_ := f3_.symm; clear f1_ f2_ f3_; subst f4_; subst f5_))
     refine hK.out _ _ trivial (fun hHeld => ?_)
     clear hK K
     refine zn 20 ?_; refine zo 6 21 HT_ (fun K hK => ?_)
     refine zg Try.func37 #[.slice Ao34 t571.length co34, .slice Ao35 y580.length co35] ?_
     with_reducible refine (intrusionref07_Same.calls k _ _ t571 _ _ y580 true _ ?side1 ?side2 ?side3 ?side4 A11.out).mono ?_
     (case side1 => repeat (first | exact (Kd.R_reads' HO573.out).2.2 | (with_reducible refine Kd.C_alloc ?_ _) | (with_reducible refine Kd.C_drewN ?_ _) | (with_reducible refine Kd.C_drew ?_)))
     (case side2 => exact (Kd.R_reads' HO573.out).2.1)
     (case side3 => repeat (first | exact (Kd.R_reads' HO582.out).2.2 | (with_reducible refine Kd.C_alloc ?_ _) | (with_reducible refine Kd.C_drewN ?_ _) | (with_reducible refine Kd.C_drew ?_)))
     (case side4 => exact (Kd.R_reads' HO582.out).2.1)
     rintro e w' ⟨rfl, ⟨nd, rfl⟩⟩
     refine ⟨_, rfl, ?_⟩
     refine hK.out _ _ trivial (fun hHeld => ?_)
     clear hK K
     refine zn 21 ?_; refine zp 7 22 HT_ ?_; refine zp 8 23 HT_ ?_; refine zo 9 24 HT_ (fun K hK => ?_)
     refine zg Try.func40 #[.slice Ao28 y556.length co28] ?_
     with_reducible refine (addrset_Valid.calls k _ _ y556 true _ ?side1 ?side2 A13.out).mono ?_
     (case side1 => repeat (first | exact (Kd.R_reads' HO558.out).2.2 | (with_reducible refine Kd.C_alloc ?_ _) | (with_reducible refine Kd.C_drewN ?_ _) | (with_reducible refine Kd.C_drew ?_)))
     (case side2 => exact (Kd.R_reads' HO558.out).2.1)
     rintro e w36 ⟨rfl, hb⟩
     refine ⟨_, rfl, ?_⟩
     replace HO558 := Aside0.mk (Kd.R_below (zR HO558) hb)
     replace HO567 := Aside0.mk (Kd.R_below (zR HO567) hb)
     replace HO570 := Aside0.mk (Kd.R_below (zR HO570) hb)
     replace HO573 := Aside0.mk (Kd.R_below (zR HO573) hb)
     replace HO582 := Aside0.mk (Kd.R_below (zR HO582) hb)
     replace HB := Aside0.mk (below_step (zB HB) hb)
     (try clear hb)
     refine hK.out _ _ trivial (fun hHeld => ?_)
     clear hK K
     refine zn 24 ?_; refine zp 10 25 HT_ ?_; refine zp 11 26 HT_ ?_; refine zp 12 27 HT_ ?_; refine zu 13 28 HT_ ?_; refine zu 14 29 HT_ ?_; refine zu 15 30 HT_ ?_; refine zp 16 31 HT_ ?_; refine zp 17 32 HT_ ?_; refine zu 18 33 HT_ ?_; refine zu 19 34 HT_ ?_; refine zu 20 35 HT_ ?_; refine zu 21 36 HT_ ?_; refine zu 22 37 HT_ ?_; refine zu 23 38 HT_ ?_; refine zp 24 39 HT_ ?_; refine zp 25 40 HT_ ?_; refine zu 26 41 HT_ ?_; refine zu 27 42 HT_ ?_; refine zu 28 43 HT_ ?_; refine zu 29 44 HT_ ?_; refine zu 30 45 HT_ ?_; refine zu 31 46 HT_ ?_; refine zp 32 47 HT_ ?_; refine zp 33 48 HT_ ?_; refine zu 34 49 HT_ ?_; refine zu 35 50 HT_ ?_; refine zu 36 51 HT_ ?_; refine zp 37 52 HT_ ?_; refine zp 38 0 HT_ ?_; refine zd HT_ ?_
     try go_wp2
     go_ret
     exact ⟨by first | rfl | (simp [errW_none, errW_some] <;> rfl) | (simp [*, errW_none, errW_some] <;> rfl), by repeat (first | (with_reducible first | exact HB.out | apply below_alloc | apply pw_below_drewN | apply below_drew1) | exact HB.out)⟩
   · replace c14 := Bool.eq_false_iff.mpr c14
     subst c14
     rw [if_neg zF] at H
     by_cases c37 : (t568.length : Int) = 3
     · rw [if_pos c37] at H
       have c37b0 : ((t568.length : Int) == 3) = true := beq_iff_eq.mpr c37
       have c37b1 : ((t568.length : Int) != 3) = false := bne_eq_false_iff_eq.mpr c37
       clear c37
       by_cases c38 : 0 < (t568.length : Int)
       · rw [if_pos c38] at H
         have c38b0 : decide (0 < (t568.length : Int)) = true := decide_eq_true c38
         have c38b1 : decide (0 < t568.length) = true := decide_eq_true (by omega)
         clear c38
         replace H := Option.bind_eq_some_iff.mp H
         obtain ⟨⟨t586, t587, t588⟩, A390, H⟩ := H
         try dsimp only at H
         have A39 := Aside0.mk A390
         clear A390
         by_cases c40 : ((((rd_T45 t568 0).f0.f0) == t586 && (((rd_T45 t568 0).f0.f1) == t587 && (((rd_T45 t568 0).f0.f2) == t588))) && (((rd_T45 t568 0).f1) == 32)) = true
         · rw [if_pos c40] at H
           have c40b0 : ((((rd_T45 t568 0).f0.f0) == t586 && (((rd_T45 t568 0).f0.f1) == t587 && (((rd_T45 t568 0).f0.f2) == t588))) && (((rd_T45 t568 0).f1) == 32)) = true := c40
           clear c40
           by_cases c41 : 1 < (t568.length : Int)
           · rw [if_pos c41] at H
             have c41b0 : decide (1 < (t568.length : Int)) = true := decide_eq_true c41
             have c41b1 : decide (1 < t568.length) = true := decide_eq_true (by omega)
             clear c41
             replace H := Option.bind_eq_some_iff.mp H
             obtain ⟨⟨t590, t591, t592⟩, A420, H⟩ := H
             try dsimp only at H
             have A42 := Aside0.mk A420
             clear A420
             by_cases c43 : ((((rd_T45 t568 1).f0.f0) == t590 && (((rd_T45 t568 1).f0.f1) == t591 && (((rd_T45 t568 1).f0.f2) == t592))) && (((rd_T45 t568 1).f1) == 31)) = true
             · rw [if_pos c43] at H
               have c43b0 : ((((rd_T45 t568 1).f0.f0) == t590 && (((rd_T45 t568 1).f0.f1) == t591 && (((rd_T45 t568 1).f0.f2) == t592))) && (((rd_T45 t568 1).f1) == 31)) = true := c43
               clear c43
               replace H := Option.bind_eq_some_iff.mp H
               obtain ⟨t593, A440, H⟩ := H
               try dsimp only at H
               have A44 := Aside0.mk A440
               clear A440
               obtain rfl := Option.some.inj H
               go_enter Try.func36, Try.ntmps36
               try go_wp2_with (first | ((with_reducible refine gate_callee (f := 70) rfl ?_); refine goesL_ (some 3) rfl rfl Try.func70 (by kernel_rfl) rfl #[.int .u64 2] rfl (by (try simp only [List.map_toArray, List.map_cons, List.map_nil]); first | done | rfl | (simp only [List.length_drop, List.length_take]; rfl)) ?_; (with_reducible refine (intrusionlaw07_ip.calls 2 t544 t545 t546 _ A1.out).mono ?_); rintro e w45 ⟨rfl, hb⟩; refine ⟨_, rfl, ?_⟩; replace HB := Aside0.mk (below_step (zB HB) hb); (try clear hb)) | ((with_reducible refine gate_callee (f := 70) rfl ?_); refine goesL_ (some 4) rfl rfl Try.func70 (by kernel_rfl) rfl #[.int .u64 3] rfl (by (try simp only [List.map_toArray, List.map_cons, List.map_nil]); first | done | rfl | (simp only [List.length_drop, List.length_take]; rfl)) ?_; (with_reducible refine (intrusionlaw07_ip.calls 3 t547 t548 t549 _ A2.out).mono ?_); rintro e w46 ⟨rfl, hb⟩; refine ⟨_, rfl, ?_⟩; replace HB := Aside0.mk (below_step (zB HB) hb); (try clear hb)) | ((with_reducible refine gate_callee (f := 70) rfl ?_); refine goesL_ (some 6) rfl rfl Try.func70 (by kernel_rfl) rfl #[.int .u64 1] rfl (by (try simp only [List.map_toArray, List.map_cons, List.map_nil]); first | done | rfl | (simp only [List.length_drop, List.length_take]; rfl)) ?_; (with_reducible refine (intrusionlaw07_ip.calls 1 t550 t551 t552 _ A3.out).mono ?_); rintro e w47 ⟨rfl, hb⟩; refine ⟨_, rfl, ?_⟩; replace HB := Aside0.mk (below_step (zB HB) hb); (try clear hb)) | ((with_reducible refine gate_callee (f := 70) rfl ?_); refine goesL_ (some 7) rfl rfl Try.func70 (by kernel_rfl) rfl #[.int .u64 1] rfl (by (try simp only [List.map_toArray, List.map_cons, List.map_nil]); first | done | rfl | (simp only [List.length_drop, List.length_take]; rfl)) ?_; (with_reducible refine (intrusionlaw07_ip.calls 1 t553 t554 t555 _ A4.out).mono ?_); rintro e w48 ⟨rfl, hb⟩; refine ⟨_, rfl, ?_⟩; replace HB := Aside0.mk (below_step (zB HB) hb); (try clear hb)) | ((with_reducible refine gate_dst (N := 9) rfl ?_); (try (refine gate_guard (by rfl) ?_; dsimp only)); refine Kd.R_lit k66 _ 66 ?hg (N := 9) ?hd (xs := ([(⟨(⟨t544, t545, t546⟩ : S36), (⟨t547, t548, t549⟩ : S36)⟩ : S66), (⟨(⟨t550, t551, t552⟩ : S36), (⟨t553, t554, t555⟩ : S36)⟩ : S66)] : List (S66))) (inner := [.bool t544, .int .u64 t545, .int .u64 t546, .bool t547, .int .u64 t548, .int .u64 t549, .bool t550, .int .u64 t551, .int .u64 t552, .bool t553, .int .u64 t554, .int .u64 t555]) (ok := fun _ => True) (okp := fun _ => True) ?hr ?hp (fun _ hk => hk) trivial (Below.refl _ _) (Nat.le_refl _) (by simp) ?_; (case hd => rfl); (case hg => rfl); (case hr => first | (go_simp; done) | (go_simp; rfl)); (case hp => exact (Reps.c6 (show Kd.M k66 _ _ _ (⟨(⟨t544, t545, t546⟩ : S36), (⟨t547, t548, t549⟩ : S36)⟩ : S66) [.bool t544, .int .u64 t545, .int .u64 t546, .bool t547, .int .u64 t548, .int .u64 t549] from (k66_mkM _ _ _ (⟨(⟨t544, t545, t546⟩ : S36), (⟨t547, t548, t549⟩ : S36)⟩ : S66) )) (Reps.c6 (show Kd.M k66 _ _ _ (⟨(⟨t550, t551, t552⟩ : S36), (⟨t553, t554, t555⟩ : S36)⟩ : S66) [.bool t550, .int .u64 t551, .int .u64 t552, .bool t553, .int .u64 t554, .int .u64 t555] from (k66_mkM _ _ _ (⟨(⟨t550, t551, t552⟩ : S36), (⟨t553, t554, t555⟩ : S36)⟩ : S66) )) (Reps.none _ _)))); intro v557 w49 ho50 hb hg_ hnew_; clear hg_ hnew_; (first | rw [← Ny556.out] at ho50 | (simp only [Int.reduceToNat] at ho50; rw [← Ny556.out] at ho50)); have HO558 := Aside0.mk (Kd.R_lower ho50 (below_size (zB HB))); replace HB := Aside0.mk (below_step (zB HB) hb); clear hb ho50) | ((with_reducible refine gate_callee (f := 70) rfl ?_); refine goesL_ (some 10) rfl rfl Try.func70 (by kernel_rfl) rfl #[.int .u64 1] rfl (by (try simp only [List.map_toArray, List.map_cons, List.map_nil]); first | done | rfl | (simp only [List.length_drop, List.length_take]; rfl)) ?_; (with_reducible refine (intrusionlaw07_ip.calls 1 t559 t560 t561 _ A5.out).mono ?_); rintro e w51 ⟨rfl, hb⟩; refine ⟨_, rfl, ?_⟩; replace HO558 := Aside0.mk (Kd.R_below (zR HO558) hb); replace HB := Aside0.mk (below_step (zB HB) hb); (try clear hb)) | ((with_reducible refine gate_callee (f := 70) rfl ?_); refine goesL_ (some 11) rfl rfl Try.func70 (by kernel_rfl) rfl #[.int .u64 4] rfl (by (try simp only [List.map_toArray, List.map_cons, List.map_nil]); first | done | rfl | (simp only [List.length_drop, List.length_take]; rfl)) ?_; (with_reducible refine (intrusionlaw07_ip.calls 4 t562 t563 t564 _ A6.out).mono ?_); rintro e w52 ⟨rfl, hb⟩; refine ⟨_, rfl, ?_⟩; replace HO558 := Aside0.mk (Kd.R_below (zR HO558) hb); replace HB := Aside0.mk (below_step (zB HB) hb); (try clear hb)) | ((with_reducible refine gate_dst (N := 13) rfl ?_); (try (refine gate_guard (by rfl) ?_; dsimp only)); refine Kd.R_lit k66 _ 66 ?hg (N := 13) ?hd (xs := ([(⟨(⟨t559, t560, t561⟩ : S36), (⟨t562, t563, t564⟩ : S36)⟩ : S66)] : List (S66))) (inner := [.bool t559, .int .u64 t560, .int .u64 t561, .bool t562, .int .u64 t563, .int .u64 t564]) (ok := fun _ => True) (okp := fun _ => True) ?hr ?hp (fun _ hk => hk) trivial (Below.refl _ _) (Nat.le_refl _) (by simp) ?_; (case hd => rfl); (case hg => rfl); (case hr => first | (go_simp; done) | (go_simp; rfl)); (case hp => exact (Reps.c6 (show Kd.M k66 _ _ _ (⟨(⟨t559, t560, t561⟩ : S36), (⟨t562, t563, t564⟩ : S36)⟩ : S66) [.bool t559, .int .u64 t560, .int .u64 t561, .bool t562, .int .u64 t563, .int .u64 t564] from (k66_mkM _ _ _ (⟨(⟨t559, t560, t561⟩ : S36), (⟨t562, t563, t564⟩ : S36)⟩ : S66) )) (Reps.none _ _))); intro v566 w53 ho54 hb hg_ hnew_; clear hg_ hnew_; (first | rw [← Ny565.out] at ho54 | (simp only [Int.reduceToNat] at ho54; rw [← Ny565.out] at ho54)); have HO567 := Aside0.mk (Kd.R_lower (Kd.R_new' ho54 (Kd.R_lt (zR HO558))) (below_size (zB HB))); replace HO558 := Aside0.mk (Kd.R_elder' (zR HO558) (Kd.R_base ho54) hb); replace HB := Aside0.mk (below_step (zB HB) hb); clear hb ho54; obtain ⟨Ao55, co55, eo55⟩ := Kd.R_slice HO567.out; subst eo55) | ((with_reducible refine gate_callee (f := 46) rfl ?_); refine goesL_ (some 14) rfl rfl Try.func46 (by kernel_rfl) rfl #[.slice Ao55 y565.length co55] rfl (by (try simp only [List.map_toArray, List.map_cons, List.map_nil]); first | done | rfl | (simp only [List.length_drop, List.length_take]; rfl)) ?_; (with_reducible refine (addrset_Prefixes.calls k _ _ y565 t568 _ ?side1 ?side2 A7.out).mono ?_); (case side1 => repeat (first | exact (Kd.R_reads' HO567.out).2.2 | (with_reducible refine Kd.C_alloc ?_ _) | (with_reducible refine Kd.C_drewN ?_ _) | (with_reducible refine Kd.C_drew ?_))); (case side2 => exact (Kd.R_reads' HO567.out).2.1); rintro e w56 ⟨v569, rfl, ho0, hb⟩; refine ⟨_, rfl, ?_⟩; replace HO558 := Aside0.mk (Kd.R_below (zR HO558) hb); replace HO567 := Aside0.mk (Kd.R_below (zR HO567) hb); have HO570 := Aside0.mk (Kd.R_lower ho0 (below_size (zB HB))); replace HB := Aside0.mk (below_step (zB HB) hb); (try clear hb); (try clear ho0)))
               replace HO558 := Aside0.mk (Kd.R_drew HO558.out)
               replace HO567 := Aside0.mk (Kd.R_drew HO567.out)
               replace HO570 := Aside0.mk (Kd.R_drew HO570.out)
               replace HB := Aside0.mk (below_drew1 HB.out)
               obtain ⟨Ao58, co58, eo58⟩ := Kd.R_slice HO558.out
               (first | subst eo58 | (injection eo58 with f1_ f2_ f3_; have f4_ := f1_.symm; have f5_ := f3_.symm; clear f1_ f2_ f3_; subst f4_; subst f5_))
               have p585 : 0 ≤ (0 : Int) := (by omega)
               have q585 : 0 < (t568.length : Int) := za
               (try (obtain ⟨Ax_, cx_, ex_⟩ := Kd.R_slice HO570.out; subst ex_))
               obtain ⟨ad585, e585, hx585_0, hx585_1, hx585_2, hx585_3⟩ := at_T45 (Kd.R_reads' HO570.out).2.2 0 p585 q585
               cases e585
               have qi585 : (0 < t568.length) = True := eq_true (by omega)
               (try rw [show ((0 : Int)).toNat = 0 from rfl] at hx585_0)
               (try rw [show 0 * 4 = 0 from rfl] at hx585_0)
               (try rw [Addr.add_zero'] at hx585_0)
               (try rw [show ((0 : Int)).toNat = 0 from rfl] at hx585_1)
               (try rw [show 0 * 4 = 0 from rfl] at hx585_1)
               (try rw [Addr.add_zero'] at hx585_1)
               (try rw [show ((0 : Int)).toNat = 0 from rfl] at hx585_2)
               (try rw [show 0 * 4 = 0 from rfl] at hx585_2)
               (try rw [Addr.add_zero'] at hx585_2)
               (try rw [show ((0 : Int)).toNat = 0 from rfl] at hx585_3)
               (try rw [show 0 * 4 = 0 from rfl] at hx585_3)
               (try rw [Addr.add_zero'] at hx585_3)
               replace p585 := eq_true p585
               replace q585 := eq_true q585
               have p589 : 0 ≤ (1 : Int) := (by omega)
               have q589 : 1 < (t568.length : Int) := za
               obtain ⟨ad589, e589, hx589_0, hx589_1, hx589_2, hx589_3⟩ := at_T45 (Kd.R_reads' HO570.out).2.2 1 p589 q589
               obtain rfl : ad585 = ad589 := (by injection e589)
               (try simp only [show (1 : Int).toNat = 1 from rfl, Nat.reduceMul, Nat.reduceEqDiff, Go.Addr.add, ↓reduceIte] at hx589_0)
               (try simp only [show (1 : Int).toNat = 1 from rfl, Nat.reduceMul, Nat.reduceEqDiff, Go.Addr.add, ↓reduceIte] at hx589_1)
               (try simp only [show (1 : Int).toNat = 1 from rfl, Nat.reduceMul, Nat.reduceEqDiff, Go.Addr.add, ↓reduceIte] at hx589_2)
               (try simp only [show (1 : Int).toNat = 1 from rfl, Nat.reduceMul, Nat.reduceEqDiff, Go.Addr.add, ↓reduceIte] at hx589_3)
               have qi589 : (1 < t568.length) = True := eq_true (by omega)
               (try rw [show ((1 : Int)).toNat = 1 from rfl] at hx589_0)
               (try rw [show 1 * 4 = 4 from rfl] at hx589_0)
               (try rw [show ((1 : Int)).toNat = 1 from rfl] at hx589_1)
               (try rw [show 1 * 4 = 4 from rfl] at hx589_1)
               (try rw [show ((1 : Int)).toNat = 1 from rfl] at hx589_2)
               (try rw [show 1 * 4 = 4 from rfl] at hx589_2)
               (try rw [show ((1 : Int)).toNat = 1 from rfl] at hx589_3)
               (try rw [show 1 * 4 = 4 from rfl] at hx589_3)
               replace p589 := eq_true p589
               replace q589 := eq_true q589
               refine start_ (n := 39) (S := fun w' => w'.cell? ad585 = some (.bool ((rd_T45 t568 0).f0.f0)) ∧ w'.cell? ⟨ad585.block, ad585.off + 1, none⟩ = some (.int .u64 ((rd_T45 t568 0).f0.f1)) ∧ w'.cell? ⟨ad585.block, ad585.off + 2, none⟩ = some (.int .u64 ((rd_T45 t568 0).f0.f2)) ∧ w'.cell? ⟨ad585.block, ad585.off + 3, none⟩ = some (.int .i64 ((rd_T45 t568 0).f1)) ∧ w'.cell? ⟨ad585.block, ad585.off + 4, none⟩ = some (.bool ((rd_T45 t568 1).f0.f0)) ∧ w'.cell? ⟨ad585.block, ad585.off + 4 + 1, none⟩ = some (.int .u64 ((rd_T45 t568 1).f0.f1)) ∧ w'.cell? ⟨ad585.block, ad585.off + 4 + 2, none⟩ = some (.int .u64 ((rd_T45 t568 1).f0.f2)) ∧ w'.cell? ⟨ad585.block, ad585.off + 4 + 3, none⟩ = some (.int .i64 ((rd_T45 t568 1).f1))) (ds := []) #[false, false, false, false, false, false, false, false, false, false, false, false, false, false, false, false, false, false, false, false, false, false, false, false, false, false, false, false, false, false, false, false, false, false, false, false, false, false, false] (by kernel_rfl) rfl rfl ⟨hx585_0, hx585_1, hx585_2, hx585_3, hx589_0, hx589_1, hx589_2, hx589_3⟩ (fun hHeld => ?_); refine with_tabW intrusionlaw07_awake.tab3 intrusionlaw07_awake.bits3 (fun HT_ HW_ => ?_)
               generalize w56.drew = w57 at HO558 HO567 HO570 HB hx585_0 hx585_1 hx585_2 hx585_3 hx589_0 hx589_1 hx589_2 hx589_3 hHeld ⊢
               refine zp 0 15 HT_ ?_; refine zo 1 16 HT_ (fun K hK => ?_)
               refine zg Try.func38 #[.slice Ao58 y556.length co58] ?_
               with_reducible refine (addrset_Normal.calls k _ _ y556 t571 _ ?side1 ?side2 A8.out).mono ?_
               (case side1 => repeat (first | exact (Kd.R_reads' HO558.out).2.2 | (with_reducible refine Kd.C_alloc ?_ _) | (with_reducible refine Kd.C_drewN ?_ _) | (with_reducible refine Kd.C_drew ?_)))
               (case side2 => exact (Kd.R_reads' HO558.out).2.1)
               rintro e w59 ⟨v572, rfl, ho0, hb⟩
               have HS0_ := (hb.cell (World.block_lt_of_cell? _ _ (hHeld.1))).trans (hHeld.1)
               have HS1_ := (hb.cell (World.block_lt_of_cell? _ _ (hHeld.2.1))).trans (hHeld.2.1)
               have HS2_ := (hb.cell (World.block_lt_of_cell? _ _ (hHeld.2.2.1))).trans (hHeld.2.2.1)
               have HS3_ := (hb.cell (World.block_lt_of_cell? _ _ (hHeld.2.2.2.1))).trans (hHeld.2.2.2.1)
               have HS4_ := (hb.cell (World.block_lt_of_cell? _ _ (hHeld.2.2.2.2.1))).trans (hHeld.2.2.2.2.1)
               have HS5_ := (hb.cell (World.block_lt_of_cell? _ _ (hHeld.2.2.2.2.2.1))).trans (hHeld.2.2.2.2.2.1)
               have HS6_ := (hb.cell (World.block_lt_of_cell? _ _ (hHeld.2.2.2.2.2.2.1))).trans (hHeld.2.2.2.2.2.2.1)
               have HS7_ := (hb.cell (World.block_lt_of_cell? _ _ (hHeld.2.2.2.2.2.2.2))).trans (hHeld.2.2.2.2.2.2.2)
               refine ⟨_, rfl, ?_⟩
               replace HO570 := Aside0.mk (Kd.R_below (zR HO570) hb)
               have HO573 := Aside0.mk (Kd.R_lower (Kd.R_new' (Kd.R_new' ho0 (Kd.R_lt (zR HO558))) (Kd.R_lt (zR HO567))) (below_size (zB HB)))
               replace HO558 := Aside0.mk (Kd.R_elder' (zR HO558) (Kd.R_base ho0) hb)
               replace HO567 := Aside0.mk (Kd.R_elder' (zR HO567) (Kd.R_base ho0) hb)
               replace HB := Aside0.mk (below_step (zB HB) hb)
               (try clear hb)
               (try clear ho0)
               refine hK.out _ _ ⟨HS0_, HS1_, HS2_, HS3_, HS4_, HS5_, HS6_, HS7_⟩ (fun hHeld => ?_)
               clear hK K
               refine zn 16 ?_; refine zo 2 17 HT_ (fun K hK => ?_)
               refine zg Try.func70 #[.int .u64 1] ?_
               with_reducible refine (intrusionlaw07_ip.calls 1 t574 t575 t576 _ A9.out).mono ?_
               rintro e w60 ⟨rfl, hb⟩
               have HS0_ := (hb.cell (World.block_lt_of_cell? _ _ (hHeld.1))).trans (hHeld.1)
               have HS1_ := (hb.cell (World.block_lt_of_cell? _ _ (hHeld.2.1))).trans (hHeld.2.1)
               have HS2_ := (hb.cell (World.block_lt_of_cell? _ _ (hHeld.2.2.1))).trans (hHeld.2.2.1)
               have HS3_ := (hb.cell (World.block_lt_of_cell? _ _ (hHeld.2.2.2.1))).trans (hHeld.2.2.2.1)
               have HS4_ := (hb.cell (World.block_lt_of_cell? _ _ (hHeld.2.2.2.2.1))).trans (hHeld.2.2.2.2.1)
               have HS5_ := (hb.cell (World.block_lt_of_cell? _ _ (hHeld.2.2.2.2.2.1))).trans (hHeld.2.2.2.2.2.1)
               have HS6_ := (hb.cell (World.block_lt_of_cell? _ _ (hHeld.2.2.2.2.2.2.1))).trans (hHeld.2.2.2.2.2.2.1)
               have HS7_ := (hb.cell (World.block_lt_of_cell? _ _ (hHeld.2.2.2.2.2.2.2))).trans (hHeld.2.2.2.2.2.2.2)
               refine ⟨_, rfl, ?_⟩
               replace HO558 := Aside0.mk (Kd.R_below (zR HO558) hb)
               replace HO567 := Aside0.mk (Kd.R_below (zR HO567) hb)
               replace HO570 := Aside0.mk (Kd.R_below (zR HO570) hb)
               replace HO573 := Aside0.mk (Kd.R_below (zR HO573) hb)
               replace HB := Aside0.mk (below_step (zB HB) hb)
               (try clear hb)
               refine hK.out _ _ ⟨HS0_, HS1_, HS2_, HS3_, HS4_, HS5_, HS6_, HS7_⟩ (fun hHeld => ?_)
               clear hK K
               refine zn 17 ?_; refine zo 3 18 HT_ (fun K hK => ?_)
               refine zg Try.func70 #[.int .u64 3] ?_
               with_reducible refine (intrusionlaw07_ip.calls 3 t577 t578 t579 _ A10.out).mono ?_
               rintro e w61 ⟨rfl, hb⟩
               have HS0_ := (hb.cell (World.block_lt_of_cell? _ _ (hHeld.1))).trans (hHeld.1)
               have HS1_ := (hb.cell (World.block_lt_of_cell? _ _ (hHeld.2.1))).trans (hHeld.2.1)
               have HS2_ := (hb.cell (World.block_lt_of_cell? _ _ (hHeld.2.2.1))).trans (hHeld.2.2.1)
               have HS3_ := (hb.cell (World.block_lt_of_cell? _ _ (hHeld.2.2.2.1))).trans (hHeld.2.2.2.1)
               have HS4_ := (hb.cell (World.block_lt_of_cell? _ _ (hHeld.2.2.2.2.1))).trans (hHeld.2.2.2.2.1)
               have HS5_ := (hb.cell (World.block_lt_of_cell? _ _ (hHeld.2.2.2.2.2.1))).trans (hHeld.2.2.2.2.2.1)
               have HS6_ := (hb.cell (World.block_lt_of_cell? _ _ (hHeld.2.2.2.2.2.2.1))).trans (hHeld.2.2.2.2.2.2.1)
               have HS7_ := (hb.cell (World.block_lt_of_cell? _ _ (hHeld.2.2.2.2.2.2.2))).trans (hHeld.2.2.2.2.2.2.2)
               refine ⟨_, rfl, ?_⟩
               replace HO558 := Aside0.mk (Kd.R_below (zR HO558) hb)
               replace HO567 := Aside0.mk (Kd.R_below (zR HO567) hb)
               replace HO570 := Aside0.mk (Kd.R_below (zR HO570) hb)
               replace HO573 := Aside0.mk (Kd.R_below (zR HO573) hb)
               replace HB := Aside0.mk (below_step (zB HB) hb)
               (try clear hb)
               refine hK.out _ _ ⟨HS0_, HS1_, HS2_, HS3_, HS4_, HS5_, HS6_, HS7_⟩ (fun hHeld => ?_)
               clear hK K
               refine zn 18 ?_; refine zp 4 19 HT_ ?_; refine zo 5 20 HT_ (fun K hK => ?_)
               refine Kd.R_lit_step k66 _ 66 ?hg (N := 20) ?hd (xs := ([(⟨(⟨t574, t575, t576⟩ : S36), (⟨t577, t578, t579⟩ : S36)⟩ : S66)] : List (S66))) (inner := [.bool t574, .int .u64 t575, .int .u64 t576, .bool t577, .int .u64 t578, .int .u64 t579]) (ok := fun _ => True) (okp := fun _ => True) ?hr ?hp (fun _ hk => hk) trivial (Below.refl _ _) (Nat.le_refl _) (by simp) ?_; (case hd => rfl); (case hg => rfl); (case hr => first | (go_simp; done) | (go_simp; rfl)); (case hp => exact (Reps.c6 (show Kd.M k66 _ _ _ (⟨(⟨t574, t575, t576⟩ : S36), (⟨t577, t578, t579⟩ : S36)⟩ : S66) [.bool t574, .int .u64 t575, .int .u64 t576, .bool t577, .int .u64 t578, .int .u64 t579] from (k66_mkM _ _ _ (⟨(⟨t574, t575, t576⟩ : S36), (⟨t577, t578, t579⟩ : S36)⟩ : S66) )) (Reps.none _ _)))
               intro v581 w62 ho63 hb hg_ hnew_
               have HS0_ := (hb.cell (World.block_lt_of_cell? _ _ (hHeld.1))).trans (hHeld.1)
               have HS1_ := (hb.cell (World.block_lt_of_cell? _ _ (hHeld.2.1))).trans (hHeld.2.1)
               have HS2_ := (hb.cell (World.block_lt_of_cell? _ _ (hHeld.2.2.1))).trans (hHeld.2.2.1)
               have HS3_ := (hb.cell (World.block_lt_of_cell? _ _ (hHeld.2.2.2.1))).trans (hHeld.2.2.2.1)
               have HS4_ := (hb.cell (World.block_lt_of_cell? _ _ (hHeld.2.2.2.2.1))).trans (hHeld.2.2.2.2.1)
               have HS5_ := (hb.cell (World.block_lt_of_cell? _ _ (hHeld.2.2.2.2.2.1))).trans (hHeld.2.2.2.2.2.1)
               have HS6_ := (hb.cell (World.block_lt_of_cell? _ _ (hHeld.2.2.2.2.2.2.1))).trans (hHeld.2.2.2.2.2.2.1)
               have HS7_ := (hb.cell (World.block_lt_of_cell? _ _ (hHeld.2.2.2.2.2.2.2))).trans (hHeld.2.2.2.2.2.2.2)
               clear hg_ hnew_
               (first | rw [← Ny580.out] at ho63 | (simp only [Int.reduceToNat] at ho63; rw [← Ny580.out] at ho63))
               replace HO570 := Aside0.mk (Kd.R_below (zR HO570) hb)
               have HO582 := Aside0.mk (Kd.R_lower (Kd.R_new' (Kd.R_new' (Kd.R_new' ho63 (Kd.R_lt (zR HO558))) (Kd.R_lt (zR HO567))) (Kd.R_lt (zR HO573))) (below_size (zB HB)))
               replace HO558 := Aside0.mk (Kd.R_elder' (zR HO558) (Kd.R_base ho63) hb)
               replace HO567 := Aside0.mk (Kd.R_elder' (zR HO567) (Kd.R_base ho63) hb)
               replace HO573 := Aside0.mk (Kd.R_elder' (zR HO573) (Kd.R_base ho63) hb)
               replace HB := Aside0.mk (below_step (zB HB) hb)
               clear hb ho63
               obtain ⟨Ao64, co64, eo64⟩ := Kd.R_slice HO573.out
               (first | subst eo64 | (injection eo64 with f1_ f2_ f3_; have f4_ := f1_.symm; have f5_ := f3_.symm; clear f1_ f2_ f3_; subst f4_; subst f5_))
               obtain ⟨Ao65, co65, eo65⟩ := Kd.R_slice HO582.out
               (first | subst eo65 | (injection eo65 with f1_ f2_ f3_; have f4_ := f1_.symm; have f5_ := f3_.symm; clear f1_ f2_ f3_; subst f4_; subst f5_))
               refine hK.out _ _ ⟨HS0_, HS1_, HS2_, HS3_, HS4_, HS5_, HS6_, HS7_⟩ (fun hHeld => ?_)
               clear hK K
               refine zn 20 ?_; refine zo 6 21 HT_ (fun K hK => ?_)
               refine zg Try.func37 #[.slice Ao64 t571.length co64, .slice Ao65 y580.length co65] ?_
               with_reducible refine (intrusionref07_Same.calls k _ _ t571 _ _ y580 true _ ?side1 ?side2 ?side3 ?side4 A11.out).mono ?_
               (case side1 => repeat (first | exact (Kd.R_reads' HO573.out).2.2 | (with_reducible refine Kd.C_alloc ?_ _) | (with_reducible refine Kd.C_drewN ?_ _) | (with_reducible refine Kd.C_drew ?_)))
               (case side2 => exact (Kd.R_reads' HO573.out).2.1)
               (case side3 => repeat (first | exact (Kd.R_reads' HO582.out).2.2 | (with_reducible refine Kd.C_alloc ?_ _) | (with_reducible refine Kd.C_drewN ?_ _) | (with_reducible refine Kd.C_drew ?_)))
               (case side4 => exact (Kd.R_reads' HO582.out).2.1)
               rintro e w' ⟨rfl, ⟨nd, rfl⟩⟩
               refine ⟨_, rfl, ?_⟩
               refine hK.out _ _ ⟨hHeld.1, hHeld.2.1, hHeld.2.2.1, hHeld.2.2.2.1, hHeld.2.2.2.2.1, hHeld.2.2.2.2.2.1, hHeld.2.2.2.2.2.2.1, hHeld.2.2.2.2.2.2.2⟩ (fun hHeld => ?_)
               clear hK K
               refine zn 21 ?_; refine zp 7 22 HT_ ?_; refine zp 8 23 HT_ ?_; refine zo 9 24 HT_ (fun K hK => ?_)
               refine zg Try.func40 #[.slice Ao58 y556.length co58] ?_
               with_reducible refine (addrset_Valid.calls k _ _ y556 false _ ?side1 ?side2 A13.out).mono ?_
               (case side1 => repeat (first | exact (Kd.R_reads' HO558.out).2.2 | (with_reducible refine Kd.C_alloc ?_ _) | (with_reducible refine Kd.C_drewN ?_ _) | (with_reducible refine Kd.C_drew ?_)))
               (case side2 => exact (Kd.R_reads' HO558.out).2.1)
               rintro e w66 ⟨rfl, hb⟩
               have HS0_ := (hb.cell (World.block_lt_of_cell? _ _ (hHeld.1))).trans (hHeld.1)
               have HS1_ := (hb.cell (World.block_lt_of_cell? _ _ (hHeld.2.1))).trans (hHeld.2.1)
               have HS2_ := (hb.cell (World.block_lt_of_cell? _ _ (hHeld.2.2.1))).trans (hHeld.2.2.1)
               have HS3_ := (hb.cell (World.block_lt_of_cell? _ _ (hHeld.2.2.2.1))).trans (hHeld.2.2.2.1)
               have HS4_ := (hb.cell (World.block_lt_of_cell? _ _ (hHeld.2.2.2.2.1))).trans (hHeld.2.2.2.2.1)
               have HS5_ := (hb.cell (World.block_lt_of_cell? _ _ (hHeld.2.2.2.2.2.1))).trans (hHeld.2.2.2.2.2.1)
               have HS6_ := (hb.cell (World.block_lt_of_cell? _ _ (hHeld.2.2.2.2.2.2.1))).trans (hHeld.2.2.2.2.2.2.1)
               have HS7_ := (hb.cell (World.block_lt_of_cell? _ _ (hHeld.2.2.2.2.2.2.2))).trans (hHeld.2.2.2.2.2.2.2)
               refine ⟨_, rfl, ?_⟩
               replace HO558 := Aside0.mk (Kd.R_below (zR HO558) hb)
               replace HO567 := Aside0.mk (Kd.R_below (zR HO567) hb)
               replace HO570 := Aside0.mk (Kd.R_below (zR HO570) hb)
               replace HO573 := Aside0.mk (Kd.R_below (zR HO573) hb)
               replace HO582 := Aside0.mk (Kd.R_below (zR HO582) hb)
               replace HB := Aside0.mk (below_step (zB HB) hb)
               (try clear hb)
               obtain ⟨Ao67, co67, eo67⟩ := Kd.R_slice HO570.out
               (first | subst eo67 | (injection eo67 with f1_ f2_ f3_; have f4_ := f1_.symm; have f5_ := f3_.symm; clear f1_ f2_ f3_; subst f4_; subst f5_))
               refine hK.out _ _ ⟨HS0_, HS1_, HS2_, HS3_, HS4_, HS5_, HS6_, HS7_⟩ (fun hHeld => ?_)
               clear hK K
               refine zn 24 ?_; refine zp 10 25 HT_ ?_; refine zp 11 26 HT_ ?_; refine zp 12 27 HT_ ?_; refine zp 13 28 HT_ ?_; refine zp 14 29 HT_ ?_; refine zp 15 30 HT_ ?_; refine zp 16 31 HT_ ?_; refine zp 17 32 HT_ ?_; refine zp 18 33 HT_ ?_; refine zp 19 34 HT_ ?_; refine zt 20 35 HT_ HW_ hHeld ?_; refine zo 21 36 HT_ (fun K hK => ?_)
               refine zg Try.func70 #[.int .u64 1] ?_
               with_reducible refine (intrusionlaw07_ip.calls 1 t586 t587 t588 _ A39.out).mono ?_
               rintro e w68 ⟨rfl, hb⟩
               have HS0_ := (hb.cell (World.block_lt_of_cell? _ _ (hHeld.1))).trans (hHeld.1)
               have HS1_ := (hb.cell (World.block_lt_of_cell? _ _ (hHeld.2.1))).trans (hHeld.2.1)
               have HS2_ := (hb.cell (World.block_lt_of_cell? _ _ (hHeld.2.2.1))).trans (hHeld.2.2.1)
               have HS3_ := (hb.cell (World.block_lt_of_cell? _ _ (hHeld.2.2.2.1))).trans (hHeld.2.2.2.1)
               have HS4_ := (hb.cell (World.block_lt_of_cell? _ _ (hHeld.2.2.2.2.1))).trans (hHeld.2.2.2.2.1)
               have HS5_ := (hb.cell (World.block_lt_of_cell? _ _ (hHeld.2.2.2.2.2.1))).trans (hHeld.2.2.2.2.2.1)
               have HS6_ := (hb.cell (World.block_lt_of_cell? _ _ (hHeld.2.2.2.2.2.2.1))).trans (hHeld.2.2.2.2.2.2.1)
               have HS7_ := (hb.cell (World.block_lt_of_cell? _ _ (hHeld.2.2.2.2.2.2.2))).trans (hHeld.2.2.2.2.2.2.2)
               refine ⟨_, rfl, ?_⟩
               replace HO558 := Aside0.mk (Kd.R_below (zR HO558) hb)
               replace HO567 := Aside0.mk (Kd.R_below (zR HO567) hb)
               replace HO570 := Aside0.mk (Kd.R_below (zR HO570) hb)
               replace HO573 := Aside0.mk (Kd.R_below (zR HO573) hb)
               replace HO582 := Aside0.mk (Kd.R_below (zR HO582) hb)
               replace HB := Aside0.mk (below_step (zB HB) hb)
               (try clear hb)
               refine hK.out _ _ ⟨HS0_, HS1_, HS2_, HS3_, HS4_, HS5_, HS6_, HS7_⟩ (fun hHeld => ?_)
               clear hK K
               refine zn 36 ?_; refine zp 22 37 HT_ ?_; refine zp 23 38 HT_ ?_; refine zp 24 39 HT_ ?_; refine zp 25 40 HT_ ?_; refine zp 26 41 HT_ ?_; refine zp 27 42 HT_ ?_; refine zt 28 43 HT_ HW_ hHeld ?_; refine zo 29 44 HT_ (fun K hK => ?_)
               refine zg Try.func70 #[.int .u64 2] ?_
               with_reducible refine (intrusionlaw07_ip.calls 2 t590 t591 t592 _ A42.out).mono ?_
               rintro e w69 ⟨rfl, hb⟩
               have HS0_ := (hb.cell (World.block_lt_of_cell? _ _ (hHeld.1))).trans (hHeld.1)
               have HS1_ := (hb.cell (World.block_lt_of_cell? _ _ (hHeld.2.1))).trans (hHeld.2.1)
               have HS2_ := (hb.cell (World.block_lt_of_cell? _ _ (hHeld.2.2.1))).trans (hHeld.2.2.1)
               have HS3_ := (hb.cell (World.block_lt_of_cell? _ _ (hHeld.2.2.2.1))).trans (hHeld.2.2.2.1)
               have HS4_ := (hb.cell (World.block_lt_of_cell? _ _ (hHeld.2.2.2.2.1))).trans (hHeld.2.2.2.2.1)
               have HS5_ := (hb.cell (World.block_lt_of_cell? _ _ (hHeld.2.2.2.2.2.1))).trans (hHeld.2.2.2.2.2.1)
               have HS6_ := (hb.cell (World.block_lt_of_cell? _ _ (hHeld.2.2.2.2.2.2.1))).trans (hHeld.2.2.2.2.2.2.1)
               have HS7_ := (hb.cell (World.block_lt_of_cell? _ _ (hHeld.2.2.2.2.2.2.2))).trans (hHeld.2.2.2.2.2.2.2)
               refine ⟨_, rfl, ?_⟩
               replace HO558 := Aside0.mk (Kd.R_below (zR HO558) hb)
               replace HO567 := Aside0.mk (Kd.R_below (zR HO567) hb)
               replace HO570 := Aside0.mk (Kd.R_below (zR HO570) hb)
               replace HO573 := Aside0.mk (Kd.R_below (zR HO573) hb)
               replace HO582 := Aside0.mk (Kd.R_below (zR HO582) hb)
               replace HB := Aside0.mk (below_step (zB HB) hb)
               (try clear hb)
               refine hK.out _ _ ⟨HS0_, HS1_, HS2_, HS3_, HS4_, HS5_, HS6_, HS7_⟩ (fun hHeld => ?_)
               clear hK K
               refine zn 44 ?_; refine zp 30 45 HT_ ?_; refine zp 31 46 HT_ ?_; refine zp 32 47 HT_ ?_; refine zp 33 48 HT_ ?_; refine zo 34 49 HT_ (fun K hK => ?_)
               refine zg Try.func44 #[] ?_
               with_reducible refine (addrset_All.calls  t593 _ A44.out).mono ?_
               rintro e w70 ⟨v594, rfl, ho0, hb⟩
               have HS0_ := (hb.cell (World.block_lt_of_cell? _ _ (hHeld.1))).trans (hHeld.1)
               have HS1_ := (hb.cell (World.block_lt_of_cell? _ _ (hHeld.2.1))).trans (hHeld.2.1)
               have HS2_ := (hb.cell (World.block_lt_of_cell? _ _ (hHeld.2.2.1))).trans (hHeld.2.2.1)
               have HS3_ := (hb.cell (World.block_lt_of_cell? _ _ (hHeld.2.2.2.1))).trans (hHeld.2.2.2.1)
               have HS4_ := (hb.cell (World.block_lt_of_cell? _ _ (hHeld.2.2.2.2.1))).trans (hHeld.2.2.2.2.1)
               have HS5_ := (hb.cell (World.block_lt_of_cell? _ _ (hHeld.2.2.2.2.2.1))).trans (hHeld.2.2.2.2.2.1)
               have HS6_ := (hb.cell (World.block_lt_of_cell? _ _ (hHeld.2.2.2.2.2.2.1))).trans (hHeld.2.2.2.2.2.2.1)
               have HS7_ := (hb.cell (World.block_lt_of_cell? _ _ (hHeld.2.2.2.2.2.2.2))).trans (hHeld.2.2.2.2.2.2.2)
               refine ⟨_, rfl, ?_⟩
               replace HO570 := Aside0.mk (Kd.R_below (zR HO570) hb)
               have HO595 := Aside0.mk (Kd.R_lower (Kd.R_new' (Kd.R_new' (Kd.R_new' (Kd.R_new' ho0 (Kd.R_lt (zR HO558))) (Kd.R_lt (zR HO567))) (Kd.R_lt (zR HO573))) (Kd.R_lt (zR HO582))) (below_size (zB HB)))
               replace HO558 := Aside0.mk (Kd.R_elder' (zR HO558) (Kd.R_base ho0) hb)
               replace HO567 := Aside0.mk (Kd.R_elder' (zR HO567) (Kd.R_base ho0) hb)
               replace HO573 := Aside0.mk (Kd.R_elder' (zR HO573) (Kd.R_base ho0) hb)
               replace HO582 := Aside0.mk (Kd.R_elder' (zR HO582) (Kd.R_base ho0) hb)
               replace HB := Aside0.mk (below_step (zB HB) hb)
               (try clear hb)
               (try clear ho0)
               obtain ⟨Ao71, co71, eo71⟩ := Kd.R_slice HO595.out
               (first | subst eo71 | (injection eo71 with f1_ f2_ f3_; have f4_ := f1_.symm; have f5_ := f3_.symm; clear f1_ f2_ f3_; subst f4_; subst f5_))
               refine hK.out _ _ ⟨HS0_, HS1_, HS2_, HS3_, HS4_, HS5_, HS6_, HS7_⟩ (fun hHeld => ?_)
               clear hK K
               refine zn 49 ?_; refine zp 35 50 HT_ ?_; refine zp 36 51 HT_ ?_; refine zp 37 52 HT_ ?_; refine zp 38 0 HT_ ?_; refine zd HT_ ?_
               try go_wp2
               go_ret
               exact ⟨by first | rfl | (simp [errW_none, errW_some] <;> rfl) | (simp [*, errW_none, errW_some] <;> rfl), by repeat (first | (with_reducible first | exact HB.out | apply below_alloc | apply pw_below_drewN | apply below_drew1) | exact HB.out)⟩
             · rw [if_neg c43] at H
               have c43b0 : ((((rd_T45 t568 1).f0.f0) == t590 && (((rd_T45 t568 1).f0.f1) == t591 && (((rd_T45 t568 1).f0.f2) == t592))) && (((rd_T45 t568 1).f1) == 31)) = false := by simpa using c43
               clear c43
               obtain rfl := Option.some.inj H
               go_enter Try.func36, Try.ntmps36
               try go_wp2_with (first | ((with_reducible refine gate_callee (f := 70) rfl ?_); refine goesL_ (some 3) rfl rfl Try.func70 (by kernel_rfl) rfl #[.int .u64 2] rfl (by (try simp only [List.map_toArray, List.map_cons, List.map_nil]); first | done | rfl | (simp only [List.length_drop, List.length_take]; rfl)) ?_; (with_reducible refine (intrusionlaw07_ip.calls 2 t544 t545 t546 _ A1.out).mono ?_); rintro e w72 ⟨rfl, hb⟩; refine ⟨_, rfl, ?_⟩; replace HB := Aside0.mk (below_step (zB HB) hb); (try clear hb)) | ((with_reducible refine gate_callee (f := 70) rfl ?_); refine goesL_ (some 4) rfl rfl Try.func70 (by kernel_rfl) rfl #[.int .u64 3] rfl (by (try simp only [List.map_toArray, List.map_cons, List.map_nil]); first | done | rfl | (simp only [List.length_drop, List.length_take]; rfl)) ?_; (with_reducible refine (intrusionlaw07_ip.calls 3 t547 t548 t549 _ A2.out).mono ?_); rintro e w73 ⟨rfl, hb⟩; refine ⟨_, rfl, ?_⟩; replace HB := Aside0.mk (below_step (zB HB) hb); (try clear hb)) | ((with_reducible refine gate_callee (f := 70) rfl ?_); refine goesL_ (some 6) rfl rfl Try.func70 (by kernel_rfl) rfl #[.int .u64 1] rfl (by (try simp only [List.map_toArray, List.map_cons, List.map_nil]); first | done | rfl | (simp only [List.length_drop, List.length_take]; rfl)) ?_; (with_reducible refine (intrusionlaw07_ip.calls 1 t550 t551 t552 _ A3.out).mono ?_); rintro e w74 ⟨rfl, hb⟩; refine ⟨_, rfl, ?_⟩; replace HB := Aside0.mk (below_step (zB HB) hb); (try clear hb)) | ((with_reducible refine gate_callee (f := 70) rfl ?_); refine goesL_ (some 7) rfl rfl Try.func70 (by kernel_rfl) rfl #[.int .u64 1] rfl (by (try simp only [List.map_toArray, List.map_cons, List.map_nil]); first | done | rfl | (simp only [List.length_drop, List.length_take]; rfl)) ?_; (with_reducible refine (intrusionlaw07_ip.calls 1 t553 t554 t555 _ A4.out).mono ?_); rintro e w75 ⟨rfl, hb⟩; refine ⟨_, rfl, ?_⟩; replace HB := Aside0.mk (below_step (zB HB) hb); (try clear hb)) | ((with_reducible refine gate_dst (N := 9) rfl ?_); (try (refine gate_guard (by rfl) ?_; dsimp only)); refine Kd.R_lit k66 _ 66 ?hg (N := 9) ?hd (xs := ([(⟨(⟨t544, t545, t546⟩ : S36), (⟨t547, t548, t549⟩ : S36)⟩ : S66), (⟨(⟨t550, t551, t552⟩ : S36), (⟨t553, t554, t555⟩ : S36)⟩ : S66)] : List (S66))) (inner := [.bool t544, .int .u64 t545, .int .u64 t546, .bool t547, .int .u64 t548, .int .u64 t549, .bool t550, .int .u64 t551, .int .u64 t552, .bool t553, .int .u64 t554, .int .u64 t555]) (ok := fun _ => True) (okp := fun _ => True) ?hr ?hp (fun _ hk => hk) trivial (Below.refl _ _) (Nat.le_refl _) (by simp) ?_; (case hd => rfl); (case hg => rfl); (case hr => first | (go_simp; done) | (go_simp; rfl)); (case hp => exact (Reps.c6 (show Kd.M k66 _ _ _ (⟨(⟨t544, t545, t546⟩ : S36), (⟨t547, t548, t549⟩ : S36)⟩ : S66) [.bool t544, .int .u64 t545, .int .u64 t546, .bool t547, .int .u64 t548, .int .u64 t549] from (k66_mkM _ _ _ (⟨(⟨t544, t545, t546⟩ : S36), (⟨t547, t548, t549⟩ : S36)⟩ : S66) )) (Reps.c6 (show Kd.M k66 _ _ _ (⟨(⟨t550, t551, t552⟩ : S36), (⟨t553, t554, t555⟩ : S36)⟩ : S66) [.bool t550, .int .u64 t551, .int .u64 t552, .bool t553, .int .u64 t554, .int .u64 t555] from (k66_mkM _ _ _ (⟨(⟨t550, t551, t552⟩ : S36), (⟨t553, t554, t555⟩ : S36)⟩ : S66) )) (Reps.none _ _)))); intro v557 w76 ho77 hb hg_ hnew_; clear hg_ hnew_; (first | rw [← Ny556.out] at ho77 | (simp only [Int.reduceToNat] at ho77; rw [← Ny556.out] at ho77)); have HO558 := Aside0.mk (Kd.R_lower ho77 (below_size (zB HB))); replace HB := Aside0.mk (below_step (zB HB) hb); clear hb ho77) | ((with_reducible refine gate_callee (f := 70) rfl ?_); refine goesL_ (some 10) rfl rfl Try.func70 (by kernel_rfl) rfl #[.int .u64 1] rfl (by (try simp only [List.map_toArray, List.map_cons, List.map_nil]); first | done | rfl | (simp only [List.length_drop, List.length_take]; rfl)) ?_; (with_reducible refine (intrusionlaw07_ip.calls 1 t559 t560 t561 _ A5.out).mono ?_); rintro e w78 ⟨rfl, hb⟩; refine ⟨_, rfl, ?_⟩; replace HO558 := Aside0.mk (Kd.R_below (zR HO558) hb); replace HB := Aside0.mk (below_step (zB HB) hb); (try clear hb)) | ((with_reducible refine gate_callee (f := 70) rfl ?_); refine goesL_ (some 11) rfl rfl Try.func70 (by kernel_rfl) rfl #[.int .u64 4] rfl (by (try simp only [List.map_toArray, List.map_cons, List.map_nil]); first | done | rfl | (simp only [List.length_drop, List.length_take]; rfl)) ?_; (with_reducible refine (intrusionlaw07_ip.calls 4 t562 t563 t564 _ A6.out).mono ?_); rintro e w79 ⟨rfl, hb⟩; refine ⟨_, rfl, ?_⟩; replace HO558 := Aside0.mk (Kd.R_below (zR HO558) hb); replace HB := Aside0.mk (below_step (zB HB) hb); (try clear hb)) | ((with_reducible refine gate_dst (N := 13) rfl ?_); (try (refine gate_guard (by rfl) ?_; dsimp only)); refine Kd.R_lit k66 _ 66 ?hg (N := 13) ?hd (xs := ([(⟨(⟨t559, t560, t561⟩ : S36), (⟨t562, t563, t564⟩ : S36)⟩ : S66)] : List (S66))) (inner := [.bool t559, .int .u64 t560, .int .u64 t561, .bool t562, .int .u64 t563, .int .u64 t564]) (ok := fun _ => True) (okp := fun _ => True) ?hr ?hp (fun _ hk => hk) trivial (Below.refl _ _) (Nat.le_refl _) (by simp) ?_; (case hd => rfl); (case hg => rfl); (case hr => first | (go_simp; done) | (go_simp; rfl)); (case hp => exact (Reps.c6 (show Kd.M k66 _ _ _ (⟨(⟨t559, t560, t561⟩ : S36), (⟨t562, t563, t564⟩ : S36)⟩ : S66) [.bool t559, .int .u64 t560, .int .u64 t561, .bool t562, .int .u64 t563, .int .u64 t564] from (k66_mkM _ _ _ (⟨(⟨t559, t560, t561⟩ : S36), (⟨t562, t563, t564⟩ : S36)⟩ : S66) )) (Reps.none _ _))); intro v566 w80 ho81 hb hg_ hnew_; clear hg_ hnew_; (first | rw [← Ny565.out] at ho81 | (simp only [Int.reduceToNat] at ho81; rw [← Ny565.out] at ho81)); have HO567 := Aside0.mk (Kd.R_lower (Kd.R_new' ho81 (Kd.R_lt (zR HO558))) (below_size (zB HB))); replace HO558 := Aside0.mk (Kd.R_elder' (zR HO558) (Kd.R_base ho81) hb); replace HB := Aside0.mk (below_step (zB HB) hb); clear hb ho81; obtain ⟨Ao82, co82, eo82⟩ := Kd.R_slice HO567.out; subst eo82) | ((with_reducible refine gate_callee (f := 46) rfl ?_); refine goesL_ (some 14) rfl rfl Try.func46 (by kernel_rfl) rfl #[.slice Ao82 y565.length co82] rfl (by (try simp only [List.map_toArray, List.map_cons, List.map_nil]); first | done | rfl | (simp only [List.length_drop, List.length_take]; rfl)) ?_; (with_reducible refine (addrset_Prefixes.calls k _ _ y565 t568 _ ?side1 ?side2 A7.out).mono ?_); (case side1 => repeat (first | exact (Kd.R_reads' HO567.out).2.2 | (with_reducible refine Kd.C_alloc ?_ _) | (with_reducible refine Kd.C_drewN ?_ _) | (with_reducible refine Kd.C_drew ?_))); (case side2 => exact (Kd.R_reads' HO567.out).2.1); rintro e w83 ⟨v569, rfl, ho0, hb⟩; refine ⟨_, rfl, ?_⟩; replace HO558 := Aside0.mk (Kd.R_below (zR HO558) hb); replace HO567 := Aside0.mk (Kd.R_below (zR HO567) hb); have HO570 := Aside0.mk (Kd.R_lower ho0 (below_size (zB HB))); replace HB := Aside0.mk (below_step (zB HB) hb); (try clear hb); (try clear ho0)))
               replace HO558 := Aside0.mk (Kd.R_drew HO558.out)
               replace HO567 := Aside0.mk (Kd.R_drew HO567.out)
               replace HO570 := Aside0.mk (Kd.R_drew HO570.out)
               replace HB := Aside0.mk (below_drew1 HB.out)
               obtain ⟨Ao85, co85, eo85⟩ := Kd.R_slice HO558.out
               (first | subst eo85 | (injection eo85 with f1_ f2_ f3_; have f4_ := f1_.symm; have f5_ := f3_.symm; clear f1_ f2_ f3_; subst f4_; subst f5_))
               have p585 : 0 ≤ (0 : Int) := (by omega)
               have q585 : 0 < (t568.length : Int) := za
               (try (obtain ⟨Ax_, cx_, ex_⟩ := Kd.R_slice HO570.out; subst ex_))
               obtain ⟨ad585, e585, hx585_0, hx585_1, hx585_2, hx585_3⟩ := at_T45 (Kd.R_reads' HO570.out).2.2 0 p585 q585
               cases e585
               have qi585 : (0 < t568.length) = True := eq_true (by omega)
               (try rw [show ((0 : Int)).toNat = 0 from rfl] at hx585_0)
               (try rw [show 0 * 4 = 0 from rfl] at hx585_0)
               (try rw [Addr.add_zero'] at hx585_0)
               (try rw [show ((0 : Int)).toNat = 0 from rfl] at hx585_1)
               (try rw [show 0 * 4 = 0 from rfl] at hx585_1)
               (try rw [Addr.add_zero'] at hx585_1)
               (try rw [show ((0 : Int)).toNat = 0 from rfl] at hx585_2)
               (try rw [show 0 * 4 = 0 from rfl] at hx585_2)
               (try rw [Addr.add_zero'] at hx585_2)
               (try rw [show ((0 : Int)).toNat = 0 from rfl] at hx585_3)
               (try rw [show 0 * 4 = 0 from rfl] at hx585_3)
               (try rw [Addr.add_zero'] at hx585_3)
               replace p585 := eq_true p585
               replace q585 := eq_true q585
               have p589 : 0 ≤ (1 : Int) := (by omega)
               have q589 : 1 < (t568.length : Int) := za
               obtain ⟨ad589, e589, hx589_0, hx589_1, hx589_2, hx589_3⟩ := at_T45 (Kd.R_reads' HO570.out).2.2 1 p589 q589
               obtain rfl : ad585 = ad589 := (by injection e589)
               (try simp only [show (1 : Int).toNat = 1 from rfl, Nat.reduceMul, Nat.reduceEqDiff, Go.Addr.add, ↓reduceIte] at hx589_0)
               (try simp only [show (1 : Int).toNat = 1 from rfl, Nat.reduceMul, Nat.reduceEqDiff, Go.Addr.add, ↓reduceIte] at hx589_1)
               (try simp only [show (1 : Int).toNat = 1 from rfl, Nat.reduceMul, Nat.reduceEqDiff, Go.Addr.add, ↓reduceIte] at hx589_2)
               (try simp only [show (1 : Int).toNat = 1 from rfl, Nat.reduceMul, Nat.reduceEqDiff, Go.Addr.add, ↓reduceIte] at hx589_3)
               have qi589 : (1 < t568.length) = True := eq_true (by omega)
               (try rw [show ((1 : Int)).toNat = 1 from rfl] at hx589_0)
               (try rw [show 1 * 4 = 4 from rfl] at hx589_0)
               (try rw [show ((1 : Int)).toNat = 1 from rfl] at hx589_1)
               (try rw [show 1 * 4 = 4 from rfl] at hx589_1)
               (try rw [show ((1 : Int)).toNat = 1 from rfl] at hx589_2)
               (try rw [show 1 * 4 = 4 from rfl] at hx589_2)
               (try rw [show ((1 : Int)).toNat = 1 from rfl] at hx589_3)
               (try rw [show 1 * 4 = 4 from rfl] at hx589_3)
               replace p589 := eq_true p589
               replace q589 := eq_true q589
               refine start_ (n := 39) (S := fun w' => w'.cell? ad585 = some (.bool ((rd_T45 t568 0).f0.f0)) ∧ w'.cell? ⟨ad585.block, ad585.off + 1, none⟩ = some (.int .u64 ((rd_T45 t568 0).f0.f1)) ∧ w'.cell? ⟨ad585.block, ad585.off + 2, none⟩ = some (.int .u64 ((rd_T45 t568 0).f0.f2)) ∧ w'.cell? ⟨ad585.block, ad585.off + 3, none⟩ = some (.int .i64 ((rd_T45 t568 0).f1)) ∧ w'.cell? ⟨ad585.block, ad585.off + 4, none⟩ = some (.bool ((rd_T45 t568 1).f0.f0)) ∧ w'.cell? ⟨ad585.block, ad585.off + 4 + 1, none⟩ = some (.int .u64 ((rd_T45 t568 1).f0.f1)) ∧ w'.cell? ⟨ad585.block, ad585.off + 4 + 2, none⟩ = some (.int .u64 ((rd_T45 t568 1).f0.f2)) ∧ w'.cell? ⟨ad585.block, ad585.off + 4 + 3, none⟩ = some (.int .i64 ((rd_T45 t568 1).f1))) (ds := []) #[false, false, false, false, false, false, false, false, false, false, false, false, false, false, false, false, false, false, false, false, false, false, false, false, false, false, false, false, false, false, false, false, false, false, false, false, false, false, false] (by kernel_rfl) rfl rfl ⟨hx585_0, hx585_1, hx585_2, hx585_3, hx589_0, hx589_1, hx589_2, hx589_3⟩ (fun hHeld => ?_); refine with_tabW intrusionlaw07_awake.tab3 intrusionlaw07_awake.bits3 (fun HT_ HW_ => ?_)
               generalize w83.drew = w84 at HO558 HO567 HO570 HB hx585_0 hx585_1 hx585_2 hx585_3 hx589_0 hx589_1 hx589_2 hx589_3 hHeld ⊢
               refine zp 0 15 HT_ ?_; refine zo 1 16 HT_ (fun K hK => ?_)
               refine zg Try.func38 #[.slice Ao85 y556.length co85] ?_
               with_reducible refine (addrset_Normal.calls k _ _ y556 t571 _ ?side1 ?side2 A8.out).mono ?_
               (case side1 => repeat (first | exact (Kd.R_reads' HO558.out).2.2 | (with_reducible refine Kd.C_alloc ?_ _) | (with_reducible refine Kd.C_drewN ?_ _) | (with_reducible refine Kd.C_drew ?_)))
               (case side2 => exact (Kd.R_reads' HO558.out).2.1)
               rintro e w86 ⟨v572, rfl, ho0, hb⟩
               have HS0_ := (hb.cell (World.block_lt_of_cell? _ _ (hHeld.1))).trans (hHeld.1)
               have HS1_ := (hb.cell (World.block_lt_of_cell? _ _ (hHeld.2.1))).trans (hHeld.2.1)
               have HS2_ := (hb.cell (World.block_lt_of_cell? _ _ (hHeld.2.2.1))).trans (hHeld.2.2.1)
               have HS3_ := (hb.cell (World.block_lt_of_cell? _ _ (hHeld.2.2.2.1))).trans (hHeld.2.2.2.1)
               have HS4_ := (hb.cell (World.block_lt_of_cell? _ _ (hHeld.2.2.2.2.1))).trans (hHeld.2.2.2.2.1)
               have HS5_ := (hb.cell (World.block_lt_of_cell? _ _ (hHeld.2.2.2.2.2.1))).trans (hHeld.2.2.2.2.2.1)
               have HS6_ := (hb.cell (World.block_lt_of_cell? _ _ (hHeld.2.2.2.2.2.2.1))).trans (hHeld.2.2.2.2.2.2.1)
               have HS7_ := (hb.cell (World.block_lt_of_cell? _ _ (hHeld.2.2.2.2.2.2.2))).trans (hHeld.2.2.2.2.2.2.2)
               refine ⟨_, rfl, ?_⟩
               replace HO570 := Aside0.mk (Kd.R_below (zR HO570) hb)
               have HO573 := Aside0.mk (Kd.R_lower (Kd.R_new' (Kd.R_new' ho0 (Kd.R_lt (zR HO558))) (Kd.R_lt (zR HO567))) (below_size (zB HB)))
               replace HO558 := Aside0.mk (Kd.R_elder' (zR HO558) (Kd.R_base ho0) hb)
               replace HO567 := Aside0.mk (Kd.R_elder' (zR HO567) (Kd.R_base ho0) hb)
               replace HB := Aside0.mk (below_step (zB HB) hb)
               (try clear hb)
               (try clear ho0)
               refine hK.out _ _ ⟨HS0_, HS1_, HS2_, HS3_, HS4_, HS5_, HS6_, HS7_⟩ (fun hHeld => ?_)
               clear hK K
               refine zn 16 ?_; refine zo 2 17 HT_ (fun K hK => ?_)
               refine zg Try.func70 #[.int .u64 1] ?_
               with_reducible refine (intrusionlaw07_ip.calls 1 t574 t575 t576 _ A9.out).mono ?_
               rintro e w87 ⟨rfl, hb⟩
               have HS0_ := (hb.cell (World.block_lt_of_cell? _ _ (hHeld.1))).trans (hHeld.1)
               have HS1_ := (hb.cell (World.block_lt_of_cell? _ _ (hHeld.2.1))).trans (hHeld.2.1)
               have HS2_ := (hb.cell (World.block_lt_of_cell? _ _ (hHeld.2.2.1))).trans (hHeld.2.2.1)
               have HS3_ := (hb.cell (World.block_lt_of_cell? _ _ (hHeld.2.2.2.1))).trans (hHeld.2.2.2.1)
               have HS4_ := (hb.cell (World.block_lt_of_cell? _ _ (hHeld.2.2.2.2.1))).trans (hHeld.2.2.2.2.1)
               have HS5_ := (hb.cell (World.block_lt_of_cell? _ _ (hHeld.2.2.2.2.2.1))).trans (hHeld.2.2.2.2.2.1)
               have HS6_ := (hb.cell (World.block_lt_of_cell? _ _ (hHeld.2.2.2.2.2.2.1))).trans (hHeld.2.2.2.2.2.2.1)
               have HS7_ := (hb.cell (World.block_lt_of_cell? _ _ (hHeld.2.2.2.2.2.2.2))).trans (hHeld.2.2.2.2.2.2.2)
               refine ⟨_, rfl, ?_⟩
               replace HO558 := Aside0.mk (Kd.R_below (zR HO558) hb)
               replace HO567 := Aside0.mk (Kd.R_below (zR HO567) hb)
               replace HO570 := Aside0.mk (Kd.R_below (zR HO570) hb)
               replace HO573 := Aside0.mk (Kd.R_below (zR HO573) hb)
               replace HB := Aside0.mk (below_step (zB HB) hb)
               (try clear hb)
               refine hK.out _ _ ⟨HS0_, HS1_, HS2_, HS3_, HS4_, HS5_, HS6_, HS7_⟩ (fun hHeld => ?_)
               clear hK K
               refine zn 17 ?_; refine zo 3 18 HT_ (fun K hK => ?_)
               refine zg Try.func70 #[.int .u64 3] ?_
               with_reducible refine (intrusionlaw07_ip.calls 3 t577 t578 t579 _ A10.out).mono ?_
               rintro e w88 ⟨rfl, hb⟩
               have HS0_ := (hb.cell (World.block_lt_of_cell? _ _ (hHeld.1))).trans (hHeld.1)
               have HS1_ := (hb.cell (World.block_lt_of_cell? _ _ (hHeld.2.1))).trans (hHeld.2.1)
               have HS2_ := (hb.cell (World.block_lt_of_cell? _ _ (hHeld.2.2.1))).trans (hHeld.2.2.1)
               have HS3_ := (hb.cell (World.block_lt_of_cell? _ _ (hHeld.2.2.2.1))).trans (hHeld.2.2.2.1)
               have HS4_ := (hb.cell (World.block_lt_of_cell? _ _ (hHeld.2.2.2.2.1))).trans (hHeld.2.2.2.2.1)
               have HS5_ := (hb.cell (World.block_lt_of_cell? _ _ (hHeld.2.2.2.2.2.1))).trans (hHeld.2.2.2.2.2.1)
               have HS6_ := (hb.cell (World.block_lt_of_cell? _ _ (hHeld.2.2.2.2.2.2.1))).trans (hHeld.2.2.2.2.2.2.1)
               have HS7_ := (hb.cell (World.block_lt_of_cell? _ _ (hHeld.2.2.2.2.2.2.2))).trans (hHeld.2.2.2.2.2.2.2)
               refine ⟨_, rfl, ?_⟩
               replace HO558 := Aside0.mk (Kd.R_below (zR HO558) hb)
               replace HO567 := Aside0.mk (Kd.R_below (zR HO567) hb)
               replace HO570 := Aside0.mk (Kd.R_below (zR HO570) hb)
               replace HO573 := Aside0.mk (Kd.R_below (zR HO573) hb)
               replace HB := Aside0.mk (below_step (zB HB) hb)
               (try clear hb)
               refine hK.out _ _ ⟨HS0_, HS1_, HS2_, HS3_, HS4_, HS5_, HS6_, HS7_⟩ (fun hHeld => ?_)
               clear hK K
               refine zn 18 ?_; refine zp 4 19 HT_ ?_; refine zo 5 20 HT_ (fun K hK => ?_)
               refine Kd.R_lit_step k66 _ 66 ?hg (N := 20) ?hd (xs := ([(⟨(⟨t574, t575, t576⟩ : S36), (⟨t577, t578, t579⟩ : S36)⟩ : S66)] : List (S66))) (inner := [.bool t574, .int .u64 t575, .int .u64 t576, .bool t577, .int .u64 t578, .int .u64 t579]) (ok := fun _ => True) (okp := fun _ => True) ?hr ?hp (fun _ hk => hk) trivial (Below.refl _ _) (Nat.le_refl _) (by simp) ?_; (case hd => rfl); (case hg => rfl); (case hr => first | (go_simp; done) | (go_simp; rfl)); (case hp => exact (Reps.c6 (show Kd.M k66 _ _ _ (⟨(⟨t574, t575, t576⟩ : S36), (⟨t577, t578, t579⟩ : S36)⟩ : S66) [.bool t574, .int .u64 t575, .int .u64 t576, .bool t577, .int .u64 t578, .int .u64 t579] from (k66_mkM _ _ _ (⟨(⟨t574, t575, t576⟩ : S36), (⟨t577, t578, t579⟩ : S36)⟩ : S66) )) (Reps.none _ _)))
               intro v581 w89 ho90 hb hg_ hnew_
               have HS0_ := (hb.cell (World.block_lt_of_cell? _ _ (hHeld.1))).trans (hHeld.1)
               have HS1_ := (hb.cell (World.block_lt_of_cell? _ _ (hHeld.2.1))).trans (hHeld.2.1)
               have HS2_ := (hb.cell (World.block_lt_of_cell? _ _ (hHeld.2.2.1))).trans (hHeld.2.2.1)
               have HS3_ := (hb.cell (World.block_lt_of_cell? _ _ (hHeld.2.2.2.1))).trans (hHeld.2.2.2.1)
               have HS4_ := (hb.cell (World.block_lt_of_cell? _ _ (hHeld.2.2.2.2.1))).trans (hHeld.2.2.2.2.1)
               have HS5_ := (hb.cell (World.block_lt_of_cell? _ _ (hHeld.2.2.2.2.2.1))).trans (hHeld.2.2.2.2.2.1)
               have HS6_ := (hb.cell (World.block_lt_of_cell? _ _ (hHeld.2.2.2.2.2.2.1))).trans (hHeld.2.2.2.2.2.2.1)
               have HS7_ := (hb.cell (World.block_lt_of_cell? _ _ (hHeld.2.2.2.2.2.2.2))).trans (hHeld.2.2.2.2.2.2.2)
               clear hg_ hnew_
               (first | rw [← Ny580.out] at ho90 | (simp only [Int.reduceToNat] at ho90; rw [← Ny580.out] at ho90))
               replace HO570 := Aside0.mk (Kd.R_below (zR HO570) hb)
               have HO582 := Aside0.mk (Kd.R_lower (Kd.R_new' (Kd.R_new' (Kd.R_new' ho90 (Kd.R_lt (zR HO558))) (Kd.R_lt (zR HO567))) (Kd.R_lt (zR HO573))) (below_size (zB HB)))
               replace HO558 := Aside0.mk (Kd.R_elder' (zR HO558) (Kd.R_base ho90) hb)
               replace HO567 := Aside0.mk (Kd.R_elder' (zR HO567) (Kd.R_base ho90) hb)
               replace HO573 := Aside0.mk (Kd.R_elder' (zR HO573) (Kd.R_base ho90) hb)
               replace HB := Aside0.mk (below_step (zB HB) hb)
               clear hb ho90
               obtain ⟨Ao91, co91, eo91⟩ := Kd.R_slice HO573.out
               (first | subst eo91 | (injection eo91 with f1_ f2_ f3_; have f4_ := f1_.symm; have f5_ := f3_.symm; clear f1_ f2_ f3_; subst f4_; subst f5_))
               obtain ⟨Ao92, co92, eo92⟩ := Kd.R_slice HO582.out
               (first | subst eo92 | (injection eo92 with f1_ f2_ f3_; have f4_ := f1_.symm; have f5_ := f3_.symm; clear f1_ f2_ f3_; subst f4_; subst f5_))
               refine hK.out _ _ ⟨HS0_, HS1_, HS2_, HS3_, HS4_, HS5_, HS6_, HS7_⟩ (fun hHeld => ?_)
               clear hK K
               refine zn 20 ?_; refine zo 6 21 HT_ (fun K hK => ?_)
               refine zg Try.func37 #[.slice Ao91 t571.length co91, .slice Ao92 y580.length co92] ?_
               with_reducible refine (intrusionref07_Same.calls k _ _ t571 _ _ y580 true _ ?side1 ?side2 ?side3 ?side4 A11.out).mono ?_
               (case side1 => repeat (first | exact (Kd.R_reads' HO573.out).2.2 | (with_reducible refine Kd.C_alloc ?_ _) | (with_reducible refine Kd.C_drewN ?_ _) | (with_reducible refine Kd.C_drew ?_)))
               (case side2 => exact (Kd.R_reads' HO573.out).2.1)
               (case side3 => repeat (first | exact (Kd.R_reads' HO582.out).2.2 | (with_reducible refine Kd.C_alloc ?_ _) | (with_reducible refine Kd.C_drewN ?_ _) | (with_reducible refine Kd.C_drew ?_)))
               (case side4 => exact (Kd.R_reads' HO582.out).2.1)
               rintro e w' ⟨rfl, ⟨nd, rfl⟩⟩
               refine ⟨_, rfl, ?_⟩
               refine hK.out _ _ ⟨hHeld.1, hHeld.2.1, hHeld.2.2.1, hHeld.2.2.2.1, hHeld.2.2.2.2.1, hHeld.2.2.2.2.2.1, hHeld.2.2.2.2.2.2.1, hHeld.2.2.2.2.2.2.2⟩ (fun hHeld => ?_)
               clear hK K
               refine zn 21 ?_; refine zp 7 22 HT_ ?_; refine zp 8 23 HT_ ?_; refine zo 9 24 HT_ (fun K hK => ?_)
               refine zg Try.func40 #[.slice Ao85 y556.length co85] ?_
               with_reducible refine (addrset_Valid.calls k _ _ y556 false _ ?side1 ?side2 A13.out).mono ?_
               (case side1 => repeat (first | exact (Kd.R_reads' HO558.out).2.2 | (with_reducible refine Kd.C_alloc ?_ _) | (with_reducible refine Kd.C_drewN ?_ _) | (with_reducible refine Kd.C_drew ?_)))
               (case side2 => exact (Kd.R_reads' HO558.out).2.1)
               rintro e w93 ⟨rfl, hb⟩
               have HS0_ := (hb.cell (World.block_lt_of_cell? _ _ (hHeld.1))).trans (hHeld.1)
               have HS1_ := (hb.cell (World.block_lt_of_cell? _ _ (hHeld.2.1))).trans (hHeld.2.1)
               have HS2_ := (hb.cell (World.block_lt_of_cell? _ _ (hHeld.2.2.1))).trans (hHeld.2.2.1)
               have HS3_ := (hb.cell (World.block_lt_of_cell? _ _ (hHeld.2.2.2.1))).trans (hHeld.2.2.2.1)
               have HS4_ := (hb.cell (World.block_lt_of_cell? _ _ (hHeld.2.2.2.2.1))).trans (hHeld.2.2.2.2.1)
               have HS5_ := (hb.cell (World.block_lt_of_cell? _ _ (hHeld.2.2.2.2.2.1))).trans (hHeld.2.2.2.2.2.1)
               have HS6_ := (hb.cell (World.block_lt_of_cell? _ _ (hHeld.2.2.2.2.2.2.1))).trans (hHeld.2.2.2.2.2.2.1)
               have HS7_ := (hb.cell (World.block_lt_of_cell? _ _ (hHeld.2.2.2.2.2.2.2))).trans (hHeld.2.2.2.2.2.2.2)
               refine ⟨_, rfl, ?_⟩
               replace HO558 := Aside0.mk (Kd.R_below (zR HO558) hb)
               replace HO567 := Aside0.mk (Kd.R_below (zR HO567) hb)
               replace HO570 := Aside0.mk (Kd.R_below (zR HO570) hb)
               replace HO573 := Aside0.mk (Kd.R_below (zR HO573) hb)
               replace HO582 := Aside0.mk (Kd.R_below (zR HO582) hb)
               replace HB := Aside0.mk (below_step (zB HB) hb)
               (try clear hb)
               obtain ⟨Ao94, co94, eo94⟩ := Kd.R_slice HO570.out
               (first | subst eo94 | (injection eo94 with f1_ f2_ f3_; have f4_ := f1_.symm; have f5_ := f3_.symm; clear f1_ f2_ f3_; subst f4_; subst f5_))
               refine hK.out _ _ ⟨HS0_, HS1_, HS2_, HS3_, HS4_, HS5_, HS6_, HS7_⟩ (fun hHeld => ?_)
               clear hK K
               refine zn 24 ?_; refine zp 10 25 HT_ ?_; refine zp 11 26 HT_ ?_; refine zp 12 27 HT_ ?_; refine zp 13 28 HT_ ?_; refine zp 14 29 HT_ ?_; refine zp 15 30 HT_ ?_; refine zp 16 31 HT_ ?_; refine zp 17 32 HT_ ?_; refine zp 18 33 HT_ ?_; refine zp 19 34 HT_ ?_; refine zt 20 35 HT_ HW_ hHeld ?_; refine zo 21 36 HT_ (fun K hK => ?_)
               refine zg Try.func70 #[.int .u64 1] ?_
               with_reducible refine (intrusionlaw07_ip.calls 1 t586 t587 t588 _ A39.out).mono ?_
               rintro e w95 ⟨rfl, hb⟩
               have HS0_ := (hb.cell (World.block_lt_of_cell? _ _ (hHeld.1))).trans (hHeld.1)
               have HS1_ := (hb.cell (World.block_lt_of_cell? _ _ (hHeld.2.1))).trans (hHeld.2.1)
               have HS2_ := (hb.cell (World.block_lt_of_cell? _ _ (hHeld.2.2.1))).trans (hHeld.2.2.1)
               have HS3_ := (hb.cell (World.block_lt_of_cell? _ _ (hHeld.2.2.2.1))).trans (hHeld.2.2.2.1)
               have HS4_ := (hb.cell (World.block_lt_of_cell? _ _ (hHeld.2.2.2.2.1))).trans (hHeld.2.2.2.2.1)
               have HS5_ := (hb.cell (World.block_lt_of_cell? _ _ (hHeld.2.2.2.2.2.1))).trans (hHeld.2.2.2.2.2.1)
               have HS6_ := (hb.cell (World.block_lt_of_cell? _ _ (hHeld.2.2.2.2.2.2.1))).trans (hHeld.2.2.2.2.2.2.1)
               have HS7_ := (hb.cell (World.block_lt_of_cell? _ _ (hHeld.2.2.2.2.2.2.2))).trans (hHeld.2.2.2.2.2.2.2)
               refine ⟨_, rfl, ?_⟩
               replace HO558 := Aside0.mk (Kd.R_below (zR HO558) hb)
               replace HO567 := Aside0.mk (Kd.R_below (zR HO567) hb)
               replace HO570 := Aside0.mk (Kd.R_below (zR HO570) hb)
               replace HO573 := Aside0.mk (Kd.R_below (zR HO573) hb)
               replace HO582 := Aside0.mk (Kd.R_below (zR HO582) hb)
               replace HB := Aside0.mk (below_step (zB HB) hb)
               (try clear hb)
               refine hK.out _ _ ⟨HS0_, HS1_, HS2_, HS3_, HS4_, HS5_, HS6_, HS7_⟩ (fun hHeld => ?_)
               clear hK K
               refine zn 36 ?_; refine zp 22 37 HT_ ?_; refine zp 23 38 HT_ ?_; refine zp 24 39 HT_ ?_; refine zp 25 40 HT_ ?_; refine zp 26 41 HT_ ?_; refine zp 27 42 HT_ ?_; refine zt 28 43 HT_ HW_ hHeld ?_; refine zo 29 44 HT_ (fun K hK => ?_)
               refine zg Try.func70 #[.int .u64 2] ?_
               with_reducible refine (intrusionlaw07_ip.calls 2 t590 t591 t592 _ A42.out).mono ?_
               rintro e w96 ⟨rfl, hb⟩
               have HS0_ := (hb.cell (World.block_lt_of_cell? _ _ (hHeld.1))).trans (hHeld.1)
               have HS1_ := (hb.cell (World.block_lt_of_cell? _ _ (hHeld.2.1))).trans (hHeld.2.1)
               have HS2_ := (hb.cell (World.block_lt_of_cell? _ _ (hHeld.2.2.1))).trans (hHeld.2.2.1)
               have HS3_ := (hb.cell (World.block_lt_of_cell? _ _ (hHeld.2.2.2.1))).trans (hHeld.2.2.2.1)
               have HS4_ := (hb.cell (World.block_lt_of_cell? _ _ (hHeld.2.2.2.2.1))).trans (hHeld.2.2.2.2.1)
               have HS5_ := (hb.cell (World.block_lt_of_cell? _ _ (hHeld.2.2.2.2.2.1))).trans (hHeld.2.2.2.2.2.1)
               have HS6_ := (hb.cell (World.block_lt_of_cell? _ _ (hHeld.2.2.2.2.2.2.1))).trans (hHeld.2.2.2.2.2.2.1)
               have HS7_ := (hb.cell (World.block_lt_of_cell? _ _ (hHeld.2.2.2.2.2.2.2))).trans (hHeld.2.2.2.2.2.2.2)
               refine ⟨_, rfl, ?_⟩
               replace HO558 := Aside0.mk (Kd.R_below (zR HO558) hb)
               replace HO567 := Aside0.mk (Kd.R_below (zR HO567) hb)
               replace HO570 := Aside0.mk (Kd.R_below (zR HO570) hb)
               replace HO573 := Aside0.mk (Kd.R_below (zR HO573) hb)
               replace HO582 := Aside0.mk (Kd.R_below (zR HO582) hb)
               replace HB := Aside0.mk (below_step (zB HB) hb)
               (try clear hb)
               refine hK.out _ _ ⟨HS0_, HS1_, HS2_, HS3_, HS4_, HS5_, HS6_, HS7_⟩ (fun hHeld => ?_)
               clear hK K
               refine zn 44 ?_; refine zp 30 45 HT_ ?_; refine zp 31 46 HT_ ?_; refine zp 32 47 HT_ ?_; refine zp 33 48 HT_ ?_; refine zu 34 49 HT_ ?_; refine zu 35 50 HT_ ?_; refine zu 36 51 HT_ ?_; refine zp 37 52 HT_ ?_; refine zp 38 0 HT_ ?_; refine zd HT_ ?_
               try go_wp2
               go_ret
               exact ⟨by first | rfl | (simp [errW_none, errW_some] <;> rfl) | (simp [*, errW_none, errW_some] <;> rfl), by repeat (first | (with_reducible first | exact HB.out | apply below_alloc | apply pw_below_drewN | apply below_drew1) | exact HB.out)⟩
           · rw [if_neg c41] at H
             exact absurd H (by simp)
         · rw [if_neg c40] at H
           have c40b0 : ((((rd_T45 t568 0).f0.f0) == t586 && (((rd_T45 t568 0).f0.f1) == t587 && (((rd_T45 t568 0).f0.f2) == t588))) && (((rd_T45 t568 0).f1) == 32)) = false := by simpa using c40
           clear c40
           obtain rfl := Option.some.inj H
           go_enter Try.func36, Try.ntmps36
           try go_wp2_with (first | ((with_reducible refine gate_callee (f := 70) rfl ?_); refine goesL_ (some 3) rfl rfl Try.func70 (by kernel_rfl) rfl #[.int .u64 2] rfl (by (try simp only [List.map_toArray, List.map_cons, List.map_nil]); first | done | rfl | (simp only [List.length_drop, List.length_take]; rfl)) ?_; (with_reducible refine (intrusionlaw07_ip.calls 2 t544 t545 t546 _ A1.out).mono ?_); rintro e w97 ⟨rfl, hb⟩; refine ⟨_, rfl, ?_⟩; replace HB := Aside0.mk (below_step (zB HB) hb); (try clear hb)) | ((with_reducible refine gate_callee (f := 70) rfl ?_); refine goesL_ (some 4) rfl rfl Try.func70 (by kernel_rfl) rfl #[.int .u64 3] rfl (by (try simp only [List.map_toArray, List.map_cons, List.map_nil]); first | done | rfl | (simp only [List.length_drop, List.length_take]; rfl)) ?_; (with_reducible refine (intrusionlaw07_ip.calls 3 t547 t548 t549 _ A2.out).mono ?_); rintro e w98 ⟨rfl, hb⟩; refine ⟨_, rfl, ?_⟩; replace HB := Aside0.mk (below_step (zB HB) hb); (try clear hb)) | ((with_reducible refine gate_callee (f := 70) rfl ?_); refine goesL_ (some 6) rfl rfl Try.func70 (by kernel_rfl) rfl #[.int .u64 1] rfl (by (try simp only [List.map_toArray, List.map_cons, List.map_nil]); first | done | rfl | (simp only [List.length_drop, List.length_take]; rfl)) ?_; (with_reducible refine (intrusionlaw07_ip.calls 1 t550 t551 t552 _ A3.out).mono ?_); rintro e w99 ⟨rfl, hb⟩; refine ⟨_, rfl, ?_⟩; replace HB := Aside0.mk (below_step (zB HB) hb); (try clear hb)) | ((with_reducible refine gate_callee (f := 70) rfl ?_); refine goesL_ (some 7) rfl rfl Try.func70 (by kernel_rfl) rfl #[.int .u64 1] rfl (by (try simp only [List.map_toArray, List.map_cons, List.map_nil]); first | done | rfl | (simp only [List.length_drop, List.length_take]; rfl)) ?_; (with_reducible refine (intrusionlaw07_ip.calls 1 t553 t554 t555 _ A4.out).mono ?_); rintro e w100 ⟨rfl, hb⟩; refine ⟨_, rfl, ?_⟩; replace HB := Aside0.mk (below_step (zB HB) hb); (try clear hb)) | ((with_reducible refine gate_dst (N := 9) rfl ?_); (try (refine gate_guard (by rfl) ?_; dsimp only)); refine Kd.R_lit k66 _ 66 ?hg (N := 9) ?hd (xs := ([(⟨(⟨t544, t545, t546⟩ : S36), (⟨t547, t548, t549⟩ : S36)⟩ : S66), (⟨(⟨t550, t551, t552⟩ : S36), (⟨t553, t554, t555⟩ : S36)⟩ : S66)] : List (S66))) (inner := [.bool t544, .int .u64 t545, .int .u64 t546, .bool t547, .int .u64 t548, .int .u64 t549, .bool t550, .int .u64 t551, .int .u64 t552, .bool t553, .int .u64 t554, .int .u64 t555]) (ok := fun _ => True) (okp := fun _ => True) ?hr ?hp (fun _ hk => hk) trivial (Below.refl _ _) (Nat.le_refl _) (by simp) ?_; (case hd => rfl); (case hg => rfl); (case hr => first | (go_simp; done) | (go_simp; rfl)); (case hp => exact (Reps.c6 (show Kd.M k66 _ _ _ (⟨(⟨t544, t545, t546⟩ : S36), (⟨t547, t548, t549⟩ : S36)⟩ : S66) [.bool t544, .int .u64 t545, .int .u64 t546, .bool t547, .int .u64 t548, .int .u64 t549] from (k66_mkM _ _ _ (⟨(⟨t544, t545, t546⟩ : S36), (⟨t547, t548, t549⟩ : S36)⟩ : S66) )) (Reps.c6 (show Kd.M k66 _ _ _ (⟨(⟨t550, t551, t552⟩ : S36), (⟨t553, t554, t555⟩ : S36)⟩ : S66) [.bool t550, .int .u64 t551, .int .u64 t552, .bool t553, .int .u64 t554, .int .u64 t555] from (k66_mkM _ _ _ (⟨(⟨t550, t551, t552⟩ : S36), (⟨t553, t554, t555⟩ : S36)⟩ : S66) )) (Reps.none _ _)))); intro v557 w101 ho102 hb hg_ hnew_; clear hg_ hnew_; (first | rw [← Ny556.out] at ho102 | (simp only [Int.reduceToNat] at ho102; rw [← Ny556.out] at ho102)); have HO558 := Aside0.mk (Kd.R_lower ho102 (below_size (zB HB))); replace HB := Aside0.mk (below_step (zB HB) hb); clear hb ho102) | ((with_reducible refine gate_callee (f := 70) rfl ?_); refine goesL_ (some 10) rfl rfl Try.func70 (by kernel_rfl) rfl #[.int .u64 1] rfl (by (try simp only [List.map_toArray, List.map_cons, List.map_nil]); first | done | rfl | (simp only [List.length_drop, List.length_take]; rfl)) ?_; (with_reducible refine (intrusionlaw07_ip.calls 1 t559 t560 t561 _ A5.out).mono ?_); rintro e w103 ⟨rfl, hb⟩; refine ⟨_, rfl, ?_⟩; replace HO558 := Aside0.mk (Kd.R_below (zR HO558) hb); replace HB := Aside0.mk (below_step (zB HB) hb); (try clear hb)) | ((with_reducible refine gate_callee (f := 70) rfl ?_); refine goesL_ (some 11) rfl rfl Try.func70 (by kernel_rfl) rfl #[.int .u64 4] rfl (by (try simp only [List.map_toArray, List.map_cons, List.map_nil]); first | done | rfl | (simp only [List.length_drop, List.length_take]; rfl)) ?_; (with_reducible refine (intrusionlaw07_ip.calls 4 t562 t563 t564 _ A6.out).mono ?_); rintro e w104 ⟨rfl, hb⟩; refine ⟨_, rfl, ?_⟩; replace HO558 := Aside0.mk (Kd.R_below (zR HO558) hb); replace HB := Aside0.mk (below_step (zB HB) hb); (try clear hb)) | ((with_reducible refine gate_dst (N := 13) rfl ?_); (try (refine gate_guard (by rfl) ?_; dsimp only)); refine Kd.R_lit k66 _ 66 ?hg (N := 13) ?hd (xs := ([(⟨(⟨t559, t560, t561⟩ : S36), (⟨t562, t563, t564⟩ : S36)⟩ : S66)] : List (S66))) (inner := [.bool t559, .int .u64 t560, .int .u64 t561, .bool t562, .int .u64 t563, .int .u64 t564]) (ok := fun _ => True) (okp := fun _ => True) ?hr ?hp (fun _ hk => hk) trivial (Below.refl _ _) (Nat.le_refl _) (by simp) ?_; (case hd => rfl); (case hg => rfl); (case hr => first | (go_simp; done) | (go_simp; rfl)); (case hp => exact (Reps.c6 (show Kd.M k66 _ _ _ (⟨(⟨t559, t560, t561⟩ : S36), (⟨t562, t563, t564⟩ : S36)⟩ : S66) [.bool t559, .int .u64 t560, .int .u64 t561, .bool t562, .int .u64 t563, .int .u64 t564] from (k66_mkM _ _ _ (⟨(⟨t559, t560, t561⟩ : S36), (⟨t562, t563, t564⟩ : S36)⟩ : S66) )) (Reps.none _ _))); intro v566 w105 ho106 hb hg_ hnew_; clear hg_ hnew_; (first | rw [← Ny565.out] at ho106 | (simp only [Int.reduceToNat] at ho106; rw [← Ny565.out] at ho106)); have HO567 := Aside0.mk (Kd.R_lower (Kd.R_new' ho106 (Kd.R_lt (zR HO558))) (below_size (zB HB))); replace HO558 := Aside0.mk (Kd.R_elder' (zR HO558) (Kd.R_base ho106) hb); replace HB := Aside0.mk (below_step (zB HB) hb); clear hb ho106; obtain ⟨Ao107, co107, eo107⟩ := Kd.R_slice HO567.out; subst eo107) | ((with_reducible refine gate_callee (f := 46) rfl ?_); refine goesL_ (some 14) rfl rfl Try.func46 (by kernel_rfl) rfl #[.slice Ao107 y565.length co107] rfl (by (try simp only [List.map_toArray, List.map_cons, List.map_nil]); first | done | rfl | (simp only [List.length_drop, List.length_take]; rfl)) ?_; (with_reducible refine (addrset_Prefixes.calls k _ _ y565 t568 _ ?side1 ?side2 A7.out).mono ?_); (case side1 => repeat (first | exact (Kd.R_reads' HO567.out).2.2 | (with_reducible refine Kd.C_alloc ?_ _) | (with_reducible refine Kd.C_drewN ?_ _) | (with_reducible refine Kd.C_drew ?_))); (case side2 => exact (Kd.R_reads' HO567.out).2.1); rintro e w108 ⟨v569, rfl, ho0, hb⟩; refine ⟨_, rfl, ?_⟩; replace HO558 := Aside0.mk (Kd.R_below (zR HO558) hb); replace HO567 := Aside0.mk (Kd.R_below (zR HO567) hb); have HO570 := Aside0.mk (Kd.R_lower ho0 (below_size (zB HB))); replace HB := Aside0.mk (below_step (zB HB) hb); (try clear hb); (try clear ho0)))
           replace HO558 := Aside0.mk (Kd.R_drew HO558.out)
           replace HO567 := Aside0.mk (Kd.R_drew HO567.out)
           replace HO570 := Aside0.mk (Kd.R_drew HO570.out)
           replace HB := Aside0.mk (below_drew1 HB.out)
           obtain ⟨Ao110, co110, eo110⟩ := Kd.R_slice HO558.out
           (first | subst eo110 | (injection eo110 with f1_ f2_ f3_; have f4_ := f1_.symm; have f5_ := f3_.symm; clear f1_ f2_ f3_; subst f4_; subst f5_))
           have p585 : 0 ≤ (0 : Int) := (by omega)
           have q585 : 0 < (t568.length : Int) := za
           (try (obtain ⟨Ax_, cx_, ex_⟩ := Kd.R_slice HO570.out; subst ex_))
           obtain ⟨ad585, e585, hx585_0, hx585_1, hx585_2, hx585_3⟩ := at_T45 (Kd.R_reads' HO570.out).2.2 0 p585 q585
           cases e585
           have qi585 : (0 < t568.length) = True := eq_true (by omega)
           (try rw [show ((0 : Int)).toNat = 0 from rfl] at hx585_0)
           (try rw [show 0 * 4 = 0 from rfl] at hx585_0)
           (try rw [Addr.add_zero'] at hx585_0)
           (try rw [show ((0 : Int)).toNat = 0 from rfl] at hx585_1)
           (try rw [show 0 * 4 = 0 from rfl] at hx585_1)
           (try rw [Addr.add_zero'] at hx585_1)
           (try rw [show ((0 : Int)).toNat = 0 from rfl] at hx585_2)
           (try rw [show 0 * 4 = 0 from rfl] at hx585_2)
           (try rw [Addr.add_zero'] at hx585_2)
           (try rw [show ((0 : Int)).toNat = 0 from rfl] at hx585_3)
           (try rw [show 0 * 4 = 0 from rfl] at hx585_3)
           (try rw [Addr.add_zero'] at hx585_3)
           replace p585 := eq_true p585
           replace q585 := eq_true q585
           refine start_ (n := 39) (S := fun w' => w'.cell? ad585 = some (.bool ((rd_T45 t568 0).f0.f0)) ∧ w'.cell? ⟨ad585.block, ad585.off + 1, none⟩ = some (.int .u64 ((rd_T45 t568 0).f0.f1)) ∧ w'.cell? ⟨ad585.block, ad585.off + 2, none⟩ = some (.int .u64 ((rd_T45 t568 0).f0.f2)) ∧ w'.cell? ⟨ad585.block, ad585.off + 3, none⟩ = some (.int .i64 ((rd_T45 t568 0).f1))) (ds := []) #[false, false, false, false, false, false, false, false, false, false, false, false, false, false, false, false, false, false, false, false, false, false, false, false, false, false, false, false, false, false, false, false, false, false, false, false, false, false, false] (by kernel_rfl) rfl rfl ⟨hx585_0, hx585_1, hx585_2, hx585_3⟩ (fun hHeld => ?_); refine with_tabW intrusionlaw07_awake.tab3 intrusionlaw07_awake.bits3 (fun HT_ HW_ => ?_)
           generalize w108.drew = w109 at HO558 HO567 HO570 HB hx585_0 hx585_1 hx585_2 hx585_3 hHeld ⊢
           refine zp 0 15 HT_ ?_; refine zo 1 16 HT_ (fun K hK => ?_)
           refine zg Try.func38 #[.slice Ao110 y556.length co110] ?_
           with_reducible refine (addrset_Normal.calls k _ _ y556 t571 _ ?side1 ?side2 A8.out).mono ?_
           (case side1 => repeat (first | exact (Kd.R_reads' HO558.out).2.2 | (with_reducible refine Kd.C_alloc ?_ _) | (with_reducible refine Kd.C_drewN ?_ _) | (with_reducible refine Kd.C_drew ?_)))
           (case side2 => exact (Kd.R_reads' HO558.out).2.1)
           rintro e w111 ⟨v572, rfl, ho0, hb⟩
           have HS0_ := (hb.cell (World.block_lt_of_cell? _ _ (hHeld.1))).trans (hHeld.1)
           have HS1_ := (hb.cell (World.block_lt_of_cell? _ _ (hHeld.2.1))).trans (hHeld.2.1)
           have HS2_ := (hb.cell (World.block_lt_of_cell? _ _ (hHeld.2.2.1))).trans (hHeld.2.2.1)
           have HS3_ := (hb.cell (World.block_lt_of_cell? _ _ (hHeld.2.2.2))).trans (hHeld.2.2.2)
           refine ⟨_, rfl, ?_⟩
           replace HO570 := Aside0.mk (Kd.R_below (zR HO570) hb)
           have HO573 := Aside0.mk (Kd.R_lower (Kd.R_new' (Kd.R_new' ho0 (Kd.R_lt (zR HO558))) (Kd.R_lt (zR HO567))) (below_size (zB HB)))
           replace HO558 := Aside0.mk (Kd.R_elder' (zR HO558) (Kd.R_base ho0) hb)
           replace HO567 := Aside0.mk (Kd.R_elder' (zR HO567) (Kd.R_base ho0) hb)
           replace HB := Aside0.mk (below_step (zB HB) hb)
           (try clear hb)
           (try clear ho0)
           refine hK.out _ _ ⟨HS0_, HS1_, HS2_, HS3_⟩ (fun hHeld => ?_)
           clear hK K
           refine zn 16 ?_; refine zo 2 17 HT_ (fun K hK => ?_)
           refine zg Try.func70 #[.int .u64 1] ?_
           with_reducible refine (intrusionlaw07_ip.calls 1 t574 t575 t576 _ A9.out).mono ?_
           rintro e w112 ⟨rfl, hb⟩
           have HS0_ := (hb.cell (World.block_lt_of_cell? _ _ (hHeld.1))).trans (hHeld.1)
           have HS1_ := (hb.cell (World.block_lt_of_cell? _ _ (hHeld.2.1))).trans (hHeld.2.1)
           have HS2_ := (hb.cell (World.block_lt_of_cell? _ _ (hHeld.2.2.1))).trans (hHeld.2.2.1)
           have HS3_ := (hb.cell (World.block_lt_of_cell? _ _ (hHeld.2.2.2))).trans (hHeld.2.2.2)
           refine ⟨_, rfl, ?_⟩
           replace HO558 := Aside0.mk (Kd.R_below (zR HO558) hb)
           replace HO567 := Aside0.mk (Kd.R_below (zR HO567) hb)
           replace HO570 := Aside0.mk (Kd.R_below (zR HO570) hb)
           replace HO573 := Aside0.mk (Kd.R_below (zR HO573) hb)
           replace HB := Aside0.mk (below_step (zB HB) hb)
           (try clear hb)
           refine hK.out _ _ ⟨HS0_, HS1_, HS2_, HS3_⟩ (fun hHeld => ?_)
           clear hK K
           refine zn 17 ?_; refine zo 3 18 HT_ (fun K hK => ?_)
           refine zg Try.func70 #[.int .u64 3] ?_
           with_reducible refine (intrusionlaw07_ip.calls 3 t577 t578 t579 _ A10.out).mono ?_
           rintro e w113 ⟨rfl, hb⟩
           have HS0_ := (hb.cell (World.block_lt_of_cell? _ _ (hHeld.1))).trans (hHeld.1)
           have HS1_ := (hb.cell (World.block_lt_of_cell? _ _ (hHeld.2.1))).trans (hHeld.2.1)
           have HS2_ := (hb.cell (World.block_lt_of_cell? _ _ (hHeld.2.2.1))).trans (hHeld.2.2.1)
           have HS3_ := (hb.cell (World.block_lt_of_cell? _ _ (hHeld.2.2.2))).trans (hHeld.2.2.2)
           refine ⟨_, rfl, ?_⟩
           replace HO558 := Aside0.mk (Kd.R_below (zR HO558) hb)
           replace HO567 := Aside0.mk (Kd.R_below (zR HO567) hb)
           replace HO570 := Aside0.mk (Kd.R_below (zR HO570) hb)
           replace HO573 := Aside0.mk (Kd.R_below (zR HO573) hb)
           replace HB := Aside0.mk (below_step (zB HB) hb)
           (try clear hb)
           refine hK.out _ _ ⟨HS0_, HS1_, HS2_, HS3_⟩ (fun hHeld => ?_)
           clear hK K
           refine zn 18 ?_; refine zp 4 19 HT_ ?_; refine zo 5 20 HT_ (fun K hK => ?_)
           refine Kd.R_lit_step k66 _ 66 ?hg (N := 20) ?hd (xs := ([(⟨(⟨t574, t575, t576⟩ : S36), (⟨t577, t578, t579⟩ : S36)⟩ : S66)] : List (S66))) (inner := [.bool t574, .int .u64 t575, .int .u64 t576, .bool t577, .int .u64 t578, .int .u64 t579]) (ok := fun _ => True) (okp := fun _ => True) ?hr ?hp (fun _ hk => hk) trivial (Below.refl _ _) (Nat.le_refl _) (by simp) ?_; (case hd => rfl); (case hg => rfl); (case hr => first | (go_simp; done) | (go_simp; rfl)); (case hp => exact (Reps.c6 (show Kd.M k66 _ _ _ (⟨(⟨t574, t575, t576⟩ : S36), (⟨t577, t578, t579⟩ : S36)⟩ : S66) [.bool t574, .int .u64 t575, .int .u64 t576, .bool t577, .int .u64 t578, .int .u64 t579] from (k66_mkM _ _ _ (⟨(⟨t574, t575, t576⟩ : S36), (⟨t577, t578, t579⟩ : S36)⟩ : S66) )) (Reps.none _ _)))
           intro v581 w114 ho115 hb hg_ hnew_
           have HS0_ := (hb.cell (World.block_lt_of_cell? _ _ (hHeld.1))).trans (hHeld.1)
           have HS1_ := (hb.cell (World.block_lt_of_cell? _ _ (hHeld.2.1))).trans (hHeld.2.1)
           have HS2_ := (hb.cell (World.block_lt_of_cell? _ _ (hHeld.2.2.1))).trans (hHeld.2.2.1)
           have HS3_ := (hb.cell (World.block_lt_of_cell? _ _ (hHeld.2.2.2))).trans (hHeld.2.2.2)
           clear hg_ hnew_
           (first | rw [← Ny580.out] at ho115 | (simp only [Int.reduceToNat] at ho115; rw [← Ny580.out] at ho115))
           replace HO570 := Aside0.mk (Kd.R_below (zR HO570) hb)
           have HO582 := Aside0.mk (Kd.R_lower (Kd.R_new' (Kd.R_new' (Kd.R_new' ho115 (Kd.R_lt (zR HO558))) (Kd.R_lt (zR HO567))) (Kd.R_lt (zR HO573))) (below_size (zB HB)))
           replace HO558 := Aside0.mk (Kd.R_elder' (zR HO558) (Kd.R_base ho115) hb)
           replace HO567 := Aside0.mk (Kd.R_elder' (zR HO567) (Kd.R_base ho115) hb)
           replace HO573 := Aside0.mk (Kd.R_elder' (zR HO573) (Kd.R_base ho115) hb)
           replace HB := Aside0.mk (below_step (zB HB) hb)
           clear hb ho115
           obtain ⟨Ao116, co116, eo116⟩ := Kd.R_slice HO573.out
           (first | subst eo116 | (injection eo116 with f1_ f2_ f3_; have f4_ := f1_.symm; have f5_ := f3_.symm; clear f1_ f2_ f3_; subst f4_; subst f5_))
           obtain ⟨Ao117, co117, eo117⟩ := Kd.R_slice HO582.out
           (first | subst eo117 | (injection eo117 with f1_ f2_ f3_; have f4_ := f1_.symm; have f5_ := f3_.symm; clear f1_ f2_ f3_; subst f4_; subst f5_))
           refine hK.out _ _ ⟨HS0_, HS1_, HS2_, HS3_⟩ (fun hHeld => ?_)
           clear hK K
           refine zn 20 ?_; refine zo 6 21 HT_ (fun K hK => ?_)
           refine zg Try.func37 #[.slice Ao116 t571.length co116, .slice Ao117 y580.length co117] ?_
           with_reducible refine (intrusionref07_Same.calls k _ _ t571 _ _ y580 true _ ?side1 ?side2 ?side3 ?side4 A11.out).mono ?_
           (case side1 => repeat (first | exact (Kd.R_reads' HO573.out).2.2 | (with_reducible refine Kd.C_alloc ?_ _) | (with_reducible refine Kd.C_drewN ?_ _) | (with_reducible refine Kd.C_drew ?_)))
           (case side2 => exact (Kd.R_reads' HO573.out).2.1)
           (case side3 => repeat (first | exact (Kd.R_reads' HO582.out).2.2 | (with_reducible refine Kd.C_alloc ?_ _) | (with_reducible refine Kd.C_drewN ?_ _) | (with_reducible refine Kd.C_drew ?_)))
           (case side4 => exact (Kd.R_reads' HO582.out).2.1)
           rintro e w' ⟨rfl, ⟨nd, rfl⟩⟩
           refine ⟨_, rfl, ?_⟩
           refine hK.out _ _ ⟨hHeld.1, hHeld.2.1, hHeld.2.2.1, hHeld.2.2.2⟩ (fun hHeld => ?_)
           clear hK K
           refine zn 21 ?_; refine zp 7 22 HT_ ?_; refine zp 8 23 HT_ ?_; refine zo 9 24 HT_ (fun K hK => ?_)
           refine zg Try.func40 #[.slice Ao110 y556.length co110] ?_
           with_reducible refine (addrset_Valid.calls k _ _ y556 false _ ?side1 ?side2 A13.out).mono ?_
           (case side1 => repeat (first | exact (Kd.R_reads' HO558.out).2.2 | (with_reducible refine Kd.C_alloc ?_ _) | (with_reducible refine Kd.C_drewN ?_ _) | (with_reducible refine Kd.C_drew ?_)))
           (case side2 => exact (Kd.R_reads' HO558.out).2.1)
           rintro e w118 ⟨rfl, hb⟩
           have HS0_ := (hb.cell (World.block_lt_of_cell? _ _ (hHeld.1))).trans (hHeld.1)
           have HS1_ := (hb.cell (World.block_lt_of_cell? _ _ (hHeld.2.1))).trans (hHeld.2.1)
           have HS2_ := (hb.cell (World.block_lt_of_cell? _ _ (hHeld.2.2.1))).trans (hHeld.2.2.1)
           have HS3_ := (hb.cell (World.block_lt_of_cell? _ _ (hHeld.2.2.2))).trans (hHeld.2.2.2)
           refine ⟨_, rfl, ?_⟩
           replace HO558 := Aside0.mk (Kd.R_below (zR HO558) hb)
           replace HO567 := Aside0.mk (Kd.R_below (zR HO567) hb)
           replace HO570 := Aside0.mk (Kd.R_below (zR HO570) hb)
           replace HO573 := Aside0.mk (Kd.R_below (zR HO573) hb)
           replace HO582 := Aside0.mk (Kd.R_below (zR HO582) hb)
           replace HB := Aside0.mk (below_step (zB HB) hb)
           (try clear hb)
           obtain ⟨Ao119, co119, eo119⟩ := Kd.R_slice HO570.out
           (first | subst eo119 | (injection eo119 with f1_ f2_ f3_; have f4_ := f1_.symm; have f5_ := f3_.symm; clear f1_ f2_ f3_; subst f4_; subst f5_))
           refine hK.out _ _ ⟨HS0_, HS1_, HS2_, HS3_⟩ (fun hHeld => ?_)
           clear hK K
           refine zn 24 ?_; refine zp 10 25 HT_ ?_; refine zp 11 26 HT_ ?_; refine zp 12 27 HT_ ?_; refine zp 13 28 HT_ ?_; refine zp 14 29 HT_ ?_; refine zp 15 30 HT_ ?_; refine zp 16 31 HT_ ?_; refine zp 17 32 HT_ ?_; refine zp 18 33 HT_ ?_; refine zp 19 34 HT_ ?_; refine zt 20 35 HT_ HW_ hHeld ?_; refine zo 21 36 HT_ (fun K hK => ?_)
           refine zg Try.func70 #[.int .u64 1] ?_
           with_reducible refine (intrusionlaw07_ip.calls 1 t586 t587 t588 _ A39.out).mono ?_
           rintro e w120 ⟨rfl, hb⟩
           have HS0_ := (hb.cell (World.block_lt_of_cell? _ _ (hHeld.1))).trans (hHeld.1)
           have HS1_ := (hb.cell (World.block_lt_of_cell? _ _ (hHeld.2.1))).trans (hHeld.2.1)
           have HS2_ := (hb.cell (World.block_lt_of_cell? _ _ (hHeld.2.2.1))).trans (hHeld.2.2.1)
           have HS3_ := (hb.cell (World.block_lt_of_cell? _ _ (hHeld.2.2.2))).trans (hHeld.2.2.2)
           refine ⟨_, rfl, ?_⟩
           replace HO558 := Aside0.mk (Kd.R_below (zR HO558) hb)
           replace HO567 := Aside0.mk (Kd.R_below (zR HO567) hb)
           replace HO570 := Aside0.mk (Kd.R_below (zR HO570) hb)
           replace HO573 := Aside0.mk (Kd.R_below (zR HO573) hb)
           replace HO582 := Aside0.mk (Kd.R_below (zR HO582) hb)
           replace HB := Aside0.mk (below_step (zB HB) hb)
           (try clear hb)
           refine hK.out _ _ ⟨HS0_, HS1_, HS2_, HS3_⟩ (fun hHeld => ?_)
           clear hK K
           refine zn 36 ?_; refine zp 22 37 HT_ ?_; refine zp 23 38 HT_ ?_; refine zp 24 39 HT_ ?_; refine zp 25 40 HT_ ?_; refine zu 26 41 HT_ ?_; refine zu 27 42 HT_ ?_; refine zu 28 43 HT_ ?_; refine zu 29 44 HT_ ?_; refine zu 30 45 HT_ ?_; refine zu 31 46 HT_ ?_; refine zp 32 47 HT_ ?_; refine zp 33 48 HT_ ?_; refine zu 34 49 HT_ ?_; refine zu 35 50 HT_ ?_; refine zu 36 51 HT_ ?_; refine zp 37 52 HT_ ?_; refine zp 38 0 HT_ ?_; refine zd HT_ ?_
           try go_wp2
           go_ret
           exact ⟨by first | rfl | (simp [errW_none, errW_some] <;> rfl) | (simp [*, errW_none, errW_some] <;> rfl), by repeat (first | (with_reducible first | exact HB.out | apply below_alloc | apply pw_below_drewN | apply below_drew1) | exact HB.out)⟩
       · rw [if_neg c38] at H
         exact absurd H (by simp)
     · rw [if_neg c37] at H
       have c37b0 : ((t568.length : Int) == 3) = false := beq_eq_false_iff_ne.mpr c37
       have c37b1 : ((t568.length : Int) != 3) = true := bne_iff_ne.mpr c37
       obtain rfl := Option.some.inj H
       go_enter Try.func36, Try.ntmps36
       try go_wp2_with (first | ((with_reducible refine gate_callee (f := 70) rfl ?_); refine goesL_ (some 3) rfl rfl Try.func70 (by kernel_rfl) rfl #[.int .u64 2] rfl (by (try simp only [List.map_toArray, List.map_cons, List.map_nil]); first | done | rfl | (simp only [List.length_drop, List.length_take]; rfl)) ?_; (with_reducible refine (intrusionlaw07_ip.calls 2 t544 t545 t546 _ A1.out).mono ?_); rintro e w121 ⟨rfl, hb⟩; refine ⟨_, rfl, ?_⟩; replace HB := Aside0.mk (below_step (zB HB) hb); (try clear hb)) | ((with_reducible refine gate_callee (f := 70) rfl ?_); refine goesL_ (some 4) rfl rfl Try.func70 (by kernel_rfl) rfl #[.int .u64 3] rfl (by (try simp only [List.map_toArray, List.map_cons, List.map_nil]); first | done | rfl | (simp only [List.length_drop, List.length_take]; rfl)) ?_; (with_reducible refine (intrusionlaw07_ip.calls 3 t547 t548 t549 _ A2.out).mono ?_); rintro e w122 ⟨rfl, hb⟩; refine ⟨_, rfl, ?_⟩; replace HB := Aside0.mk (below_step (zB HB) hb); (try clear hb)) | ((with_reducible refine gate_callee (f := 70) rfl ?_); refine goesL_ (some 6) rfl rfl Try.func70 (by kernel_rfl) rfl #[.int .u64 1] rfl (by (try simp only [List.map_toArray, List.map_cons, List.map_nil]); first | done | rfl | (simp only [List.length_drop, List.length_take]; rfl)) ?_; (with_reducible refine (intrusionlaw07_ip.calls 1 t550 t551 t552 _ A3.out).mono ?_); rintro e w123 ⟨rfl, hb⟩; refine ⟨_, rfl, ?_⟩; replace HB := Aside0.mk (below_step (zB HB) hb); (try clear hb)) | ((with_reducible refine gate_callee (f := 70) rfl ?_); refine goesL_ (some 7) rfl rfl Try.func70 (by kernel_rfl) rfl #[.int .u64 1] rfl (by (try simp only [List.map_toArray, List.map_cons, List.map_nil]); first | done | rfl | (simp only [List.length_drop, List.length_take]; rfl)) ?_; (with_reducible refine (intrusionlaw07_ip.calls 1 t553 t554 t555 _ A4.out).mono ?_); rintro e w124 ⟨rfl, hb⟩; refine ⟨_, rfl, ?_⟩; replace HB := Aside0.mk (below_step (zB HB) hb); (try clear hb)) | ((with_reducible refine gate_dst (N := 9) rfl ?_); (try (refine gate_guard (by rfl) ?_; dsimp only)); refine Kd.R_lit k66 _ 66 ?hg (N := 9) ?hd (xs := ([(⟨(⟨t544, t545, t546⟩ : S36), (⟨t547, t548, t549⟩ : S36)⟩ : S66), (⟨(⟨t550, t551, t552⟩ : S36), (⟨t553, t554, t555⟩ : S36)⟩ : S66)] : List (S66))) (inner := [.bool t544, .int .u64 t545, .int .u64 t546, .bool t547, .int .u64 t548, .int .u64 t549, .bool t550, .int .u64 t551, .int .u64 t552, .bool t553, .int .u64 t554, .int .u64 t555]) (ok := fun _ => True) (okp := fun _ => True) ?hr ?hp (fun _ hk => hk) trivial (Below.refl _ _) (Nat.le_refl _) (by simp) ?_; (case hd => rfl); (case hg => rfl); (case hr => first | (go_simp; done) | (go_simp; rfl)); (case hp => exact (Reps.c6 (show Kd.M k66 _ _ _ (⟨(⟨t544, t545, t546⟩ : S36), (⟨t547, t548, t549⟩ : S36)⟩ : S66) [.bool t544, .int .u64 t545, .int .u64 t546, .bool t547, .int .u64 t548, .int .u64 t549] from (k66_mkM _ _ _ (⟨(⟨t544, t545, t546⟩ : S36), (⟨t547, t548, t549⟩ : S36)⟩ : S66) )) (Reps.c6 (show Kd.M k66 _ _ _ (⟨(⟨t550, t551, t552⟩ : S36), (⟨t553, t554, t555⟩ : S36)⟩ : S66) [.bool t550, .int .u64 t551, .int .u64 t552, .bool t553, .int .u64 t554, .int .u64 t555] from (k66_mkM _ _ _ (⟨(⟨t550, t551, t552⟩ : S36), (⟨t553, t554, t555⟩ : S36)⟩ : S66) )) (Reps.none _ _)))); intro v557 w125 ho126 hb hg_ hnew_; clear hg_ hnew_; (first | rw [← Ny556.out] at ho126 | (simp only [Int.reduceToNat] at ho126; rw [← Ny556.out] at ho126)); have HO558 := Aside0.mk (Kd.R_lower ho126 (below_size (zB HB))); replace HB := Aside0.mk (below_step (zB HB) hb); clear hb ho126) | ((with_reducible refine gate_callee (f := 70) rfl ?_); refine goesL_ (some 10) rfl rfl Try.func70 (by kernel_rfl) rfl #[.int .u64 1] rfl (by (try simp only [List.map_toArray, List.map_cons, List.map_nil]); first | done | rfl | (simp only [List.length_drop, List.length_take]; rfl)) ?_; (with_reducible refine (intrusionlaw07_ip.calls 1 t559 t560 t561 _ A5.out).mono ?_); rintro e w127 ⟨rfl, hb⟩; refine ⟨_, rfl, ?_⟩; replace HO558 := Aside0.mk (Kd.R_below (zR HO558) hb); replace HB := Aside0.mk (below_step (zB HB) hb); (try clear hb)) | ((with_reducible refine gate_callee (f := 70) rfl ?_); refine goesL_ (some 11) rfl rfl Try.func70 (by kernel_rfl) rfl #[.int .u64 4] rfl (by (try simp only [List.map_toArray, List.map_cons, List.map_nil]); first | done | rfl | (simp only [List.length_drop, List.length_take]; rfl)) ?_; (with_reducible refine (intrusionlaw07_ip.calls 4 t562 t563 t564 _ A6.out).mono ?_); rintro e w128 ⟨rfl, hb⟩; refine ⟨_, rfl, ?_⟩; replace HO558 := Aside0.mk (Kd.R_below (zR HO558) hb); replace HB := Aside0.mk (below_step (zB HB) hb); (try clear hb)) | ((with_reducible refine gate_dst (N := 13) rfl ?_); (try (refine gate_guard (by rfl) ?_; dsimp only)); refine Kd.R_lit k66 _ 66 ?hg (N := 13) ?hd (xs := ([(⟨(⟨t559, t560, t561⟩ : S36), (⟨t562, t563, t564⟩ : S36)⟩ : S66)] : List (S66))) (inner := [.bool t559, .int .u64 t560, .int .u64 t561, .bool t562, .int .u64 t563, .int .u64 t564]) (ok := fun _ => True) (okp := fun _ => True) ?hr ?hp (fun _ hk => hk) trivial (Below.refl _ _) (Nat.le_refl _) (by simp) ?_; (case hd => rfl); (case hg => rfl); (case hr => first | (go_simp; done) | (go_simp; rfl)); (case hp => exact (Reps.c6 (show Kd.M k66 _ _ _ (⟨(⟨t559, t560, t561⟩ : S36), (⟨t562, t563, t564⟩ : S36)⟩ : S66) [.bool t559, .int .u64 t560, .int .u64 t561, .bool t562, .int .u64 t563, .int .u64 t564] from (k66_mkM _ _ _ (⟨(⟨t559, t560, t561⟩ : S36), (⟨t562, t563, t564⟩ : S36)⟩ : S66) )) (Reps.none _ _))); intro v566 w129 ho130 hb hg_ hnew_; clear hg_ hnew_; (first | rw [← Ny565.out] at ho130 | (simp only [Int.reduceToNat] at ho130; rw [← Ny565.out] at ho130)); have HO567 := Aside0.mk (Kd.R_lower (Kd.R_new' ho130 (Kd.R_lt (zR HO558))) (below_size (zB HB))); replace HO558 := Aside0.mk (Kd.R_elder' (zR HO558) (Kd.R_base ho130) hb); replace HB := Aside0.mk (below_step (zB HB) hb); clear hb ho130; obtain ⟨Ao131, co131, eo131⟩ := Kd.R_slice HO567.out; subst eo131) | ((with_reducible refine gate_callee (f := 46) rfl ?_); refine goesL_ (some 14) rfl rfl Try.func46 (by kernel_rfl) rfl #[.slice Ao131 y565.length co131] rfl (by (try simp only [List.map_toArray, List.map_cons, List.map_nil]); first | done | rfl | (simp only [List.length_drop, List.length_take]; rfl)) ?_; (with_reducible refine (addrset_Prefixes.calls k _ _ y565 t568 _ ?side1 ?side2 A7.out).mono ?_); (case side1 => repeat (first | exact (Kd.R_reads' HO567.out).2.2 | (with_reducible refine Kd.C_alloc ?_ _) | (with_reducible refine Kd.C_drewN ?_ _) | (with_reducible refine Kd.C_drew ?_))); (case side2 => exact (Kd.R_reads' HO567.out).2.1); rintro e w132 ⟨v569, rfl, ho0, hb⟩; refine ⟨_, rfl, ?_⟩; replace HO558 := Aside0.mk (Kd.R_below (zR HO558) hb); replace HO567 := Aside0.mk (Kd.R_below (zR HO567) hb); have HO570 := Aside0.mk (Kd.R_lower ho0 (below_size (zB HB))); replace HB := Aside0.mk (below_step (zB HB) hb); (try clear hb); (try clear ho0)))
       replace HO558 := Aside0.mk (Kd.R_drew HO558.out)
       replace HO567 := Aside0.mk (Kd.R_drew HO567.out)
       replace HO570 := Aside0.mk (Kd.R_drew HO570.out)
       replace HB := Aside0.mk (below_drew1 HB.out)
       obtain ⟨Ao134, co134, eo134⟩ := Kd.R_slice HO558.out
       (first | subst eo134 | (injection eo134 with f1_ f2_ f3_; have f4_ := f1_.symm; have f5_ := f3_.symm; clear f1_ f2_ f3_; subst f4_; subst f5_))
       refine start_ (n := 39) (S := fun w' => True) (ds := []) #[false, false, false, false, false, false, false, false, false, false, false, false, false, false, false, false, false, false, false, false, false, false, false, false, false, false, false, false, false, false, false, false, false, false, false, false, false, false, false] (by kernel_rfl) rfl rfl trivial (fun hHeld => ?_); refine with_tabW intrusionlaw07_awake.tab3 intrusionlaw07_awake.bits3 (fun HT_ HW_ => ?_)
       generalize w132.drew = w133 at HO558 HO567 HO570 HB hHeld ⊢
       refine zp 0 15 HT_ ?_; refine zo 1 16 HT_ (fun K hK => ?_)
       refine zg Try.func38 #[.slice Ao134 y556.length co134] ?_
       with_reducible refine (addrset_Normal.calls k _ _ y556 t571 _ ?side1 ?side2 A8.out).mono ?_
       (case side1 => repeat (first | exact (Kd.R_reads' HO558.out).2.2 | (with_reducible refine Kd.C_alloc ?_ _) | (with_reducible refine Kd.C_drewN ?_ _) | (with_reducible refine Kd.C_drew ?_)))
       (case side2 => exact (Kd.R_reads' HO558.out).2.1)
       rintro e w135 ⟨v572, rfl, ho0, hb⟩
       refine ⟨_, rfl, ?_⟩
       replace HO570 := Aside0.mk (Kd.R_below (zR HO570) hb)
       have HO573 := Aside0.mk (Kd.R_lower (Kd.R_new' (Kd.R_new' ho0 (Kd.R_lt (zR HO558))) (Kd.R_lt (zR HO567))) (below_size (zB HB)))
       replace HO558 := Aside0.mk (Kd.R_elder' (zR HO558) (Kd.R_base ho0) hb)
       replace HO567 := Aside0.mk (Kd.R_elder' (zR HO567) (Kd.R_base ho0) hb)
       replace HB := Aside0.mk (below_step (zB HB) hb)
       (try clear hb)
       (try clear ho0)
       refine hK.out _ _ trivial (fun hHeld => ?_)
       clear hK K
       refine zn 16 ?_; refine zo 2 17 HT_ (fun K hK => ?_)
       refine zg Try.func70 #[.int .u64 1] ?_
       with_reducible refine (intrusionlaw07_ip.calls 1 t574 t575 t576 _ A9.out).mono ?_
       rintro e w136 ⟨rfl, hb⟩
       refine ⟨_, rfl, ?_⟩
       replace HO558 := Aside0.mk (Kd.R_below (zR HO558) hb)
       replace HO567 := Aside0.mk (Kd.R_below (zR HO567) hb)
       replace HO570 := Aside0.mk (Kd.R_below (zR HO570) hb)
       replace HO573 := Aside0.mk (Kd.R_below (zR HO573) hb)
       replace HB := Aside0.mk (below_step (zB HB) hb)
       (try clear hb)
       refine hK.out _ _ trivial (fun hHeld => ?_)
       clear hK K
       refine zn 17 ?_; refine zo 3 18 HT_ (fun K hK => ?_)
       refine zg Try.func70 #[.int .u64 3] ?_
       with_reducible refine (intrusionlaw07_ip.calls 3 t577 t578 t579 _ A10.out).mono ?_
       rintro e w137 ⟨rfl, hb⟩
       refine ⟨_, rfl, ?_⟩
       replace HO558 := Aside0.mk (Kd.R_below (zR HO558) hb)
       replace HO567 := Aside0.mk (Kd.R_below (zR HO567) hb)
       replace HO570 := Aside0.mk (Kd.R_below (zR HO570) hb)
       replace HO573 := Aside0.mk (Kd.R_below (zR HO573) hb)
       replace HB := Aside0.mk (below_step (zB HB) hb)
       (try clear hb)
       refine hK.out _ _ trivial (fun hHeld => ?_)
       clear hK K
       refine zn 18 ?_; refine zp 4 19 HT_ ?_; refine zo 5 20 HT_ (fun K hK => ?_)
       refine Kd.R_lit_step k66 _ 66 ?hg (N := 20) ?hd (xs := ([(⟨(⟨t574, t575, t576⟩ : S36), (⟨t577, t578, t579⟩ : S36)⟩ : S66)] : List (S66))) (inner := [.bool t574, .int .u64 t575, .int .u64 t576, .bool t577, .int .u64 t578, .int .u64 t579]) (ok := fun _ => True) (okp := fun _ => True) ?hr ?hp (fun _ hk => hk) trivial (Below.refl _ _) (Nat.le_refl _) (by simp) ?_; (case hd => rfl); (case hg => rfl); (case hr => first | (go_simp; done) | (go_simp; rfl)); (case hp => exact (Reps.c6 (show Kd.M k66 _ _ _ (⟨(⟨t574, t575, t576⟩ : S36), (⟨t577, t578, t579⟩ : S36)⟩ : S66) [.bool t574, .int .u64 t575, .int .u64 t576, .bool t577, .int .u64 t578, .int .u64 t579] from (k66_mkM _ _ _ (⟨(⟨t574, t575, t576⟩ : S36), (⟨t577, t578, t579⟩ : S36)⟩ : S66) )) (Reps.none _ _)))
       intro v581 w138 ho139 hb hg_ hnew_
       clear hg_ hnew_
       (first | rw [← Ny580.out] at ho139 | (simp only [Int.reduceToNat] at ho139; rw [← Ny580.out] at ho139))
       replace HO570 := Aside0.mk (Kd.R_below (zR HO570) hb)
       have HO582 := Aside0.mk (Kd.R_lower (Kd.R_new' (Kd.R_new' (Kd.R_new' ho139 (Kd.R_lt (zR HO558))) (Kd.R_lt (zR HO567))) (Kd.R_lt (zR HO573))) (below_size (zB HB)))
       replace HO558 := Aside0.mk (Kd.R_elder' (zR HO558) (Kd.R_base ho139) hb)
       replace HO567 := Aside0.mk (Kd.R_elder' (zR HO567) (Kd.R_base ho139) hb)
       replace HO573 := Aside0.mk (Kd.R_elder' (zR HO573) (Kd.R_base ho139) hb)
       replace HB := Aside0.mk (below_step (zB HB) hb)
       clear hb ho139
       obtain ⟨Ao140, co140, eo140⟩ := Kd.R_slice HO573.out
       (first | subst eo140 | (injection eo140 with f1_ f2_ f3_; have f4_ := f1_.symm; have f5_ := f3_.symm; clear f1_ f2_ f3_; subst f4_; subst f5_))
       obtain ⟨Ao141, co141, eo141⟩ := Kd.R_slice HO582.out
       (first | subst eo141 | (injection eo141 with f1_ f2_ f3_; have f4_ := f1_.symm; have f5_ := f3_.symm; clear f1_ f2_ f3_; subst f4_; subst f5_))
       refine hK.out _ _ trivial (fun hHeld => ?_)
       clear hK K
       refine zn 20 ?_; refine zo 6 21 HT_ (fun K hK => ?_)
       refine zg Try.func37 #[.slice Ao140 t571.length co140, .slice Ao141 y580.length co141] ?_
       with_reducible refine (intrusionref07_Same.calls k _ _ t571 _ _ y580 true _ ?side1 ?side2 ?side3 ?side4 A11.out).mono ?_
       (case side1 => repeat (first | exact (Kd.R_reads' HO573.out).2.2 | (with_reducible refine Kd.C_alloc ?_ _) | (with_reducible refine Kd.C_drewN ?_ _) | (with_reducible refine Kd.C_drew ?_)))
       (case side2 => exact (Kd.R_reads' HO573.out).2.1)
       (case side3 => repeat (first | exact (Kd.R_reads' HO582.out).2.2 | (with_reducible refine Kd.C_alloc ?_ _) | (with_reducible refine Kd.C_drewN ?_ _) | (with_reducible refine Kd.C_drew ?_)))
       (case side4 => exact (Kd.R_reads' HO582.out).2.1)
       rintro e w' ⟨rfl, ⟨nd, rfl⟩⟩
       refine ⟨_, rfl, ?_⟩
       refine hK.out _ _ trivial (fun hHeld => ?_)
       clear hK K
       refine zn 21 ?_; refine zp 7 22 HT_ ?_; refine zp 8 23 HT_ ?_; refine zo 9 24 HT_ (fun K hK => ?_)
       refine zg Try.func40 #[.slice Ao134 y556.length co134] ?_
       with_reducible refine (addrset_Valid.calls k _ _ y556 false _ ?side1 ?side2 A13.out).mono ?_
       (case side1 => repeat (first | exact (Kd.R_reads' HO558.out).2.2 | (with_reducible refine Kd.C_alloc ?_ _) | (with_reducible refine Kd.C_drewN ?_ _) | (with_reducible refine Kd.C_drew ?_)))
       (case side2 => exact (Kd.R_reads' HO558.out).2.1)
       rintro e w142 ⟨rfl, hb⟩
       refine ⟨_, rfl, ?_⟩
       replace HO558 := Aside0.mk (Kd.R_below (zR HO558) hb)
       replace HO567 := Aside0.mk (Kd.R_below (zR HO567) hb)
       replace HO570 := Aside0.mk (Kd.R_below (zR HO570) hb)
       replace HO573 := Aside0.mk (Kd.R_below (zR HO573) hb)
       replace HO582 := Aside0.mk (Kd.R_below (zR HO582) hb)
       replace HB := Aside0.mk (below_step (zB HB) hb)
       (try clear hb)
       obtain ⟨Ao143, co143, eo143⟩ := Kd.R_slice HO570.out
       (first | subst eo143 | (injection eo143 with f1_ f2_ f3_; have f4_ := f1_.symm; have f5_ := f3_.symm; clear f1_ f2_ f3_; subst f4_; subst f5_))
       refine hK.out _ _ trivial (fun hHeld => ?_)
       clear hK K
       refine zn 24 ?_; refine zp 10 25 HT_ ?_; refine zp 11 26 HT_ ?_; refine zp 12 27 HT_ ?_; refine zp 13 28 HT_ ?_; refine zp 14 29 HT_ ?_; refine zp 15 30 HT_ ?_; refine zp 16 31 HT_ ?_; refine zp 17 32 HT_ ?_; refine zu 18 33 HT_ ?_; refine zu 19 34 HT_ ?_; refine zu 20 35 HT_ ?_; refine zu 21 36 HT_ ?_; refine zu 22 37 HT_ ?_; refine zu 23 38 HT_ ?_; refine zp 24 39 HT_ ?_; refine zp 25 40 HT_ ?_; refine zu 26 41 HT_ ?_; refine zu 27 42 HT_ ?_; refine zu 28 43 HT_ ?_; refine zu 29 44 HT_ ?_; refine zu 30 45 HT_ ?_; refine zu 31 46 HT_ ?_; refine zp 32 47 HT_ ?_; refine zp 33 48 HT_ ?_; refine zu 34 49 HT_ ?_; refine zu 35 50 HT_ ?_; refine zu 36 51 HT_ ?_; refine zp 37 52 HT_ ?_; refine zp 38 0 HT_ ?_; refine zd HT_ ?_
       try go_wp2
       go_ret
       exact ⟨by first | rfl | (simp [errW_none, errW_some] <;> rfl) | (simp [*, errW_none, errW_some] <;> rfl), by repeat (first | (with_reducible first | exact HB.out | apply below_alloc | apply pw_below_drewN | apply below_drew1) | exact HB.out)⟩
 · replace c12 := Bool.eq_false_iff.mpr c12
   subst c12
   rw [if_neg zF] at H
   obtain rfl := Option.some.inj H
   go_enter Try.func36, Try.ntmps36
   try go_wp2_with (first | ((with_reducible refine gate_callee (f := 70) rfl ?_); refine goesL_ (some 3) rfl rfl Try.func70 (by kernel_rfl) rfl #[.int .u64 2] rfl (by (try simp only [List.map_toArray, List.map_cons, List.map_nil]); first | done | rfl | (simp only [List.length_drop, List.length_take]; rfl)) ?_; (with_reducible refine (intrusionlaw07_ip.calls 2 t544 t545 t546 _ A1.out).mono ?_); rintro e w144 ⟨rfl, hb⟩; refine ⟨_, rfl, ?_⟩; replace HB := Aside0.mk (below_step (zB HB) hb); (try clear hb)) | ((with_reducible refine gate_callee (f := 70) rfl ?_); refine goesL_ (some 4) rfl rfl Try.func70 (by kernel_rfl) rfl #[.int .u64 3] rfl (by (try simp only [List.map_toArray, List.map_cons, List.map_nil]); first | done | rfl | (simp only [List.length_drop, List.length_take]; rfl)) ?_; (with_reducible refine (intrusionlaw07_ip.calls 3 t547 t548 t549 _ A2.out).mono ?_); rintro e w145 ⟨rfl, hb⟩; refine ⟨_, rfl, ?_⟩; replace HB := Aside0.mk (below_step (zB HB) hb); (try clear hb)) | ((with_reducible refine gate_callee (f := 70) rfl ?_); refine goesL_ (some 6) rfl rfl Try.func70 (by kernel_rfl) rfl #[.int .u64 1] rfl (by (try simp only [List.map_toArray, List.map_cons, List.map_nil]); first | done | rfl | (simp only [List.length_drop, List.length_take]; rfl)) ?_; (with_reducible refine (intrusionlaw07_ip.calls 1 t550 t551 t552 _ A3.out).mono ?_); rintro e w146 ⟨rfl, hb⟩; refine ⟨_, rfl, ?_⟩; replace HB := Aside0.mk (below_step (zB HB) hb); (try clear hb)) | ((with_reducible refine gate_callee (f := 70) rfl ?_); refine goesL_ (some 7) rfl rfl Try.func70 (by kernel_rfl) rfl #[.int .u64 1] rfl (by (try simp only [List.map_toArray, List.map_cons, List.map_nil]); first | done | rfl | (simp only [List.length_drop, List.length_take]; rfl)) ?_; (with_reducible refine (intrusionlaw07_ip.calls 1 t553 t554 t555 _ A4.out).mono ?_); rintro e w147 ⟨rfl, hb⟩; refine ⟨_, rfl, ?_⟩; replace HB := Aside0.mk (below_step (zB HB) hb); (try clear hb)) | ((with_reducible refine gate_dst (N := 9) rfl ?_); (try (refine gate_guard (by rfl) ?_; dsimp only)); refine Kd.R_lit k66 _ 66 ?hg (N := 9) ?hd (xs := ([(⟨(⟨t544, t545, t546⟩ : S36), (⟨t547, t548, t549⟩ : S36)⟩ : S66), (⟨(⟨t550, t551, t552⟩ : S36), (⟨t553, t554, t555⟩ : S36)⟩ : S66)] : List (S66))) (inner := [.bool t544, .int .u64 t545, .int .u64 t546, .bool t547, .int .u64 t548, .int .u64 t549, .bool t550, .int .u64 t551, .int .u64 t552, .bool t553, .int .u64 t554, .int .u64 t555]) (ok := fun _ => True) (okp := fun _ => True) ?hr ?hp (fun _ hk => hk) trivial (Below.refl _ _) (Nat.le_refl _) (by simp) ?_; (case hd => rfl); (case hg => rfl); (case hr => first | (go_simp; done) | (go_simp; rfl)); (case hp => exact (Reps.c6 (show Kd.M k66 _ _ _ (⟨(⟨t544, t545, t546⟩ : S36), (⟨t547, t548, t549⟩ : S36)⟩ : S66) [.bool t544, .int .u64 t545, .int .u64 t546, .bool t547, .int .u64 t548, .int .u64 t549] from (k66_mkM _ _ _ (⟨(⟨t544, t545, t546⟩ : S36), (⟨t547, t548, t549⟩ : S36)⟩ : S66) )) (Reps.c6 (show Kd.M k66 _ _ _ (⟨(⟨t550, t551, t552⟩ : S36), (⟨t553, t554, t555⟩ : S36)⟩ : S66) [.bool t550, .int .u64 t551, .int .u64 t552, .bool t553, .int .u64 t554, .int .u64 t555] from (k66_mkM _ _ _ (⟨(⟨t550, t551, t552⟩ : S36), (⟨t553, t554, t555⟩ : S36)⟩ : S66) )) (Reps.none _ _)))); intro v557 w148 ho149 hb hg_ hnew_; clear hg_ hnew_; (first | rw [← Ny556.out] at ho149 | (simp only [Int.reduceToNat] at ho149; rw [← Ny556.out] at ho149)); have HO558 := Aside0.mk (Kd.R_lower ho149 (below_size (zB HB))); replace HB := Aside0.mk (below_step (zB HB) hb); clear hb ho149) | ((with_reducible refine gate_callee (f := 70) rfl ?_); refine goesL_ (some 10) rfl rfl Try.func70 (by kernel_rfl) rfl #[.int .u64 1] rfl (by (try simp only [List.map_toArray, List.map_cons, List.map_nil]); first | done | rfl | (simp only [List.length_drop, List.length_take]; rfl)) ?_; (with_reducible refine (intrusionlaw07_ip.calls 1 t559 t560 t561 _ A5.out).mono ?_); rintro e w150 ⟨rfl, hb⟩; refine ⟨_, rfl, ?_⟩; replace HO558 := Aside0.mk (Kd.R_below (zR HO558) hb); replace HB := Aside0.mk (below_step (zB HB) hb); (try clear hb)) | ((with_reducible refine gate_callee (f := 70) rfl ?_); refine goesL_ (some 11) rfl rfl Try.func70 (by kernel_rfl) rfl #[.int .u64 4] rfl (by (try simp only [List.map_toArray, List.map_cons, List.map_nil]); first | done | rfl | (simp only [List.length_drop, List.length_take]; rfl)) ?_; (with_reducible refine (intrusionlaw07_ip.calls 4 t562 t563 t564 _ A6.out).mono ?_); rintro e w151 ⟨rfl, hb⟩; refine ⟨_, rfl, ?_⟩; replace HO558 := Aside0.mk (Kd.R_below (zR HO558) hb); replace HB := Aside0.mk (below_step (zB HB) hb); (try clear hb)) | ((with_reducible refine gate_dst (N := 13) rfl ?_); (try (refine gate_guard (by rfl) ?_; dsimp only)); refine Kd.R_lit k66 _ 66 ?hg (N := 13) ?hd (xs := ([(⟨(⟨t559, t560, t561⟩ : S36), (⟨t562, t563, t564⟩ : S36)⟩ : S66)] : List (S66))) (inner := [.bool t559, .int .u64 t560, .int .u64 t561, .bool t562, .int .u64 t563, .int .u64 t564]) (ok := fun _ => True) (okp := fun _ => True) ?hr ?hp (fun _ hk => hk) trivial (Below.refl _ _) (Nat.le_refl _) (by simp) ?_; (case hd => rfl); (case hg => rfl); (case hr => first | (go_simp; done) | (go_simp; rfl)); (case hp => exact (Reps.c6 (show Kd.M k66 _ _ _ (⟨(⟨t559, t560, t561⟩ : S36), (⟨t562, t563, t564⟩ : S36)⟩ : S66) [.bool t559, .int .u64 t560, .int .u64 t561, .bool t562, .int .u64 t563, .int .u64 t564] from (k66_mkM _ _ _ (⟨(⟨t559, t560, t561⟩ : S36), (⟨t562, t563, t564⟩ : S36)⟩ : S66) )) (Reps.none _ _))); intro v566 w152 ho153 hb hg_ hnew_; clear hg_ hnew_; (first | rw [← Ny565.out] at ho153 | (simp only [Int.reduceToNat] at ho153; rw [← Ny565.out] at ho153)); have HO567 := Aside0.mk (Kd.R_lower (Kd.R_new' ho153 (Kd.R_lt (zR HO558))) (below_size (zB HB))); replace HO558 := Aside0.mk (Kd.R_elder' (zR HO558) (Kd.R_base ho153) hb); replace HB := Aside0.mk (below_step (zB HB) hb); clear hb ho153; obtain ⟨Ao154, co154, eo154⟩ := Kd.R_slice HO567.out; subst eo154) | ((with_reducible refine gate_callee (f := 46) rfl ?_); refine goesL_ (some 14) rfl rfl Try.func46 (by kernel_rfl) rfl #[.slice Ao154 y565.length co154] rfl (by (try simp only [List.map_toArray, List.map_cons, List.map_nil]); first | done | rfl | (simp only [List.length_drop, List.length_take]; rfl)) ?_; (with_reducible refine (addrset_Prefixes.calls k _ _ y565 t568 _ ?side1 ?side2 A7.out).mono ?_); (case side1 => repeat (first | exact (Kd.R_reads' HO567.out).2.2 | (with_reducible refine Kd.C_alloc ?_ _) | (with_reducible refine Kd.C_drewN ?_ _) | (with_reducible refine Kd.C_drew ?_))); (case side2 => exact (Kd.R_reads' HO567.out).2.1); rintro e w155 ⟨v569, rfl, ho0, hb⟩; refine ⟨_, rfl, ?_⟩; replace HO558 := Aside0.mk (Kd.R_below (zR HO558) hb); replace HO567 := Aside0.mk (Kd.R_below (zR HO567) hb); have HO570 := Aside0.mk (Kd.R_lower ho0 (below_size (zB HB))); replace HB := Aside0.mk (below_step (zB HB) hb); (try clear hb); (try clear ho0)))
   replace HO558 := Aside0.mk (Kd.R_drew HO558.out)
   replace HO567 := Aside0.mk (Kd.R_drew HO567.out)
   replace HO570 := Aside0.mk (Kd.R_drew HO570.out)
   replace HB := Aside0.mk (below_drew1 HB.out)
   obtain ⟨Ao157, co157, eo157⟩ := Kd.R_slice HO558.out
   (first | subst eo157 | (injection eo157 with f1_ f2_ f3_; have f4_ := f1_.symm; have f5_ := f3_.symm; clear f1_ f2_ f3_; subst f4_; subst f5_))
   refine start_ (n := 39) (S := fun w' => True) (ds := []) #[false, false, false, false, false, false, false, false, false, false, false, false, false, false, false, false, false, false, false, false, false, false, false, false, false, false, false, false, false, false, false, false, false, false, false, false, false, false, false] (by kernel_rfl) rfl rfl trivial (fun hHeld => ?_); refine with_tabW intrusionlaw07_awake.tab3 intrusionlaw07_awake.bits3 (fun HT_ HW_ => ?_)
   generalize w155.drew = w156 at HO558 HO567 HO570 HB hHeld ⊢
   refine zp 0 15 HT_ ?_; refine zo 1 16 HT_ (fun K hK => ?_)
   refine zg Try.func38 #[.slice Ao157 y556.length co157] ?_
   with_reducible refine (addrset_Normal.calls k _ _ y556 t571 _ ?side1 ?side2 A8.out).mono ?_
   (case side1 => repeat (first | exact (Kd.R_reads' HO558.out).2.2 | (with_reducible refine Kd.C_alloc ?_ _) | (with_reducible refine Kd.C_drewN ?_ _) | (with_reducible refine Kd.C_drew ?_)))
   (case side2 => exact (Kd.R_reads' HO558.out).2.1)
   rintro e w158 ⟨v572, rfl, ho0, hb⟩
   refine ⟨_, rfl, ?_⟩
   replace HO570 := Aside0.mk (Kd.R_below (zR HO570) hb)
   have HO573 := Aside0.mk (Kd.R_lower (Kd.R_new' (Kd.R_new' ho0 (Kd.R_lt (zR HO558))) (Kd.R_lt (zR HO567))) (below_size (zB HB)))
   replace HO558 := Aside0.mk (Kd.R_elder' (zR HO558) (Kd.R_base ho0) hb)
   replace HO567 := Aside0.mk (Kd.R_elder' (zR HO567) (Kd.R_base ho0) hb)
   replace HB := Aside0.mk (below_step (zB HB) hb)
   (try clear hb)
   (try clear ho0)
   refine hK.out _ _ trivial (fun hHeld => ?_)
   clear hK K
   refine zn 16 ?_; refine zo 2 17 HT_ (fun K hK => ?_)
   refine zg Try.func70 #[.int .u64 1] ?_
   with_reducible refine (intrusionlaw07_ip.calls 1 t574 t575 t576 _ A9.out).mono ?_
   rintro e w159 ⟨rfl, hb⟩
   refine ⟨_, rfl, ?_⟩
   replace HO558 := Aside0.mk (Kd.R_below (zR HO558) hb)
   replace HO567 := Aside0.mk (Kd.R_below (zR HO567) hb)
   replace HO570 := Aside0.mk (Kd.R_below (zR HO570) hb)
   replace HO573 := Aside0.mk (Kd.R_below (zR HO573) hb)
   replace HB := Aside0.mk (below_step (zB HB) hb)
   (try clear hb)
   refine hK.out _ _ trivial (fun hHeld => ?_)
   clear hK K
   refine zn 17 ?_; refine zo 3 18 HT_ (fun K hK => ?_)
   refine zg Try.func70 #[.int .u64 3] ?_
   with_reducible refine (intrusionlaw07_ip.calls 3 t577 t578 t579 _ A10.out).mono ?_
   rintro e w160 ⟨rfl, hb⟩
   refine ⟨_, rfl, ?_⟩
   replace HO558 := Aside0.mk (Kd.R_below (zR HO558) hb)
   replace HO567 := Aside0.mk (Kd.R_below (zR HO567) hb)
   replace HO570 := Aside0.mk (Kd.R_below (zR HO570) hb)
   replace HO573 := Aside0.mk (Kd.R_below (zR HO573) hb)
   replace HB := Aside0.mk (below_step (zB HB) hb)
   (try clear hb)
   refine hK.out _ _ trivial (fun hHeld => ?_)
   clear hK K
   refine zn 18 ?_; refine zp 4 19 HT_ ?_; refine zo 5 20 HT_ (fun K hK => ?_)
   refine Kd.R_lit_step k66 _ 66 ?hg (N := 20) ?hd (xs := ([(⟨(⟨t574, t575, t576⟩ : S36), (⟨t577, t578, t579⟩ : S36)⟩ : S66)] : List (S66))) (inner := [.bool t574, .int .u64 t575, .int .u64 t576, .bool t577, .int .u64 t578, .int .u64 t579]) (ok := fun _ => True) (okp := fun _ => True) ?hr ?hp (fun _ hk => hk) trivial (Below.refl _ _) (Nat.le_refl _) (by simp) ?_; (case hd => rfl); (case hg => rfl); (case hr => first | (go_simp; done) | (go_simp; rfl)); (case hp => exact (Reps.c6 (show Kd.M k66 _ _ _ (⟨(⟨t574, t575, t576⟩ : S36), (⟨t577, t578, t579⟩ : S36)⟩ : S66) [.bool t574, .int .u64 t575, .int .u64 t576, .bool t577, .int .u64 t578, .int .u64 t579] from (k66_mkM _ _ _ (⟨(⟨t574, t575, t576⟩ : S36), (⟨t577, t578, t579⟩ : S36)⟩ : S66) )) (Reps.none _ _)))
   intro v581 w161 ho162 hb hg_ hnew_
   clear hg_ hnew_
   (first | rw [← Ny580.out] at ho162 | (simp only [Int.reduceToNat] at ho162; rw [← Ny580.out] at ho162))
   replace HO570 := Aside0.mk (Kd.R_below (zR HO570) hb)
   have HO582 := Aside0.mk (Kd.R_lower (Kd.R_new' (Kd.R_new' (Kd.R_new' ho162 (Kd.R_lt (zR HO558))) (Kd.R_lt (zR HO567))) (Kd.R_lt (zR HO573))) (below_size (zB HB)))
   replace HO558 := Aside0.mk (Kd.R_elder' (zR HO558) (Kd.R_base ho162) hb)
   replace HO567 := Aside0.mk (Kd.R_elder' (zR HO567) (Kd.R_base ho162) hb)
   replace HO573 := Aside0.mk (Kd.R_elder' (zR HO573) (Kd.R_base ho162) hb)
   replace HB := Aside0.mk (below_step (zB HB) hb)
   clear hb ho162
   obtain ⟨Ao163, co163, eo163⟩ := Kd.R_slice HO573.out
   (first | subst eo163 | (injection eo163 with f1_ f2_ f3_; have f4_ := f1_.symm; have f5_ := f3_.symm; clear f1_ f2_ f3_; subst f4_; subst f5_))
   obtain ⟨Ao164, co164, eo164⟩ := Kd.R_slice HO582.out
   (first | subst eo164 | (injection eo164 with f1_ f2_ f3_; have f4_ := f1_.symm; have f5_ := f3_.symm; clear f1_ f2_ f3_; subst f4_; subst f5_))
   refine hK.out _ _ trivial (fun hHeld => ?_)
   clear hK K
   refine zn 20 ?_; refine zo 6 21 HT_ (fun K hK => ?_)
   refine zg Try.func37 #[.slice Ao163 t571.length co163, .slice Ao164 y580.length co164] ?_
   with_reducible refine (intrusionref07_Same.calls k _ _ t571 _ _ y580 false _ ?side1 ?side2 ?side3 ?side4 A11.out).mono ?_
   (case side1 => repeat (first | exact (Kd.R_reads' HO573.out).2.2 | (with_reducible refine Kd.C_alloc ?_ _) | (with_reducible refine Kd.C_drewN ?_ _) | (with_reducible refine Kd.C_drew ?_)))
   (case side2 => exact (Kd.R_reads' HO573.out).2.1)
   (case side3 => repeat (first | exact (Kd.R_reads' HO582.out).2.2 | (with_reducible refine Kd.C_alloc ?_ _) | (with_reducible refine Kd.C_drewN ?_ _) | (with_reducible refine Kd.C_drew ?_)))
   (case side4 => exact (Kd.R_reads' HO582.out).2.1)
   rintro e w' ⟨rfl, ⟨nd, rfl⟩⟩
   refine ⟨_, rfl, ?_⟩
   refine hK.out _ _ trivial (fun hHeld => ?_)
   clear hK K
   refine zn 21 ?_; refine zp 7 22 HT_ ?_; refine zu 8 23 HT_ ?_; refine zu 9 24 HT_ ?_; refine zu 10 25 HT_ ?_; refine zp 11 26 HT_ ?_; refine zp 12 27 HT_ ?_; refine zu 13 28 HT_ ?_; refine zu 14 29 HT_ ?_; refine zu 15 30 HT_ ?_; refine zp 16 31 HT_ ?_; refine zp 17 32 HT_ ?_; refine zu 18 33 HT_ ?_; refine zu 19 34 HT_ ?_; refine zu 20 35 HT_ ?_; refine zu 21 36 HT_ ?_; refine zu 22 37 HT_ ?_; refine zu 23 38 HT_ ?_; refine zp 24 39 HT_ ?_; refine zp 25 40 HT_ ?_; refine zu 26 41 HT_ ?_; refine zu 27 42 HT_ ?_; refine zu 28 43 HT_ ?_; refine zu 29 44 HT_ ?_; refine zu 30 45 HT_ ?_; refine zu 31 46 HT_ ?_; refine zp 32 47 HT_ ?_; refine zp 33 48 HT_ ?_; refine zu 34 49 HT_ ?_; refine zu 35 50 HT_ ?_; refine zu 36 51 HT_ ?_; refine zp 37 52 HT_ ?_; refine zp 38 0 HT_ ?_; refine zd HT_ ?_
   try go_wp2
   go_ret
   exact ⟨by first | rfl | (simp [errW_none, errW_some] <;> rfl) | (simp [*, errW_none, errW_some] <;> rfl), by repeat (first | (with_reducible first | exact HB.out | apply below_alloc | apply pw_below_drewN | apply below_drew1) | exact HB.out)⟩
end Go.Proofs.Ytcgfpffgiimgmaa.Q
end

section
namespace Go.Proofs.Ytcgfpffgiimgmaa.Q
open Go.RowKit Go.Proofs.YtcgfpffgiimgmaaW.PrintWords Go.Proofs.YtcgfpffgiimgmaaW.PrintLast Go.Proofs.YtcgfpffgiimgmaaW.PrintMore
attribute [local go_sem] max2_int min2_int max_two min_two max_three min_three max_four min_four
set_option linter.unusedVariables false
set_option linter.unusedSimpArgs false
def address_ValidPrefix.f (a0_0 : Bool) (a0_1 : Int) (a0_2 : Int) (a0_3 : Int) : Option (Bool) := (address_Valid.f a0_0 a0_1 a0_2).bind fun t726 => (if t726 = true then (if a0_3 < 0 then (some false) else ((address_size.f a0_0 a0_1 a0_2).bind fun t727 => (if a0_3 > t727 then (some false) else ((address_mask.f a0_0 a0_1 a0_2 a0_3).bind fun bt728 => (if (Go.bits .and .u64 a0_1 bt728.1) = 0 then (some ((Go.bits .and .u64 a0_2 bt728.2) == 0)) else (some false)))))) else (some false))
def address_ValidPrefix.T1 : Bool × List (List Nat × List Nat) := (true, [([], []), ([0], [0]), ([1], [1]), ([2], [2]), ([3, 2], [3]), ([4], [4]), ([5, 4], [4, 5]), ([6, 4], [4, 6]), ([4, 7], [4, 7]), ([8, 4], [8]), ([9], [9]), ([10, 9], [9, 10]), ([9], [9]), ([12, 9], [9, 12]), ([13, 9, 9], [9, 13]), ([11, 14, 9], [9, 11, 14]), ([9, 15], [9, 15])])
def address_ValidPrefix.B1 : List Nat := [0, 1, 3, 7, 15, 31, 63, 127, 255, 511, 1023, 2047, 1023, 5119, 13311, 32767, 65535]
theorem address_ValidPrefix.tab1 : rtab .any (opsOf Try.f92 1) = address_ValidPrefix.T1 := by kernel_rfl
theorem address_ValidPrefix.bits1 : waitsOk address_ValidPrefix.T1.2 address_ValidPrefix.B1 = true := by kernel_rfl
set_option maxHeartbeats 8000000 in
set_option maxRecDepth 100000 in
theorem address_ValidPrefix.calls (a0_0 : Bool) (a0_1 : Int) (a0_2 : Int) (a0_3 : Int) (r : Bool) (w : World) (h : address_ValidPrefix.f a0_0 a0_1 a0_2 a0_3 = some r) :
 Calls Try.prog 92 #[.agg #[.bool a0_0, .int .u64 a0_1, .int .u64 a0_2, .int .i64 a0_3]] w fun e w' => e = .returned (.bool r) ∧ Below w.heap.size w w' := by
 have hu45 := Try.underlying45
 have hu36 := Try.underlying36
 have HB := Aside0.mk (Below.refl w.heap.size w)
 unfold address_ValidPrefix.f at h; have H := h
 clear h
 replace H := Option.bind_eq_some_iff.mp H
 obtain ⟨t726, A20, H⟩ := H
 try dsimp only at H
 have A2 := Aside0.mk A20
 clear A20
 by_cases c3 : t726 = true
 · subst c3
   rw [if_pos rfl] at H
   by_cases c4 : a0_3 < 0
   · rw [if_pos c4] at H
     have c4b0 : decide (a0_3 < 0) = true := decide_eq_true c4
     clear c4
     obtain rfl := Option.some.inj H
     go_enter Try.func92, Try.ntmps92
     try go_wp2_with (first | ((with_reducible refine gate_dst (N := 1) rfl ?_); refine zx 1 #[.bool a0_0, .int .u64 a0_1, .int .u64 a0_2, .int .i64 a0_3] 45 ?_; intro gb725 hg w5 hbox hb; have BK725 := Aside0.mk (hbox); have GW725 := Aside0.mk ((by rw [hg]; exact (below_size (zB HB)) : w.heap.size ≤ gb725)); have GE725 := Aside0.mk ((by rw [hg]; exact (below_size (zB HB)) : w.heap.size ≤ gb725)); replace HB := Aside0.mk (below_step (zB HB) hb); clear hb hbox hg))
     replace BK725 := Aside0.mk (blk_drew BK725.out)
     replace HB := Aside0.mk (below_drew1 HB.out)
     refine start_ (n := 17) (S := fun w' => w'.cell? ⟨gb725, 0, none⟩ = some (.bool a0_0) ∧ w'.cell? ⟨gb725, 1, none⟩ = some (.int .u64 a0_1) ∧ w'.cell? ⟨gb725, 2, none⟩ = some (.int .u64 a0_2) ∧ w'.cell? ⟨gb725, 3, none⟩ = some (.int .i64 a0_3)) (ds := []) #[false, false, false, false, false, false, false, false, false, false, false, false, false, false, false, false, false] (by kernel_rfl) rfl rfl ⟨zc BK725 0, zc BK725 1, zc BK725 2, zc BK725 3⟩ (fun hHeld => ?_); refine with_tabW address_ValidPrefix.tab1 address_ValidPrefix.bits1 (fun HT_ HW_ => ?_)
     generalize w5.drew = w6 at BK725 HB hHeld ⊢
     refine zp 0 5 HT_ ?_; refine zt 1 6 HT_ HW_ hHeld ?_; refine zo 2 7 HT_ (fun K hK => ?_)
     refine zg Try.func82 #[.agg #[.bool a0_0, .int .u64 a0_1, .int .u64 a0_2]] ?_
     with_reducible refine (address_Valid.calls a0_0 a0_1 a0_2 true _ A2.out).mono ?_
     rintro e w7 ⟨rfl, hb⟩
     refine ⟨_, rfl, ?_⟩
     replace BK725 := Aside0.mk (blk_below (g := gb725) (o := .cells #[.bool a0_0, .int .u64 a0_1, .int .u64 a0_2, .int .i64 a0_3] 45 (0, 0)) (zK BK725) hb)
     replace HB := Aside0.mk (below_step (zB HB) hb)
     (try clear hb)
     refine hK.out _ _ ⟨zc BK725 0, zc BK725 1, zc BK725 2, zc BK725 3⟩ (fun hHeld => ?_)
     clear hK K
     refine zn 7 ?_; refine zp 3 8 HT_ ?_; refine zp 4 9 HT_ ?_; refine zp 5 10 HT_ ?_; refine zt 6 11 HT_ HW_ hHeld ?_; refine zp 7 12 HT_ ?_; refine zp 8 13 HT_ ?_; refine zp 9 14 HT_ ?_; refine zu 10 15 HT_ ?_; refine zu 11 16 HT_ ?_; refine zu 12 17 HT_ ?_; refine zu 13 18 HT_ ?_; refine zu 14 19 HT_ ?_; refine zu 15 20 HT_ ?_; refine zp 16 21 HT_ ?_; refine zd HT_ ?_
     try go_wp2
     go_ret
     exact ⟨by first | rfl | (simp [errW_none, errW_some] <;> rfl) | (simp [*, errW_none, errW_some] <;> rfl), by repeat (first | (with_reducible first | exact HB.out | apply below_alloc | apply pw_below_drewN | apply below_drew1 | refine below_set ?_ GE725.out) | exact HB.out)⟩
   · rw [if_neg c4] at H
     have c4b0 : decide (a0_3 < 0) = false := decide_eq_false c4
     clear c4
     replace H := Option.bind_eq_some_iff.mp H
     obtain ⟨t727, A80, H⟩ := H
     try dsimp only at H
     have A8 := Aside0.mk A80
     clear A80
     by_cases c9 : a0_3 > t727
     · rw [if_pos c9] at H
       have c9b0 : decide (t727 < a0_3) = true := decide_eq_true c9
       clear c9
       obtain rfl := Option.some.inj H
       go_enter Try.func92, Try.ntmps92
       try go_wp2_with (first | ((with_reducible refine gate_dst (N := 1) rfl ?_); refine zx 1 #[.bool a0_0, .int .u64 a0_1, .int .u64 a0_2, .int .i64 a0_3] 45 ?_; intro gb725 hg w10 hbox hb; have BK725 := Aside0.mk (hbox); have GW725 := Aside0.mk ((by rw [hg]; exact (below_size (zB HB)) : w.heap.size ≤ gb725)); have GE725 := Aside0.mk ((by rw [hg]; exact (below_size (zB HB)) : w.heap.size ≤ gb725)); replace HB := Aside0.mk (below_step (zB HB) hb); clear hb hbox hg))
       replace BK725 := Aside0.mk (blk_drew BK725.out)
       replace HB := Aside0.mk (below_drew1 HB.out)
       refine start_ (n := 17) (S := fun w' => w'.cell? ⟨gb725, 0, none⟩ = some (.bool a0_0) ∧ w'.cell? ⟨gb725, 1, none⟩ = some (.int .u64 a0_1) ∧ w'.cell? ⟨gb725, 2, none⟩ = some (.int .u64 a0_2) ∧ w'.cell? ⟨gb725, 3, none⟩ = some (.int .i64 a0_3)) (ds := []) #[false, false, false, false, false, false, false, false, false, false, false, false, false, false, false, false, false] (by kernel_rfl) rfl rfl ⟨zc BK725 0, zc BK725 1, zc BK725 2, zc BK725 3⟩ (fun hHeld => ?_); refine with_tabW address_ValidPrefix.tab1 address_ValidPrefix.bits1 (fun HT_ HW_ => ?_)
       generalize w10.drew = w11 at BK725 HB hHeld ⊢
       refine zp 0 5 HT_ ?_; refine zt 1 6 HT_ HW_ hHeld ?_; refine zo 2 7 HT_ (fun K hK => ?_)
       refine zg Try.func82 #[.agg #[.bool a0_0, .int .u64 a0_1, .int .u64 a0_2]] ?_
       with_reducible refine (address_Valid.calls a0_0 a0_1 a0_2 true _ A2.out).mono ?_
       rintro e w12 ⟨rfl, hb⟩
       refine ⟨_, rfl, ?_⟩
       replace BK725 := Aside0.mk (blk_below (g := gb725) (o := .cells #[.bool a0_0, .int .u64 a0_1, .int .u64 a0_2, .int .i64 a0_3] 45 (0, 0)) (zK BK725) hb)
       replace HB := Aside0.mk (below_step (zB HB) hb)
       (try clear hb)
       refine hK.out _ _ ⟨zc BK725 0, zc BK725 1, zc BK725 2, zc BK725 3⟩ (fun hHeld => ?_)
       clear hK K
       refine zn 7 ?_; refine zp 3 8 HT_ ?_; refine zp 4 9 HT_ ?_; refine zp 5 10 HT_ ?_; refine zt 6 11 HT_ HW_ hHeld ?_; refine zp 7 12 HT_ ?_; refine zp 8 13 HT_ ?_; refine zp 9 14 HT_ ?_; refine zp 10 15 HT_ ?_; refine zp 12 17 HT_ ?_; refine zt 11 16 HT_ HW_ hHeld ?_; refine zt 13 18 HT_ HW_ hHeld ?_; refine zo 14 19 HT_ (fun K hK => ?_)
       refine zg Try.func113 #[.agg #[.bool a0_0, .int .u64 a0_1, .int .u64 a0_2]] ?_
       with_reducible refine (address_size.calls a0_0 a0_1 a0_2 t727 _ A8.out).mono ?_
       rintro e w13 ⟨rfl, hb⟩
       refine ⟨_, rfl, ?_⟩
       replace BK725 := Aside0.mk (blk_below (g := gb725) (o := .cells #[.bool a0_0, .int .u64 a0_1, .int .u64 a0_2, .int .i64 a0_3] 45 (0, 0)) (zK BK725) hb)
       replace HB := Aside0.mk (below_step (zB HB) hb)
       (try clear hb)
       refine hK.out _ _ ⟨zc BK725 0, zc BK725 1, zc BK725 2, zc BK725 3⟩ (fun hHeld => ?_)
       clear hK K
       refine zn 19 ?_; refine zp 15 20 HT_ ?_; refine zp 16 21 HT_ ?_; refine zd HT_ ?_
       try go_wp2
       go_ret
       exact ⟨by first | rfl | (simp [errW_none, errW_some] <;> rfl) | (simp [*, errW_none, errW_some] <;> rfl), by repeat (first | (with_reducible first | exact HB.out | apply below_alloc | apply pw_below_drewN | apply below_drew1 | refine below_set ?_ GE725.out) | exact HB.out)⟩
     · rw [if_neg c9] at H
       have c9b0 : decide (t727 < a0_3) = false := decide_eq_false c9
       clear c9
       replace H := Option.bind_eq_some_iff.mp H
       obtain ⟨⟨t728, t729⟩, A140, H⟩ := H
       try dsimp only at H
       have A14 := Aside0.mk A140
       clear A140
       by_cases c15 : (Go.bits .and .u64 a0_1 t728) = 0
       · rw [if_pos c15] at H
         have c15b0 : ((Go.bits .and .u64 a0_1 t728) == 0) = true := beq_iff_eq.mpr c15
         have c15b1 : ((Go.bits .and .u64 a0_1 t728) != 0) = false := bne_eq_false_iff_eq.mpr c15
         clear c15
         obtain rfl := Option.some.inj H
         go_enter Try.func92, Try.ntmps92
         try go_wp2_with (first | ((with_reducible refine gate_dst (N := 1) rfl ?_); refine zx 1 #[.bool a0_0, .int .u64 a0_1, .int .u64 a0_2, .int .i64 a0_3] 45 ?_; intro gb725 hg w16 hbox hb; have BK725 := Aside0.mk (hbox); have GW725 := Aside0.mk ((by rw [hg]; exact (below_size (zB HB)) : w.heap.size ≤ gb725)); have GE725 := Aside0.mk ((by rw [hg]; exact (below_size (zB HB)) : w.heap.size ≤ gb725)); replace HB := Aside0.mk (below_step (zB HB) hb); clear hb hbox hg))
         replace BK725 := Aside0.mk (blk_drew BK725.out)
         replace HB := Aside0.mk (below_drew1 HB.out)
         refine start_ (n := 17) (S := fun w' => w'.cell? ⟨gb725, 0, none⟩ = some (.bool a0_0) ∧ w'.cell? ⟨gb725, 1, none⟩ = some (.int .u64 a0_1) ∧ w'.cell? ⟨gb725, 2, none⟩ = some (.int .u64 a0_2) ∧ w'.cell? ⟨gb725, 3, none⟩ = some (.int .i64 a0_3)) (ds := []) #[false, false, false, false, false, false, false, false, false, false, false, false, false, false, false, false, false] (by kernel_rfl) rfl rfl ⟨zc BK725 0, zc BK725 1, zc BK725 2, zc BK725 3⟩ (fun hHeld => ?_); refine with_tabW address_ValidPrefix.tab1 address_ValidPrefix.bits1 (fun HT_ HW_ => ?_)
         generalize w16.drew = w17 at BK725 HB hHeld ⊢
         refine zp 0 5 HT_ ?_; refine zt 1 6 HT_ HW_ hHeld ?_; refine zo 2 7 HT_ (fun K hK => ?_)
         refine zg Try.func82 #[.agg #[.bool a0_0, .int .u64 a0_1, .int .u64 a0_2]] ?_
         with_reducible refine (address_Valid.calls a0_0 a0_1 a0_2 true _ A2.out).mono ?_
         rintro e w18 ⟨rfl, hb⟩
         refine ⟨_, rfl, ?_⟩
         replace BK725 := Aside0.mk (blk_below (g := gb725) (o := .cells #[.bool a0_0, .int .u64 a0_1, .int .u64 a0_2, .int .i64 a0_3] 45 (0, 0)) (zK BK725) hb)
         replace HB := Aside0.mk (below_step (zB HB) hb)
         (try clear hb)
         refine hK.out _ _ ⟨zc BK725 0, zc BK725 1, zc BK725 2, zc BK725 3⟩ (fun hHeld => ?_)
         clear hK K
         refine zn 7 ?_; refine zp 3 8 HT_ ?_; refine zp 4 9 HT_ ?_; refine zp 5 10 HT_ ?_; refine zt 6 11 HT_ HW_ hHeld ?_; refine zp 7 12 HT_ ?_; refine zp 8 13 HT_ ?_; refine zp 9 14 HT_ ?_; refine zp 10 15 HT_ ?_; refine zp 12 17 HT_ ?_; refine zt 11 16 HT_ HW_ hHeld ?_; refine zt 13 18 HT_ HW_ hHeld ?_; refine zo 14 19 HT_ (fun K hK => ?_)
         refine zg Try.func113 #[.agg #[.bool a0_0, .int .u64 a0_1, .int .u64 a0_2]] ?_
         with_reducible refine (address_size.calls a0_0 a0_1 a0_2 t727 _ A8.out).mono ?_
         rintro e w19 ⟨rfl, hb⟩
         refine ⟨_, rfl, ?_⟩
         replace BK725 := Aside0.mk (blk_below (g := gb725) (o := .cells #[.bool a0_0, .int .u64 a0_1, .int .u64 a0_2, .int .i64 a0_3] 45 (0, 0)) (zK BK725) hb)
         replace HB := Aside0.mk (below_step (zB HB) hb)
         (try clear hb)
         refine hK.out _ _ ⟨zc BK725 0, zc BK725 1, zc BK725 2, zc BK725 3⟩ (fun hHeld => ?_)
         clear hK K
         refine zn 19 ?_; refine zp 15 20 HT_ ?_; refine zp 16 21 HT_ ?_; refine zd HT_ ?_
         obtain ⟨hcz20_0, hcz20_1, hcz20_2, hcz20_3⟩ := zc4 BK725
         obtain ⟨hfz20_0, hfz20_1, hfz20_2, hfz20_3⟩ := zf4 BK725
         try go_wp2_with (first | ((with_reducible refine gate_callee (f := 109) rfl ?_); refine goesL_ (some 27) rfl rfl Try.func109 (by kernel_rfl) rfl #[.agg #[.bool a0_0, .int .u64 a0_1, .int .u64 a0_2], .int .i64 a0_3] rfl (by (try simp only [List.map_toArray, List.map_cons, List.map_nil]); first | done | rfl | (simp only [List.length_drop, List.length_take]; rfl)) ?_; (with_reducible refine (address_mask.calls a0_0 a0_1 a0_2 a0_3 t728 t729 _ A14.out).mono ?_); rintro e w21 ⟨rfl, hb⟩; refine ⟨_, rfl, ?_⟩; replace BK725 := Aside0.mk (blk_below (g := gb725) (o := .cells #[.bool a0_0, .int .u64 a0_1, .int .u64 a0_2, .int .i64 a0_3] 45 (0, 0)) (zK BK725) hb); replace HB := Aside0.mk (below_step (zB HB) hb); (try clear hb); obtain ⟨hcz22_0, hcz22_1, hcz22_2, hcz22_3⟩ := zc4 BK725; obtain ⟨hfz22_0, hfz22_1, hfz22_2, hfz22_3⟩ := zf4 BK725))
         go_ret
         exact ⟨by first | rfl | (simp [errW_none, errW_some] <;> rfl) | (simp [*, errW_none, errW_some] <;> rfl), by repeat (first | (with_reducible first | exact HB.out | apply below_alloc | apply pw_below_drewN | apply below_drew1 | refine below_set ?_ GE725.out) | exact HB.out)⟩
       · rw [if_neg c15] at H
         have c15b0 : ((Go.bits .and .u64 a0_1 t728) == 0) = false := beq_eq_false_iff_ne.mpr c15
         have c15b1 : ((Go.bits .and .u64 a0_1 t728) != 0) = true := bne_iff_ne.mpr c15
         obtain rfl := Option.some.inj H
         go_enter Try.func92, Try.ntmps92
         try go_wp2_with (first | ((with_reducible refine gate_dst (N := 1) rfl ?_); refine zx 1 #[.bool a0_0, .int .u64 a0_1, .int .u64 a0_2, .int .i64 a0_3] 45 ?_; intro gb725 hg w23 hbox hb; have BK725 := Aside0.mk (hbox); have GW725 := Aside0.mk ((by rw [hg]; exact (below_size (zB HB)) : w.heap.size ≤ gb725)); have GE725 := Aside0.mk ((by rw [hg]; exact (below_size (zB HB)) : w.heap.size ≤ gb725)); replace HB := Aside0.mk (below_step (zB HB) hb); clear hb hbox hg))
         replace BK725 := Aside0.mk (blk_drew BK725.out)
         replace HB := Aside0.mk (below_drew1 HB.out)
         refine start_ (n := 17) (S := fun w' => w'.cell? ⟨gb725, 0, none⟩ = some (.bool a0_0) ∧ w'.cell? ⟨gb725, 1, none⟩ = some (.int .u64 a0_1) ∧ w'.cell? ⟨gb725, 2, none⟩ = some (.int .u64 a0_2) ∧ w'.cell? ⟨gb725, 3, none⟩ = some (.int .i64 a0_3)) (ds := []) #[false, false, false, false, false, false, false, false, false, false, false, false, false, false, false, false, false] (by kernel_rfl) rfl rfl ⟨zc BK725 0, zc BK725 1, zc BK725 2, zc BK725 3⟩ (fun hHeld => ?_); refine with_tabW address_ValidPrefix.tab1 address_ValidPrefix.bits1 (fun HT_ HW_ => ?_)
         generalize w23.drew = w24 at BK725 HB hHeld ⊢
         refine zp 0 5 HT_ ?_; refine zt 1 6 HT_ HW_ hHeld ?_; refine zo 2 7 HT_ (fun K hK => ?_)
         refine zg Try.func82 #[.agg #[.bool a0_0, .int .u64 a0_1, .int .u64 a0_2]] ?_
         with_reducible refine (address_Valid.calls a0_0 a0_1 a0_2 true _ A2.out).mono ?_
         rintro e w25 ⟨rfl, hb⟩
         refine ⟨_, rfl, ?_⟩
         replace BK725 := Aside0.mk (blk_below (g := gb725) (o := .cells #[.bool a0_0, .int .u64 a0_1, .int .u64 a0_2, .int .i64 a0_3] 45 (0, 0)) (zK BK725) hb)
         replace HB := Aside0.mk (below_step (zB HB) hb)
         (try clear hb)
         refine hK.out _ _ ⟨zc BK725 0, zc BK725 1, zc BK725 2, zc BK725 3⟩ (fun hHeld => ?_)
         clear hK K
         refine zn 7 ?_; refine zp 3 8 HT_ ?_; refine zp 4 9 HT_ ?_; refine zp 5 10 HT_ ?_; refine zt 6 11 HT_ HW_ hHeld ?_; refine zp 7 12 HT_ ?_; refine zp 8 13 HT_ ?_; refine zp 9 14 HT_ ?_; refine zp 10 15 HT_ ?_; refine zp 12 17 HT_ ?_; refine zt 11 16 HT_ HW_ hHeld ?_; refine zt 13 18 HT_ HW_ hHeld ?_; refine zo 14 19 HT_ (fun K hK => ?_)
         refine zg Try.func113 #[.agg #[.bool a0_0, .int .u64 a0_1, .int .u64 a0_2]] ?_
         with_reducible refine (address_size.calls a0_0 a0_1 a0_2 t727 _ A8.out).mono ?_
         rintro e w26 ⟨rfl, hb⟩
         refine ⟨_, rfl, ?_⟩
         replace BK725 := Aside0.mk (blk_below (g := gb725) (o := .cells #[.bool a0_0, .int .u64 a0_1, .int .u64 a0_2, .int .i64 a0_3] 45 (0, 0)) (zK BK725) hb)
         replace HB := Aside0.mk (below_step (zB HB) hb)
         (try clear hb)
         refine hK.out _ _ ⟨zc BK725 0, zc BK725 1, zc BK725 2, zc BK725 3⟩ (fun hHeld => ?_)
         clear hK K
         refine zn 19 ?_; refine zp 15 20 HT_ ?_; refine zp 16 21 HT_ ?_; refine zd HT_ ?_
         obtain ⟨hcz27_0, hcz27_1, hcz27_2, hcz27_3⟩ := zc4 BK725
         obtain ⟨hfz27_0, hfz27_1, hfz27_2, hfz27_3⟩ := zf4 BK725
         try go_wp2_with (first | ((with_reducible refine gate_callee (f := 109) rfl ?_); refine goesL_ (some 27) rfl rfl Try.func109 (by kernel_rfl) rfl #[.agg #[.bool a0_0, .int .u64 a0_1, .int .u64 a0_2], .int .i64 a0_3] rfl (by (try simp only [List.map_toArray, List.map_cons, List.map_nil]); first | done | rfl | (simp only [List.length_drop, List.length_take]; rfl)) ?_; (with_reducible refine (address_mask.calls a0_0 a0_1 a0_2 a0_3 t728 t729 _ A14.out).mono ?_); rintro e w28 ⟨rfl, hb⟩; refine ⟨_, rfl, ?_⟩; replace BK725 := Aside0.mk (blk_below (g := gb725) (o := .cells #[.bool a0_0, .int .u64 a0_1, .int .u64 a0_2, .int .i64 a0_3] 45 (0, 0)) (zK BK725) hb); replace HB := Aside0.mk (below_step (zB HB) hb); (try clear hb); obtain ⟨hcz29_0, hcz29_1, hcz29_2, hcz29_3⟩ := zc4 BK725; obtain ⟨hfz29_0, hfz29_1, hfz29_2, hfz29_3⟩ := zf4 BK725))
         go_ret
         exact ⟨by first | rfl | (simp [errW_none, errW_some] <;> rfl) | (simp [*, errW_none, errW_some] <;> rfl), by repeat (first | (with_reducible first | exact HB.out | apply below_alloc | apply pw_below_drewN | apply below_drew1 | refine below_set ?_ GE725.out) | exact HB.out)⟩
 · replace c3 := Bool.eq_false_iff.mpr c3
   subst c3
   rw [if_neg zF] at H
   obtain rfl := Option.some.inj H
   go_enter Try.func92, Try.ntmps92
   try go_wp2_with (first | ((with_reducible refine gate_dst (N := 1) rfl ?_); refine zx 1 #[.bool a0_0, .int .u64 a0_1, .int .u64 a0_2, .int .i64 a0_3] 45 ?_; intro gb725 hg w30 hbox hb; have BK725 := Aside0.mk (hbox); have GW725 := Aside0.mk ((by rw [hg]; exact (below_size (zB HB)) : w.heap.size ≤ gb725)); have GE725 := Aside0.mk ((by rw [hg]; exact (below_size (zB HB)) : w.heap.size ≤ gb725)); replace HB := Aside0.mk (below_step (zB HB) hb); clear hb hbox hg))
   replace BK725 := Aside0.mk (blk_drew BK725.out)
   replace HB := Aside0.mk (below_drew1 HB.out)
   refine start_ (n := 17) (S := fun w' => w'.cell? ⟨gb725, 0, none⟩ = some (.bool a0_0) ∧ w'.cell? ⟨gb725, 1, none⟩ = some (.int .u64 a0_1) ∧ w'.cell? ⟨gb725, 2, none⟩ = some (.int .u64 a0_2) ∧ w'.cell? ⟨gb725, 3, none⟩ = some (.int .i64 a0_3)) (ds := []) #[false, false, false, false, false, false, false, false, false, false, false, false, false, false, false, false, false] (by kernel_rfl) rfl rfl ⟨zc BK725 0, zc BK725 1, zc BK725 2, zc BK725 3⟩ (fun hHeld => ?_); refine with_tabW address_ValidPrefix.tab1 address_ValidPrefix.bits1 (fun HT_ HW_ => ?_)
   generalize w30.drew = w31 at BK725 HB hHeld ⊢
   refine zp 0 5 HT_ ?_; refine zt 1 6 HT_ HW_ hHeld ?_; refine zo 2 7 HT_ (fun K hK => ?_)
   refine zg Try.func82 #[.agg #[.bool a0_0, .int .u64 a0_1, .int .u64 a0_2]] ?_
   with_reducible refine (address_Valid.calls a0_0 a0_1 a0_2 false _ A2.out).mono ?_
   rintro e w32 ⟨rfl, hb⟩
   refine ⟨_, rfl, ?_⟩
   replace BK725 := Aside0.mk (blk_below (g := gb725) (o := .cells #[.bool a0_0, .int .u64 a0_1, .int .u64 a0_2, .int .i64 a0_3] 45 (0, 0)) (zK BK725) hb)
   replace HB := Aside0.mk (below_step (zB HB) hb)
   (try clear hb)
   refine hK.out _ _ ⟨zc BK725 0, zc BK725 1, zc BK725 2, zc BK725 3⟩ (fun hHeld => ?_)
   clear hK K
   refine zn 7 ?_; refine zp 3 8 HT_ ?_; refine zp 4 9 HT_ ?_; refine zu 5 10 HT_ ?_; refine zu 6 11 HT_ ?_; refine zu 7 12 HT_ ?_; refine zp 8 13 HT_ ?_; refine zp 9 14 HT_ ?_; refine zu 10 15 HT_ ?_; refine zu 11 16 HT_ ?_; refine zu 12 17 HT_ ?_; refine zu 13 18 HT_ ?_; refine zu 14 19 HT_ ?_; refine zu 15 20 HT_ ?_; refine zp 16 21 HT_ ?_; refine zd HT_ ?_
   try go_wp2
   go_ret
   exact ⟨by first | rfl | (simp [errW_none, errW_some] <;> rfl) | (simp [*, errW_none, errW_some] <;> rfl), by repeat (first | (with_reducible first | exact HB.out | apply below_alloc | apply pw_below_drewN | apply below_drew1 | refine below_set ?_ GE725.out) | exact HB.out)⟩
end Go.Proofs.Ytcgfpffgiimgmaa.Q
end

section
set_option linter.unusedVariables false
set_option linter.unusedSimpArgs false
namespace Go.Proofs.Ytcgfpffgiimgmaa.Q
open Go.RowKit Go.Proofs.YtcgfpffgiimgmaaW.PrintWords Go.Proofs.YtcgfpffgiimgmaaW.PrintLast Go.Proofs.YtcgfpffgiimgmaaW.PrintMore
def vpB (x : S45) : Bool := (address_ValidPrefix.f x.f0.f0 x.f0.f1 x.f0.f2 x.f1).getD false
theorem low_tot (n : Int) : ∃ b, address_low.f n = some b := by
  unfold address_low.f
  split
  · exact ⟨_, rfl⟩
  · split
    · exact ⟨_, rfl⟩
    · split
      · exact ⟨_, rfl⟩
      · omega
theorem vp_eq (x : S45) : address_ValidPrefix.f x.f0.f0 x.f0.f1 x.f0.f2 x.f1 = some (vpB x) := by
  unfold vpB
  suffices h : ∃ b, address_ValidPrefix.f x.f0.f0 x.f0.f1 x.f0.f2 x.f1 = some b by
    obtain ⟨b, hb⟩ := h
    rw [hb]; rfl
  have hs : ∃ n, address_size.f x.f0.f0 x.f0.f1 x.f0.f2 = some n := by
    unfold address_size.f
    split <;> exact ⟨_, rfl⟩
  obtain ⟨n, hn⟩ := hs
  have hm : ∃ m, address_mask.f x.f0.f0 x.f0.f1 x.f0.f2 x.f1 = some m := by
    unfold address_mask.f
    rw [hn]
    simp only [Option.bind_some]
    obtain ⟨b1, h1⟩ := low_tot (wrap64 ((wrap64 (n - x.f1)) - 64))
    obtain ⟨b2, h2⟩ := low_tot (wrap64 (n - x.f1))
    rw [h1, h2]
    exact ⟨_, rfl⟩
  obtain ⟨m, hm⟩ := hm
  unfold address_ValidPrefix.f
  rw [fine_eq x.f0, hn, hm]
  simp only [Option.bind_some]
  repeat' (first | exact ⟨_, rfl⟩ | split)
def addPrefix.T1 : Bool × List (List Nat × List Nat) := (true, [([], []), ([0], [0]), ([1], [1]), ([2], [2]), ([], []), ([3, 4], [3, 4])])
def addPrefix.B1 : List Nat := [0, 1, 3, 7, 0, 31]
theorem addPrefix.tab1 : rtab .any (opsOf Try.f93 1) = addPrefix.T1 := by kernel_rfl
theorem addPrefix.bits1 : waitsOk addPrefix.T1.2 addPrefix.B1 = true := by kernel_rfl
def addPrefix.T2 : Bool × List (List Nat × List Nat) := (true, [([], []), ([], []), ([1], [1]), ([2], [2]), ([3], [3]), ([], []), ([5], [5]), ([4, 6], [4, 6]), ([0, 0, 1, 2, 3, 4, 5, 6, 7], [0]), ([8, 0, 1, 2, 3, 4, 5, 6, 7], [8]), ([9, 7, 7, 0, 1, 2, 3, 4, 5, 6, 7], [7, 9])])
def addPrefix.B2 : List Nat := [0, 0, 2, 6, 14, 0, 32, 126, 255, 511, 1023]
theorem addPrefix.tab2 : rtab .any (opsOf Try.f93 2) = addPrefix.T2 := by kernel_rfl
theorem addPrefix.bits2 : waitsOk addPrefix.T2.2 addPrefix.B2 = true := by kernel_rfl
def addIfP (xs : List S45) (x : S45) : List S45 := if vpB x then xs ++ [x] else xs
structure AddedP (w0 W w' : World) (B : Nat) (v v' : Value) (xs : List S45) : Prop where
  cell : w'.heap[B]? = some (.cells #[v', .func (.func 92) #[] #[]] 87 (0, 0))
  row : Kd.R k45 45 w' w0.heap.size (fun _ => True) v' xs
  bel : Below w0.heap.size w0 w'
  size : W.heap.size ≤ w'.heap.size
  kept : ∀ k, k < W.heap.size → some k ≠ v.ownBlock → k ≠ B → w'.heap[k]? = W.heap[k]?
  own : v'.ownBlock = v.ownBlock ∨ ∃ b, v'.ownBlock = some b ∧ W.heap.size ≤ b
set_option maxHeartbeats 8000000 in
set_option maxRecDepth 100000 in
theorem addPrefix (x : S45) (B : Nat) (v : Value) (xs : List S45) (w0 W : World) (hB : W.heap[B]? = some (.cells #[v, .func (.func 92) #[] #[]] 87 (0, 0))) (hR : Kd.R k45 45 W w0.heap.size (fun _ => True) v xs)
    (hbel : Below w0.heap.size w0 W) (hge : w0.heap.size ≤ B) (hlim : xs.length < 4398046511104) :
    Calls Try.prog 93 #[.pointer (some ⟨B, 0, none⟩), .agg #[.bool x.f0.f0, .int .u64 x.f0.f1, .int .u64 x.f0.f2, .int .i64 x.f1]] W fun e w' => e = .returned (.tuple #[]) ∧ ∃ v', AddedP w0 W w' B v v' (addIfP xs x) := by
  have hu45 := Try.underlying45
  obtain ⟨A, c, rfl⟩ := Kd.R_slice hR
  have HX1 : Aside0 ((W.alloc (.cells #[.bool x.f0.f0, .int .u64 x.f0.f1, .int .u64 x.f0.f2, .int .i64 x.f1] 45)).heap[W.heap.size]? = some (.cells #[.bool x.f0.f0, .int .u64 x.f0.f1, .int .u64 x.f0.f2, .int .i64 x.f1] 45 (0, 0))) := ⟨heap_alloc_new _ _⟩
  have HB1 := Aside0.mk (blk_alloc hB (.cells #[.bool x.f0.f0, .int .u64 x.f0.f1, .int .u64 x.f0.f2, .int .i64 x.f1] 45))
  have HR1 := Aside0.mk (Kd.R_alloc hR (.cells #[.bool x.f0.f0, .int .u64 x.f0.f1, .int .u64 x.f0.f2, .int .i64 x.f1] 45))
  have HL1 := Aside0.mk (hbel.alloc hbel.size (.cells #[.bool x.f0.f0, .int .u64 x.f0.f1, .int .u64 x.f0.f2, .int .i64 x.f1] 45))
  have HZ1 : Aside0 (W.heap.size ≤ (W.alloc (.cells #[.bool x.f0.f0, .int .u64 x.f0.f1, .int .u64 x.f0.f2, .int .i64 x.f1] 45)).heap.size) := ⟨by simp⟩
  have HK1 : Aside0 (∀ k, k < W.heap.size → some k ≠ (Value.slice A xs.length c).ownBlock → k ≠ B → (W.alloc (.cells #[.bool x.f0.f0, .int .u64 x.f0.f1, .int .u64 x.f0.f2, .int .i64 x.f1] 45)).heap[k]? = W.heap[k]?) := ⟨fun k hk _ _ => Below.heap_alloc _ _ _ hk⟩
  have HG0 := Aside0.mk hge
  have HM := Aside0.mk hlim
  clear hB hR hbel hge hlim
  go_enter Try.func93, Try.ntmps93
  go_wp2
  obtain ⟨gb, hgb⟩ : ∃ gb, W.heap.size = gb := ⟨_, rfl⟩
  generalize W.alloc (.cells #[.bool x.f0.f0, .int .u64 x.f0.f1, .int .u64 x.f0.f2, .int .i64 x.f1] 45) = w1 at HX1 HB1 HR1 HL1 HZ1 HK1 ⊢
  rw [hgb] at HX1
  simp only [hgb]
  refine start_ (n := 6) (S := fun w' => w'.cell? ⟨B, 1, none⟩ = some (.func (.func 92) #[] #[]) ∧ w'.cell? ⟨gb, 0, none⟩ = some (.bool x.f0.f0) ∧ w'.cell? ⟨gb, 1, none⟩ = some (.int .u64 x.f0.f1) ∧ w'.cell? ⟨gb, 2, none⟩ = some (.int .u64 x.f0.f2) ∧ w'.cell? ⟨gb, 3, none⟩ = some (.int .i64 x.f1)) (ds := []) #[false, false, false, false, false, false] (by kernel_rfl) rfl rfl ⟨(blk_cell HB1.out 1).trans rfl, (blk_cell HX1.out 0).trans rfl, (blk_cell HX1.out 1).trans rfl, (blk_cell HX1.out 2).trans rfl, (blk_cell HX1.out 3).trans rfl⟩ (fun hHeld => ?_)
  refine with_tabW addPrefix.tab1 addPrefix.bits1 (fun HT_ HW_ => ?_)
  have n0_ := Aside0.mk (blk_drew HB1.out)
  have n1_ := Aside0.mk (blk_drew HX1.out)
  have n2_ := Aside0.mk (Kd.R_drew HR1.out)
  have n3_ := Aside0.mk (below_drew1 HL1.out)
  have n4_ : Aside0 (W.heap.size ≤ w1.drew.heap.size) := ⟨HZ1.out⟩
  have n5_ : Aside0 (∀ k, k < W.heap.size → some k ≠ (Value.slice A xs.length c).ownBlock → k ≠ B → w1.drew.heap[k]? = W.heap[k]?) := ⟨HK1.out⟩
  clear HB1 HX1 HR1 HL1 HZ1 HK1
  generalize w1.drew = w1 at n0_ n1_ n2_ n3_ n4_ n5_ hHeld ⊢
  have HB1 := n0_
  have HX1 := n1_
  have HR1 := n2_
  have HL1 := n3_
  have HZ1 := n4_
  have HK1 := n5_
  clear n0_ n1_ n2_ n3_ n4_ n5_
  refine pure_ (i := 0) (N := some 4) (v := ?_) (a' := ?_) #[true, false, false, false, false, false] rfl rfl (any_of HT_.out (by kernel_rfl)) (fun _ _ _ h => h) (Or.inl ⟨by rfl, ?_⟩) ?_ ?_
  rotate_left
  · intro w'
    go_simp
    with_reducible rfl
  rotate_left
  · simp only [Act.put, List.setIfInBounds_toArray, List.set_cons_zero, List.set_cons_succ, i64_w, i32_w]
    rfl
  refine pure_ (i := 1) (N := some 5) (v := ?_) (a' := ?_) #[true, true, false, false, false, false] rfl rfl (any_of HT_.out (by kernel_rfl)) (fun _ _ _ h => h) (Or.inl ⟨by rfl, ?_⟩) ?_ ?_
  rotate_left
  · intro w'
    go_simp
    with_reducible rfl
  rotate_left
  · simp only [Act.put, List.setIfInBounds_toArray, List.set_cons_zero, List.set_cons_succ, i64_w, i32_w]
    rfl
  refine pure_ (i := 2) (N := some 6) (v := ?_) (a' := ?_) #[true, true, true, false, false, false] rfl rfl (any_of HT_.out (by kernel_rfl)) (fun _ _ _ h => h) (Or.inl ⟨by rfl, ?_⟩) ?_ ?_
  rotate_left
  · intro w'
    go_simp
    with_reducible rfl
  rotate_left
  · simp only [Act.put, List.setIfInBounds_toArray, List.set_cons_zero, List.set_cons_succ, i64_w, i32_w]
    rfl
  refine take_ (i := 3) (N := some 7) (v := ?_) (a' := ?_) #[true, true, true, true, false, false] rfl rfl (take_ofW HT_.out HW_.out (by kernel_rfl)) (fun _ _ _ h => h) (Or.inl ⟨by rfl, ?_⟩) hHeld ?_ ?_
  rotate_left
  · rintro w' ⟨s0, s1, s2, s3, s4⟩
    go_simp
    with_reducible rfl
  rotate_left
  · simp only [Act.put, List.setIfInBounds_toArray, List.set_cons_zero, List.set_cons_succ, i64_w, i32_w]
    rfl
  refine take_ (i := 4) (N := some 8) (v := ?_) (a' := ?_) #[true, true, true, true, true, false] rfl rfl (take_ofW HT_.out HW_.out (by kernel_rfl)) (fun _ _ _ h => h) (Or.inl ⟨by rfl, ?_⟩) hHeld ?_ ?_
  rotate_left
  · rintro w' ⟨s0, s1, s2, s3, s4⟩
    go_simp
    with_reducible rfl
  rotate_left
  · simp only [Act.put, List.setIfInBounds_toArray, List.set_cons_zero, List.set_cons_succ, i64_w, i32_w]
    rfl
  refine one_ (i := 5) (N := some 9) #[true, true, true, true, true, true] rfl rfl (one_of HT_.out (by kernel_rfl)) (by decide) (fun K hK => ?_)
  refine goesS_ (s := 7) rfl Try.func92 (by kernel_rfl) rfl #[.agg #[.bool x.f0.f0, .int .u64 x.f0.f1, .int .u64 x.f0.f2, .int .i64 x.f1]] (by rfl) rfl rfl (by (try simp only [List.map_toArray, List.map_cons, List.map_nil]); rfl) ?_
  refine (address_ValidPrefix.calls x.f0.f0 x.f0.f1 x.f0.f2 x.f1 (vpB x) _ (vp_eq x)).mono ?_
  rintro e w2 ⟨rfl, hb⟩
  refine ⟨_, rfl, ?_⟩
  have HB2 := Aside0.mk (blk_below HB1.out hb)
  have HX2 := Aside0.mk (blk_below HX1.out hb)
  have HR2 := Aside0.mk (Kd.R_below HR1.out hb)
  have HL2 := Aside0.mk (HL1.out.trans (hb.mono HL1.out.size))
  have HZ2 := Aside0.mk (Nat.le_trans HZ1.out hb.size)
  have HK2 : Aside0 (∀ k, k < W.heap.size → some k ≠ (Value.slice A xs.length c).ownBlock → k ≠ B → w2.heap[k]? = W.heap[k]?) := ⟨fun k hk h1 h2 => (hb.block k (Nat.lt_of_lt_of_le hk HZ1.out)).trans (HK1.out k hk h1 h2)⟩
  refine hK.out _ _ ⟨(blk_cell HB2.out 1).trans rfl, (blk_cell HX2.out 0).trans rfl, (blk_cell HX2.out 1).trans rfl, (blk_cell HX2.out 2).trans rfl, (blk_cell HX2.out 3).trans rfl⟩ (fun hHeld => ?_)
  clear hK K
  refine norm_ (a' := ?_) ?_ ?_
  rotate_left
  · show Act.put _ (some 9) _ = _
    simp only [Act.put, List.setIfInBounds_toArray, List.set_cons_zero, List.set_cons_succ, i64_w, i32_w]
    rfl
  refine done_ (done_of HT_.out (by kernel_rfl)) ?_
  cases hs : vpB x with
  | false =>
    have HE : Aside0 (addIfP xs x = xs) := ⟨by simp [addIfP, hs]⟩
    clear hs
    go_wp2
    go_end0
    exact ⟨rfl, _, HB2.out, by rw [HE.out]; exact HR2.out, HL2.out, HZ2.out, HK2.out, .inl rfl⟩
  | true =>
    have HE : Aside0 (addIfP xs x = xs ++ [x]) := ⟨by simp [addIfP, hs]⟩
    clear hs
    go_wp2
    refine start_ (n := 11) (S := fun w' => w'.cell? ⟨B, 0, none⟩ = some (.slice A xs.length c) ∧ w'.cell? ⟨gb, 0, none⟩ = some (.bool x.f0.f0) ∧ w'.cell? ⟨gb, 1, none⟩ = some (.int .u64 x.f0.f1) ∧ w'.cell? ⟨gb, 2, none⟩ = some (.int .u64 x.f0.f2) ∧ w'.cell? ⟨gb, 3, none⟩ = some (.int .i64 x.f1)) (ds := [7, 10]) #[false, false, false, false, false, false, false, false, false, false, false] (by kernel_rfl) rfl rfl ⟨(blk_cell HB2.out 0).trans rfl, (blk_cell HX2.out 0).trans rfl, (blk_cell HX2.out 1).trans rfl, (blk_cell HX2.out 2).trans rfl, (blk_cell HX2.out 3).trans rfl⟩ (fun hHeld => ?_)
    refine with_tabW addPrefix.tab2 addPrefix.bits2 (fun HT_ HW_ => ?_)
    have n0_ := Aside0.mk (blk_drew HB2.out)
    have n1_ := Aside0.mk (blk_drew HX2.out)
    have n2_ := Aside0.mk (Kd.R_drew HR2.out)
    have n3_ := Aside0.mk (below_drew1 HL2.out)
    have n4_ : Aside0 (W.heap.size ≤ w2.drew.heap.size) := ⟨HZ2.out⟩
    have n5_ : Aside0 (∀ k, k < W.heap.size → some k ≠ (Value.slice A xs.length c).ownBlock → k ≠ B → w2.drew.heap[k]? = W.heap[k]?) := ⟨HK2.out⟩
    clear HB2 HX2 HR2 HL2 HZ2 HK2
    generalize w2.drew = w2 at n0_ n1_ n2_ n3_ n4_ n5_ hHeld ⊢
    have HB2 := n0_
    have HX2 := n1_
    have HR2 := n2_
    have HL2 := n3_
    have HZ2 := n4_
    have HK2 := n5_
    clear n0_ n1_ n2_ n3_ n4_ n5_
    refine pure_ (i := 0) (N := some 10) (v := ?_) (a' := ?_) #[true, false, false, false, false, false, false, false, false, false, false] rfl rfl (any_of HT_.out (by kernel_rfl)) (fun _ _ _ h => h) (Or.inl ⟨by rfl, ?_⟩) ?_ ?_
    rotate_left
    · intro w'
      go_simp
      with_reducible rfl
    rotate_left
    · simp only [Act.put, List.setIfInBounds_toArray, List.set_cons_zero, List.set_cons_succ, i64_w, i32_w]
      rfl
    refine pure_ (i := 1) (N := some 11) (v := ?_) (a' := ?_) #[true, true, false, false, false, false, false, false, false, false, false] rfl rfl (any_of HT_.out (by kernel_rfl)) (fun _ _ _ h => h) (Or.inl ⟨by rfl, ?_⟩) ?_ ?_
    rotate_left
    · intro w'
      go_simp
      with_reducible rfl
    rotate_left
    · simp only [Act.put, List.setIfInBounds_toArray, List.set_cons_zero, List.set_cons_succ, i64_w, i32_w]
      rfl
    refine pure_ (i := 2) (N := some 12) (v := ?_) (a' := ?_) #[true, true, true, false, false, false, false, false, false, false, false] rfl rfl (any_of HT_.out (by kernel_rfl)) (fun _ _ _ h => h) (Or.inl ⟨by rfl, ?_⟩) ?_ ?_
    rotate_left
    · intro w'
      go_simp
      with_reducible rfl
    rotate_left
    · simp only [Act.put, List.setIfInBounds_toArray, List.set_cons_zero, List.set_cons_succ, i64_w, i32_w]
      rfl
    refine pure_ (i := 3) (N := some 13) (v := ?_) (a' := ?_) #[true, true, true, true, false, false, false, false, false, false, false] rfl rfl (any_of HT_.out (by kernel_rfl)) (fun _ _ _ h => h) (Or.inl ⟨by rfl, ?_⟩) ?_ ?_
    rotate_left
    · intro w'
      go_simp
      with_reducible rfl
    rotate_left
    · simp only [Act.put, List.setIfInBounds_toArray, List.set_cons_zero, List.set_cons_succ, i64_w, i32_w]
      rfl
    refine take_ (i := 4) (N := some 14) (v := ?_) (a' := ?_) #[true, true, true, true, true, false, false, false, false, false, false] rfl rfl (take_ofW HT_.out HW_.out (by kernel_rfl)) (fun _ _ _ h => h) (Or.inl ⟨by rfl, ?_⟩) hHeld ?_ ?_
    rotate_left
    · rintro w' ⟨s0, s1, s2, s3, s4⟩
      go_simp
      with_reducible rfl
    rotate_left
    · simp only [Act.put, List.setIfInBounds_toArray, List.set_cons_zero, List.set_cons_succ, i64_w, i32_w]
      rfl
    refine take_ (i := 5) (N := some 15) (v := ?_) (a' := ?_) #[true, true, true, true, true, true, false, false, false, false, false] rfl rfl (take_ofW HT_.out HW_.out (by kernel_rfl)) (fun _ _ _ h => h) (Or.inl ⟨by rfl, ?_⟩) hHeld ?_ ?_
    rotate_left
    · rintro w' ⟨s0, s1, s2, s3, s4⟩
      go_simp
      with_reducible rfl
    rotate_left
    · simp only [Act.put, List.setIfInBounds_toArray, List.set_cons_zero, List.set_cons_succ, i64_w, i32_w]
      rfl
    refine one_ (i := 6) (N := some 16) #[true, true, true, true, true, true, true, false, false, false, false] rfl rfl (one_of HT_.out (by kernel_rfl)) (by decide) (fun K hK => ?_)
    refine value_ (w1 := ?_) (v := ?_) (by rfl) rfl ?_ ?_
    rotate_left 2
    · go_simp
      constructor
      · rfl
      · rfl
    refine hK.out _ _ ⟨(blk_cell (blk_alloc HB2.out _) 0).trans rfl, (blk_cell (blk_alloc HX2.out _) 0).trans rfl, (blk_cell (blk_alloc HX2.out _) 1).trans rfl, (blk_cell (blk_alloc HX2.out _) 2).trans rfl, (blk_cell (blk_alloc HX2.out _) 3).trans rfl⟩ (fun _ => ?_)
    clear hK K
    refine norm_ (a' := ?_) ?_ ?_
    rotate_left
    · show Act.put _ (some 16) _ = _
      simp only [Act.put, List.setIfInBounds_toArray, List.set_cons_zero, List.set_cons_succ, i64_w, i32_w]
      rfl
    refine last_ (i := 7) (N := some 17) #[true, true, true, true, true, true, true, true, false, false, false] rfl rfl (one_of HT_.out (by kernel_rfl)) (by decide) (fun K hK => ?_)
    refine Kd.R_append_step k45 (w0 := w0) w0.heap.size (by rfl) (.tmp 14) (.tmp 16) 42 45 (.agg #[.bool false, .int .u64 0, .int .u64 0, .int .i64 0]) 32 rfl Try.underlying42 info45 rfl (by decide) (by omega) (.slice A xs.length c) xs x [.bool x.f0.f0, .int .u64 x.f0.f1, .int .u64 x.f0.f2, .int .i64 x.f1] (fun _ => True) (fun _ => False) rfl rfl ?aP (fun _ hk => hk.elim) (fun _ _ => trivial) ?aO ?aB ?aS ?aL ?_
    (case aP => exact k45_mkM _ _ _ x)
    (case aO => exact HR2.out)
    (case aB => exact HL2.out)
    (case aS => exact below_size HL2.out)
    (case aL => have := HM.out; omega)
    intro v1 w3 ho hb3 hg hat
    obtain ⟨A1, n1, c1, rfl⟩ : ∃ A n c, v1 = .slice A n c := (by obtain ⟨A, c, h⟩ := Kd.R_slice ho; exact ⟨A, _, c, h⟩)
    have HB3 := Aside0.mk (blk_grown (g := B) (o := .cells #[.slice A xs.length c, .func (.func 92) #[] #[]] 87 (0, 0)) HB2.out hg (Kd.R_ne HR2.out HB2.out (by decide)))
    have hf3 : w3.frozen? ⟨B, 0, none⟩ = false := by simp [World.frozen?, HB3.out]
    have HO := Aside0.mk ho
    have HL3 := Aside0.mk hb3
    have HG := Aside0.mk hg
    have HA := Aside0.mk hat
    clear ho hb3 hg hat
    have hc3 := (blk_cell HB3.out 0)
    refine hK.out _ _ ?_
    clear hK K
    refine norm_ (a' := ?_) ?_ ?_
    rotate_left
    · show Act.put _ (some 17) _ = _
      simp only [Act.put, List.setIfInBounds_toArray, List.set_cons_zero, List.set_cons_succ, i64_w, i32_w]
      rfl
    refine pure_ (i := 8) (N := some 18) (v := ?_) (a' := ?_) #[true, true, true, true, true, true, true, true, true, false, false] rfl rfl (any_of HT_.out (by kernel_rfl)) (fun _ _ _ h => h) (Or.inl ⟨by rfl, ?_⟩) ?_ ?_
    rotate_left
    · intro w'
      go_simp
      with_reducible rfl
    rotate_left
    · simp only [Act.put, List.setIfInBounds_toArray, List.set_cons_zero, List.set_cons_succ, i64_w, i32_w]
      rfl
    refine pure_ (i := 9) (N := some 19) (v := ?_) (a' := ?_) #[true, true, true, true, true, true, true, true, true, true, false] rfl rfl (any_of HT_.out (by kernel_rfl)) (fun _ _ _ h => h) (Or.inl ⟨by rfl, ?_⟩) ?_ ?_
    rotate_left
    · intro w'
      go_simp
      with_reducible rfl
    rotate_left
    · simp only [Act.put, List.setIfInBounds_toArray, List.set_cons_zero, List.set_cons_succ, i64_w, i32_w]
      rfl
    refine last_ (i := 10) (N := none) #[true, true, true, true, true, true, true, true, true, true, true] rfl rfl (one_of HT_.out (by kernel_rfl)) (by decide) (fun K hK => ?_)
    refine skip_ (w1 := ?_) (by rfl) rfl ?_ ?_
    rotate_left
    · go_simp
      rfl
    refine hK.out _ _ ?_
    clear hK K
    refine done_ (done_of HT_.out (by kernel_rfl)) ?_
    go_wp2
    go_end0
    refine ⟨rfl, .slice A1 n1 c1, blk_put (cs := #[.slice A xs.length c, .func (.func 92) #[] #[]]) HB3.out 0 _ rfl, ?_, HL3.out.setCell HG0.out _, ?_, ?_, ?_⟩
    · rw [HE.out]
      exact Kd.R_set HO.out HB3.out (by decide) 0 _
    · have h1 := HG.out.size
      have h2 := HZ2.out
      simp only [World.setCell]
      simp
      omega
    · intro k hk hn hnB
      rw [Below.heap_setCell _ _ _ _ hnB]
      exact (HG.out.block k (Nat.lt_of_lt_of_le hk HZ2.out) hn).trans (HK2.out k hk hn hnB)
    · rcases HA.out with h | ⟨b, h, hb⟩
      · exact .inl h
      · exact .inr ⟨b, h, Nat.le_trans HZ2.out hb⟩
end Go.Proofs.Ytcgfpffgiimgmaa.Q
end

section
set_option linter.unusedVariables false
set_option linter.unusedSimpArgs false
namespace Go.Proofs.Ytcgfpffgiimgmaa.Q
open Go.RowKit Go.Proofs.YtcgfpffgiimgmaaW.PrintWords Go.Proofs.YtcgfpffgiimgmaaW.PrintLast Go.Proofs.YtcgfpffgiimgmaaW.PrintMore
def addrset_keptP.f (l : List S45) : Option (List S45) := if l.length < 4398046511104 then some (l.filter vpB) else none
theorem keptP_some {l t : List S45} (h : addrset_keptP.f l = some t) : l.length < 4398046511104 ∧ t = l.filter vpB := by
  unfold addrset_keptP.f at h
  split at h
  · rename_i h1
    injection h with h
    exact ⟨h1, h.symm⟩
  · cases h
theorem addIfP_fold : ∀ (l xs : List S45), l.foldl addIfP xs = xs ++ l.filter vpB
  | [], xs => by simp
  | x :: t, xs => by
    rw [List.foldl_cons, addIfP_fold t]
    unfold addIfP
    cases h : vpB x <;> simp [h]
theorem addIfP_take (l : List S45) (k : Nat) (hk : k < l.length) : (l.take (k + 1)).foldl addIfP [] = addIfP ((l.take k).foldl addIfP []) l[k] := by
  rw [List.take_succ_eq_append_getElem hk, List.foldl_append]
  rfl
theorem addIfP_len (l : List S45) (k : Nat) : ((l.take k).foldl addIfP []).length ≤ l.length := by
  rw [addIfP_fold]
  simp only [List.nil_append]
  exact Nat.le_trans (List.length_filter_le _ _) (by rw [List.length_take]; omega)
structure KeptAtP (w wr : World) (B : Nat) (v : Value) (xs : List S45) : Prop where
  cell : wr.heap[B]? = some (.cells #[v, .func (.func 92) #[] #[]] 87 (0, 0))
  row : Kd.R k45 45 wr w.heap.size (fun _ => True) v xs
  bel : Below w.heap.size w wr
theorem KeptAtP.below {w wr W : World} {B : Nat} {v : Value} {xs : List S45} (h : KeptAtP w wr B v xs) (hb : Below wr.heap.size wr W) : KeptAtP w W B v xs where
  cell := (hb.block B (lt_of_block h.cell)).trans h.cell
  row := Kd.R_below h.row hb
  bel := h.bel.trans (hb.mono h.bel.size)
end Go.Proofs.Ytcgfpffgiimgmaa.Q
end

section
namespace Go.Proofs.Ytcgfpffgiimgmaa.Q
open Go.RowKit Go.Proofs.YtcgfpffgiimgmaaW.PrintWords Go.Proofs.YtcgfpffgiimgmaaW.PrintLast Go.Proofs.YtcgfpffgiimgmaaW.PrintMore
attribute [local go_sem] max2_int min2_int max_two min_two max_three min_three max_four min_four
set_option linter.unusedVariables false
set_option linter.unusedSimpArgs false
def addrset_Of.l0 : Nat → List (S66) → List (S45) → Int → Int → Option ((List (S66)))
  | 0, _, _, _, _ => none
  | k + 1, x4, x20, x21, x22 => if x22 < x21 then (if 0 ≤ x22 then (if x22 < (x20.length : Int) then ((address_Bounds.f ((rd_T45 x20 x22).f0.f0) ((rd_T45 x20 x22).f0.f1) ((rd_T45 x20 x22).f0.f2) ((rd_T45 x20 x22).f1)).bind fun bt735 => (if x4.length < 2932031007402 then (addrset_Of.l0 k (x4 ++ [(⟨(⟨bt735.1, bt735.2.1, bt735.2.2.1⟩ : S36), (⟨bt735.2.2.2.1, bt735.2.2.2.2.1, bt735.2.2.2.2.2⟩ : S36)⟩ : S66)]) x20 x21 (wrap64 (x22 + 1))) else (none))) else (none)) else (none)) else ((addrset_Normal.f k x4).bind fun t744 => (some t744))
def addrset_Of.f (k : Nat) (l0 : List (S45)) : Option ((List (S66))) := (addrset_keptP.f l0).bind fun t730 => (addrset_Of.l0 k ([] : List (S66)) t730 (t730.length : Int) 0)
theorem addrset_Of.mono_l : ∀ k, (∀ y0 y1 y2 y3, LeO (addrset_Of.l0 k y0 y1 y2 y3) (addrset_Of.l0 (k + 1) y0 y1 y2 y3))
  | 0 => fun _ _ _ _ r h => by simp [addrset_Of.l0] at h
  | k + 1 => by
    have ih0 := addrset_Of.mono_l k
    · intro y0 y1 y2 y3
      unfold addrset_Of.l0
      repeat' first
      | (with_reducible exact ih0 _ _ _ _)
      | (with_reducible exact addrset_Normal.mono _ _)
      | (with_reducible exact LeO.refl _)
      | (with_reducible exact LeO.none _)
      | (with_reducible refine LeO.ite ?_ ?_)
      | (with_reducible refine LeO.bind ?_ (fun _ => ?_))
      | exact ih0 _ _ _ _
      | exact addrset_Normal.mono _ _
      | exact LeO.none _
      | refine LeO.ite ?_ ?_
      | refine LeO.bind ?_ (fun _ => ?_)
theorem addrset_Of.mono : ∀ a0 k, LeO (addrset_Of.f k a0) (addrset_Of.f (k + 1) a0) := by
  intro a0 k
  have ih0 := addrset_Of.mono_l k
  unfold addrset_Of.f
  repeat' first
      | (with_reducible exact ih0 _ _ _ _)
      | (with_reducible exact addrset_Normal.mono _ _)
      | (with_reducible exact LeO.refl _)
      | (with_reducible exact LeO.none _)
      | (with_reducible refine LeO.ite ?_ ?_)
      | (with_reducible refine LeO.bind ?_ (fun _ => ?_))
      | exact ih0 _ _ _ _
      | exact addrset_Normal.mono _ _
      | exact LeO.none _
      | refine LeO.ite ?_ ?_
      | refine LeO.bind ?_ (fun _ => ?_)
set_option maxHeartbeats 8000000 in
set_option maxRecDepth 100000 in
theorem addrset_Of.calls (k : Nat) (A0 : Option Addr) (c0 : Nat) (l0 : List (S45)) (r : List (S66)) (w : World) (hr0 : Kd.C k45 w A0 l0.length l0) (hc0 : l0.length ≤ c0) (h : addrset_Of.f k l0 = some r) :
 Calls Try.prog 48 #[.slice A0 l0.length c0] w fun e w' => ∃ v0_ : Value, e = .returned (v0_) ∧ Kd.R k66 66 w' w.heap.size (fun _ => True) v0_ r ∧ Below w.heap.size w w' := by
 have hu45 := Try.underlying45
 have HR0 := Aside0.mk hr0
 have HC0 := Aside0.mk hc0
 clear hr0 hc0
 have HB := Aside0.mk (Below.refl w.heap.size w)
 unfold addrset_Of.f at h; have H := h
 clear h
 replace H := Option.bind_eq_some_iff.mp H
 obtain ⟨t730, A20, H⟩ := H
 try dsimp only at H
 have A2 := Aside0.mk A20
 clear A20
 have H' := Aside0.mk H
 clear H
 go_enter Try.func48, Try.ntmps48
 obtain ⟨hlim, ht⟩ := keptP_some A2.out
 have HLIM := Aside0.mk hlim
 have HT := Aside0.mk ht
 have hm : l0.length ≤ 9223372036854775807 := by omega
 clear hlim ht HB
 go_wp2
 have H00 : Aside0 (KeptAtP w (w.alloc (.cells #[.slice none 0 0, .func (.func 92) #[] #[]] 87)) w.heap.size (.slice none 0 0) []) := ⟨heap_alloc_new _ _, Kd.R_nil _ _ _ _ _, (Below.refl _ _).alloc (Nat.le_refl _) _⟩
 go_loopg [12] l0.length (fun gg v12 wr => ∃ kk : Nat, kk ≤ l0.length ∧ l0.length - kk ≤ gg ∧ v12 = .int .i64 kk ∧ Aside0 (∃ v, KeptAtP w wr w.heap.size v ((l0.take kk).foldl addIfP [])))
 case atStart => exact ⟨0, Nat.zero_le _, by omega, rfl, ⟨_, H00.out⟩⟩
 case round =>
  obtain ⟨kk, hkk, hg, rfl, HA⟩ := hrel
  obtain ⟨v, HAv⟩ := HA.out
  have HV := Aside0.mk HAv
  clear HA HAv H00
  by_cases hlt : kk < l0.length
  · have hltz : (kk : Int) < (l0.length : Int) := by omega
    obtain ⟨ad, e, hx0, hx1, hx2, hx3⟩ := at_T45 HR0.out kk (by omega) hltz
    cases e
    replace hx0 := (HV.out.bel.cell (World.block_lt_of_cell? w _ hx0)).trans hx0
    replace hx1 := (HV.out.bel.cell (World.block_lt_of_cell? w _ hx1)).trans hx1
    replace hx2 := (HV.out.bel.cell (World.block_lt_of_cell? w _ hx2)).trans hx2
    replace hx3 := (HV.out.bel.cell (World.block_lt_of_cell? w _ hx3)).trans hx3
    have hrd : rd_T45 l0 (kk : Int) = l0[kk] := by simp [rd_T45, List.getD_eq_getElem?_getD, List.getElem?_eq_getElem hlt]
    rw [hrd] at hx0 hx1 hx2 hx3
    simp only [Int.toNat_natCast] at hx0 hx1 hx2 hx3
    have hfold := addIfP_take l0 kk hlt
    clear hrd
    generalize l0[kk] = y at hx0 hx1 hx2 hx3 hfold
    have HFO := Aside0.mk hfold
    have HLE : Aside0 (((l0.take kk).foldl addIfP []).length < 4398046511104) := ⟨Nat.lt_of_le_of_lt (addIfP_len _ _) HLIM.out⟩
    clear hfold
    go_wp2_with (go_at_call 93; refine (addPrefix y w.heap.size v _ w _ ?h1 ?h2 ?h3 (Nat.le_refl _) HLE.out).mono ?_; (case h1 => exact (HV.out.below ((Below.refl _ _).alloc (Nat.le_refl _) _)).cell); (case h2 => exact (HV.out.below ((Below.refl _ _).alloc (Nat.le_refl _) _)).row); (case h3 => exact (HV.out.below ((Below.refl _ _).alloc (Nat.le_refl _) _)).bel); rintro e w5 ⟨rfl, v', hadd⟩; have HAD := Aside0.mk hadd; clear hadd)
    go_roundg (l0.length - (kk + 1))
    case measure => omega
    case rel => exact ⟨kk + 1, by omega, by omega, by go_num, ⟨v', by rw [HFO.out]; exact ⟨HAD.out.cell, HAD.out.row, HAD.out.bel⟩⟩⟩
  · have hltz : ¬ (kk : Int) < (l0.length : Int) := by omega
    have hkl : kk = l0.length := by omega
    have hfull : (l0.take kk).foldl addIfP [] = l0.filter vpB := by rw [hkl, List.take_length, addIfP_fold]; rfl
    rw [hfull] at HV
    rw [← HT.out] at HV
    obtain ⟨Ao4, co4, hv4⟩ := Kd.R_slice HV.out.row
    subst hv4
    have HO732 := Aside0.mk HV.out.row
    have HB := Aside0.mk HV.out.bel
    have hc1 : wr.cell? ⟨w.heap.size, 0, none⟩ = some (.slice Ao4 t730.length co4) := (blk_cell HV.out.cell 0).trans rfl
    clear hkl hfull
    go_wp2
    go_loopg [4, 22] k (fun kq v4 v22 w' => ∃ (x4_1 : List (S66)) (x22_1 : Int), v22 = .int .i64 x22_1 ∧ Aside0 (addrset_Of.l0 kq x4_1 t730 (t730.length : Int) x22_1 = some r) ∧ Aside0 (kq ≤ k) ∧ Aside0 (Kd.R k66 66 w' w.heap.size (fun _ => True) v4 x4_1) ∧ Aside0 (Kd.R k45 45 w' w.heap.size (fun _ => True) (.slice Ao4 t730.length co4) t730) ∧ Aside0 (Below w.heap.size w w'))
    case atStart => exact ⟨(([] : List (S66))), (0), (by first | rfl | (simp; done) | (simp [*]; done)), H', ⟨Nat.le_refl _⟩, ⟨by first | exact Kd.R_nil _ _ _ _ _ | exact Kd.N_nil _ _ _ _ _ | exact Kd.V_nil _ _ _ _ _ | exact Kd.Q_nil _ _ _ _ _ | exact Kd.S_nil _ _ _ _ _⟩, ⟨zR HO732⟩, ⟨zB HB⟩⟩
    case round =>
     clear H'
     try clear p2
     try clear c4
     obtain ⟨x4_1, x22_1, rfl, HA, HK1, HO_4, HO_20, HB⟩ := hrel
     cases gk with
     | zero => exact absurd HA.out (by simp [addrset_Of.l0])
     | succ k1 =>
      have H := HA.out
      clear HA
      simp only [addrset_Of.l0] at H
      by_cases c5 : x22_1 < (t730.length : Int)
      · rw [if_pos c5] at H
        have c5b0 : decide (x22_1 < (t730.length : Int)) = true := decide_eq_true c5
        clear c5
        by_cases c6 : 0 ≤ x22_1
        · rw [if_pos c6] at H
          have c6b0 : decide (0 ≤ x22_1) = true := decide_eq_true c6
          clear c6
          by_cases c7 : x22_1 < (t730.length : Int)
          · rw [if_pos c7] at H
            have c7b0 : decide (x22_1 < (t730.length : Int)) = true := decide_eq_true c7
            clear c7
            replace H := Option.bind_eq_some_iff.mp H
            obtain ⟨⟨t735, t736, t737, t738, t739, t740⟩, A80, H⟩ := H
            try dsimp only at H
            have A8 := Aside0.mk A80
            clear A80
            by_cases c9 : x4_1.length < 2932031007402
            · rw [if_pos c9] at H
              have LMc9 := Aside0.mk c9
              clear c9
              obtain ⟨y741, hy741⟩ : ∃ y_ : List (S66), y_ = (x4_1 ++ [(⟨(⟨t735, t736, t737⟩ : S36), (⟨t738, t739, t740⟩ : S36)⟩ : S66)]) := ⟨_, rfl⟩
              rw [← hy741] at H; try dsimp only [Option.bind_some] at H
              have Ny741 := Aside0.mk hy741
              clear hy741
              have H' := Aside0.mk H
              clear H
              have p733 : 0 ≤ (x22_1 : Int) := za
              have q733 : x22_1 < (t730.length : Int) := za
              (try (obtain ⟨Ax_, cx_, ex_⟩ := Kd.R_slice HO_20.out; subst ex_))
              obtain ⟨ad733, e733, hx733_0, hx733_1, hx733_2, hx733_3⟩ := at_T45 (Kd.R_reads' HO_20.out).2.2 x22_1 p733 q733
              cases e733
              replace p733 := eq_true p733
              replace q733 := eq_true q733
              go_wp2_with (first | ((with_reducible refine gate_dst (N := 8) rfl ?_); refine zx 8 #[.bool false, .int .u64 0, .int .u64 0, .int .i64 0] 45 ?_; intro gb734 hg w10 hbox hb; replace HO_4 := Aside0.mk (Kd.R_below (zR HO_4) hb); replace HO_20 := Aside0.mk (Kd.R_below (Kd.R_elderB (zR HO_20) gb734 (Nat.le_of_eq hg.symm)) hb); have BK734 := Aside0.mk (hbox); have GW734 := Aside0.mk ((by rw [hg]; exact (below_size (zB HB)) : w.heap.size ≤ gb734)); have GE734 := Aside0.mk ((by rw [hg]; exact (below_size (zB HB)) : w.heap.size ≤ gb734)); replace HB := Aside0.mk (below_step (zB HB) hb); clear hb hbox hg; obtain ⟨hcz11_0, hcz11_1, hcz11_2, hcz11_3⟩ := zc4 BK734; obtain ⟨hfz11_0, hfz11_1, hfz11_2, hfz11_3⟩ := zf4 BK734) | ((with_reducible refine gate_callee (f := 87) rfl ?_); refine goesL_ (some 28) rfl rfl Try.func87 (by kernel_rfl) rfl #[.agg #[.bool ((rd_T45 t730 x22_1).f0.f0), .int .u64 ((rd_T45 t730 x22_1).f0.f1), .int .u64 ((rd_T45 t730 x22_1).f0.f2), .int .i64 ((rd_T45 t730 x22_1).f1)]] rfl (by (try simp only [List.map_toArray, List.map_cons, List.map_nil]); first | done | rfl | (simp only [List.length_drop, List.length_take]; rfl)) ?_; (with_reducible refine (address_Bounds.calls ((rd_T45 t730 x22_1).f0.f0) ((rd_T45 t730 x22_1).f0.f1) ((rd_T45 t730 x22_1).f0.f2) ((rd_T45 t730 x22_1).f1) t735 t736 t737 t738 t739 t740 _ A8.out).mono ?_); rintro e w12 ⟨rfl, hb⟩; refine ⟨_, rfl, ?_⟩; replace HO_4 := Aside0.mk (Kd.R_below (zQ (Kd.R_mono (Kd.R_far (p := ⟨gb734, 3, none⟩) (Kd.R_far (p := ⟨gb734, 2, none⟩) (Kd.R_far (p := ⟨gb734, 1, none⟩) (Kd.R_far (p := ⟨gb734, 0, none⟩) (Kd.R_types HO_4.out BK734.out (by decide)) (fun _ hk => hk.2) (.bool ((rd_T45 t730 x22_1).f0.f0))) (fun _ hk => hk.2) (.int .u64 ((rd_T45 t730 x22_1).f0.f1))) (fun _ hk => hk.2) (.int .u64 ((rd_T45 t730 x22_1).f0.f2))) (fun _ hk => hk.2) (.int .i64 ((rd_T45 t730 x22_1).f1))) (fun _ h_ => h_.1))) hb); replace HO_20 := Aside0.mk (Kd.R_below (zQ (Kd.R_mono (Kd.R_far (p := ⟨gb734, 3, none⟩) (Kd.R_far (p := ⟨gb734, 2, none⟩) (Kd.R_far (p := ⟨gb734, 1, none⟩) (Kd.R_far (p := ⟨gb734, 0, none⟩) (Kd.R_mono HO_20.out (fun k_ hk => (⟨hk, hk.2⟩ : _ ∧ k_ ≠ gb734))) (fun _ hk => hk.2) (.bool ((rd_T45 t730 x22_1).f0.f0))) (fun _ hk => hk.2) (.int .u64 ((rd_T45 t730 x22_1).f0.f1))) (fun _ hk => hk.2) (.int .u64 ((rd_T45 t730 x22_1).f0.f2))) (fun _ hk => hk.2) (.int .i64 ((rd_T45 t730 x22_1).f1))) (fun _ h_ => h_.1))) hb); replace BK734 := Aside0.mk (blk_below (g := gb734) (o := .cells #[.bool ((rd_T45 t730 x22_1).f0.f0), .int .u64 ((rd_T45 t730 x22_1).f0.f1), .int .u64 ((rd_T45 t730 x22_1).f0.f2), .int .i64 ((rd_T45 t730 x22_1).f1)] 45 (0, 0)) (by refine zL ?_; refine blk_put (cs := #[.bool ((rd_T45 t730 x22_1).f0.f0), .int .u64 ((rd_T45 t730 x22_1).f0.f1), .int .u64 ((rd_T45 t730 x22_1).f0.f2), .int .i64 0]) ?_ 3 _ rfl; refine zL ?_; refine blk_put (cs := #[.bool ((rd_T45 t730 x22_1).f0.f0), .int .u64 ((rd_T45 t730 x22_1).f0.f1), .int .u64 0, .int .i64 0]) ?_ 2 _ rfl; refine zL ?_; refine blk_put (cs := #[.bool ((rd_T45 t730 x22_1).f0.f0), .int .u64 0, .int .u64 0, .int .i64 0]) ?_ 1 _ rfl; refine zL ?_; refine blk_put (cs := #[.bool false, .int .u64 0, .int .u64 0, .int .i64 0]) ?_ 0 _ rfl; refine zL ?_; exact BK734.out) hb); replace HB := Aside0.mk (below_step (zB HB) hb); (try clear hb)) | ((with_reducible refine gate_builtin (b := .append) (xs := #[.tmp 26, .tmp 29]) rfl ?_); at_builtin; refine Kd.R_append k66 (w0 := w) w.heap.size rfl (.tmp 26) (.tmp 29) 33 66 (.agg #[(.bool false), (.int .u64 0), (.int .u64 0), (.bool false), (.int .u64 0), (.int .u64 0)]) 48 rfl Try.underlying33 info66 rfl (by decide) (by omega) u4 x4_1 (⟨(⟨t735, t736, t737⟩ : S36), (⟨t738, t739, t740⟩ : S36)⟩ : S66) [.bool t735, .int .u64 t736, .int .u64 t737, .bool t738, .int .u64 t739, .int .u64 t740] (fun _ => True) (fun _ => False) rfl rfl ?aP (fun _ hk => hk.elim) ?aF ?aO ?aB ?aS ?aL ?_; (case aP => exact k66_mkM _ _ _ (⟨(⟨t735, t736, t737⟩ : S36), (⟨t738, t739, t740⟩ : S36)⟩ : S66)); (case aB => exact (zB HB)); (case aF => exact (fun _ _ => trivial)); (case aO => exact (zR HO_4)); (case aS => exact (below_size (zB HB))); (case aL => have := LMc9.out; omega); intro v742 w13 ho hb hg hat; rw [← Ny741.out] at ho; replace HO_20 := Aside0.mk (Kd.R_over' (zR HO_20) (Kd.R_typed (zR HO_4)) (by decide) hg); replace BK734 := Aside0.mk (blk_grown (g := gb734) (o := .cells #[.bool ((rd_T45 t730 x22_1).f0.f0), .int .u64 ((rd_T45 t730 x22_1).f0.f1), .int .u64 ((rd_T45 t730 x22_1).f0.f2), .int .i64 ((rd_T45 t730 x22_1).f1)] 45 (0, 0)) (zK BK734) hg (Kd.R_ne HO_4.out BK734.out (by decide))); replace HB := Aside0.mk (hb); have HO743 := Aside0.mk (ho); clear HO_4; clear ho hb hg hat))
              go_roundg k1
              case measure => have := HK1.out; omega
              case rel => exact ⟨(y741), (wrap64 (x22_1 + 1)), (by first | rfl | (simp; done) | (simp [*]; done)), H', ⟨by have := HK1.out; omega⟩, ⟨zR HO743⟩, ⟨by (with_reducible repeat (first | apply Kd.R_alloc | apply Kd.R_drewN | apply Kd.R_drew)); exact Kd.R_mono HO_20.out (fun _ hk => trivial)⟩, ⟨zB HB⟩⟩
            · rw [if_neg c9] at H
              exact absurd H (by simp)
          · rw [if_neg c7] at H
            exact absurd H (by simp)
        · rw [if_neg c6] at H
          exact absurd H (by simp)
      · rw [if_neg c5] at H
        have c5b0 : decide (x22_1 < (t730.length : Int)) = false := decide_eq_false c5
        clear c5
        replace H := Option.bind_eq_some_iff.mp H
        obtain ⟨t744, A140, H⟩ := H
        try dsimp only at H
        have A14 := Aside0.mk A140
        clear A140
        obtain rfl := Option.some.inj H
        obtain ⟨Ao15, co15, eo15⟩ := Kd.R_slice HO_4.out
        subst eo15
        go_wp2_with (first | ((with_reducible refine gate_callee (f := 38) rfl ?_); refine goesL_ (some 33) rfl rfl Try.func38 (by kernel_rfl) rfl #[.slice Ao15 x4_1.length co15] rfl (by (try simp only [List.map_toArray, List.map_cons, List.map_nil]); first | done | rfl | (simp only [List.length_drop, List.length_take]; rfl)) ?_; (with_reducible refine (addrset_Normal.calls k1 _ _ x4_1 t744 _ ?side1 ?side2 A14.out).mono ?_); (case side1 => repeat (first | exact (Kd.R_reads' HO_4.out).2.2 | (with_reducible refine Kd.C_alloc ?_ _) | (with_reducible refine Kd.C_drewN ?_ _) | (with_reducible refine Kd.C_drew ?_))); (case side2 => exact (Kd.R_reads' HO_4.out).2.1); rintro e w16 ⟨v745, rfl, ho0, hb⟩; refine ⟨_, rfl, ?_⟩; replace HO_20 := Aside0.mk (Kd.R_below (zR HO_20) hb); have HO746 := Aside0.mk (Kd.R_lower (Kd.R_new' ho0 (Kd.R_lt (zR HO_4))) (below_size (zB HB))); replace HO_4 := Aside0.mk (Kd.R_elder' (zR HO_4) (Kd.R_base ho0) hb); replace HB := Aside0.mk (below_step (zB HB) hb); (try clear hb); (try clear ho0)))
        go_ret
        exact ⟨_, by first | rfl | (simp [errW_none, errW_some] <;> rfl) | (simp [*, errW_none, errW_some] <;> rfl), by (with_reducible repeat (first | apply Kd.R_alloc | apply Kd.R_drewN | apply Kd.R_drew)); exact Kd.R_mono HO746.out (fun _ hk => trivial), by repeat (first | (with_reducible first | exact HB.out | apply below_alloc | apply pw_below_drewN | apply below_drew1) | exact HB.out)⟩
end Go.Proofs.Ytcgfpffgiimgmaa.Q
end

section
namespace Go.Proofs.Ytcgfpffgiimgmaa.Q
open Go.RowKit Go.Proofs.YtcgfpffgiimgmaaW.PrintWords Go.Proofs.YtcgfpffgiimgmaaW.PrintLast Go.Proofs.YtcgfpffgiimgmaaW.PrintMore
attribute [local go_sem] max2_int min2_int max_two min_two max_three min_three max_four min_four
set_option linter.unusedVariables false
set_option linter.unusedSimpArgs false
def intrusionref07_Before.f (a0_0 : Bool) (a0_1 : Int) (a0_2 : Int) (a1_0 : Bool) (a1_1 : Int) (a1_2 : Int) : Option (Bool) := if (a0_0 != a1_0) = true then (some a1_0) else (if a0_1 = a1_1 then (some (decide (a0_2 < a1_2))) else (some (decide (a0_1 < a1_1))))
set_option maxHeartbeats 8000000 in
set_option maxRecDepth 100000 in
theorem intrusionref07_Before.calls (a0_0 : Bool) (a0_1 : Int) (a0_2 : Int) (a1_0 : Bool) (a1_1 : Int) (a1_2 : Int) (r : Bool) (w : World) (h : intrusionref07_Before.f a0_0 a0_1 a0_2 a1_0 a1_1 a1_2 = some r) :
 Calls Try.prog 80 #[.agg #[.bool a0_0, .int .u64 a0_1, .int .u64 a0_2], .agg #[.bool a1_0, .int .u64 a1_1, .int .u64 a1_2]] w fun e w' => e = .returned (.bool r) ∧ Below w.heap.size w w' := by
 have hu36 := Try.underlying36
 have HB := Aside0.mk (Below.refl w.heap.size w)
 unfold intrusionref07_Before.f at h; have H := h
 clear h
 by_cases c3 : (a0_0 != a1_0) = true
 · rw [if_pos c3] at H
   have c3b0 : (a0_0 != a1_0) = true := c3
   (try (have c3b1 : decide (a0_0 = a1_0) = false := by first | (simpa using c3) | exact decide_eq_true (Decidable.not_not.1 (fun hn => c3 (bne_iff_ne.2 hn))) | exact beq_iff_eq.2 (Decidable.not_not.1 (fun hn => c3 (bne_iff_ne.2 hn))) | exact decide_eq_false (bne_iff_ne.1 c3) | exact beq_eq_false_iff_ne.2 (bne_iff_ne.1 c3) | exact bne_iff_ne.1 c3))
   (try (have c3b2 : (a0_0 == a1_0) = false := by first | (simpa using c3) | exact decide_eq_true (Decidable.not_not.1 (fun hn => c3 (bne_iff_ne.2 hn))) | exact beq_iff_eq.2 (Decidable.not_not.1 (fun hn => c3 (bne_iff_ne.2 hn))) | exact decide_eq_false (bne_iff_ne.1 c3) | exact beq_eq_false_iff_ne.2 (bne_iff_ne.1 c3) | exact bne_iff_ne.1 c3))
   (try (have c3b3 : ¬ (a0_0 = a1_0) := by first | (simpa using c3) | exact decide_eq_true (Decidable.not_not.1 (fun hn => c3 (bne_iff_ne.2 hn))) | exact beq_iff_eq.2 (Decidable.not_not.1 (fun hn => c3 (bne_iff_ne.2 hn))) | exact decide_eq_false (bne_iff_ne.1 c3) | exact beq_eq_false_iff_ne.2 (bne_iff_ne.1 c3) | exact bne_iff_ne.1 c3))
   clear c3
   obtain rfl := Option.some.inj H
   go_enter Try.func80, Try.ntmps80
   go_wp2_with (first | ((with_reducible refine gate_dst (N := 2) rfl ?_); refine zx 2 #[.bool a0_0, .int .u64 a0_1, .int .u64 a0_2] 36 ?_; intro gb596 hg w4 hbox hb; have BK596 := Aside0.mk (hbox); have GW596 := Aside0.mk ((by rw [hg]; exact (below_size (zB HB)) : w.heap.size ≤ gb596)); have GE596 := Aside0.mk ((by rw [hg]; exact (below_size (zB HB)) : w.heap.size ≤ gb596)); replace HB := Aside0.mk (below_step (zB HB) hb); clear hb hbox hg) | ((with_reducible refine gate_dst (N := 3) rfl ?_); refine zx 3 #[.bool a1_0, .int .u64 a1_1, .int .u64 a1_2] 36 ?_; intro gb597 hg w5 hbox hb; have BK597 := Aside0.mk (hbox); have GW597 := Aside0.mk ((by rw [hg]; exact (below_size (zB HB)) : w.heap.size ≤ gb597)); have GE597 := Aside0.mk ((by rw [hg]; exact (below_size (zB HB)) : w.heap.size ≤ gb597)); replace HB := Aside0.mk (below_step (zB HB) hb); have NB596_597 := Aside0.mk ((by rw [hg]; exact Nat.ne_of_lt (blk_lt (g := gb596) (o := .cells #[.bool a0_0, .int .u64 a0_1, .int .u64 a0_2] 36 (0, 0)) (zK BK596)) : gb596 ≠ gb597)); have NB597_596 := Aside0.mk ((by rw [hg]; exact Nat.ne_of_gt (blk_lt (g := gb596) (o := .cells #[.bool a0_0, .int .u64 a0_1, .int .u64 a0_2] 36 (0, 0)) (zK BK596)) : gb597 ≠ gb596)); replace BK596 := Aside0.mk (blk_below (g := gb596) (o := .cells #[.bool a0_0, .int .u64 a0_1, .int .u64 a0_2] 36 (0, 0)) (zK BK596) hb); clear hb hbox hg; have hnb6 := NB596_597.out; have hnc6 := NB597_596.out; obtain ⟨hcz7_0, hcz7_1, hcz7_2⟩ := zc3 BK596; obtain ⟨hfz7_0, hfz7_1, hfz7_2⟩ := zf3 BK596; obtain ⟨hcz8_0, hcz8_1, hcz8_2⟩ := zc3 BK597; obtain ⟨hfz8_0, hfz8_1, hfz8_2⟩ := zf3 BK597))
   go_ret
   exact ⟨by first | rfl | (simp [errW_none, errW_some] <;> rfl) | (simp [*, errW_none, errW_some] <;> rfl), by repeat (first | (with_reducible first | exact HB.out | apply below_alloc | apply pw_below_drewN | apply below_drew1 | refine below_set ?_ GE596.out | refine below_set ?_ GE597.out) | exact HB.out)⟩
 · rw [if_neg c3] at H
   have c3b0 : (a0_0 != a1_0) = false := by simpa using c3
   (try (have c3b1 : decide (a0_0 = a1_0) = true := by first | (simpa using c3) | exact decide_eq_true (Decidable.not_not.1 (fun hn => c3 (bne_iff_ne.2 hn))) | exact beq_iff_eq.2 (Decidable.not_not.1 (fun hn => c3 (bne_iff_ne.2 hn))) | exact decide_eq_false (bne_iff_ne.1 c3) | exact beq_eq_false_iff_ne.2 (bne_iff_ne.1 c3) | exact bne_iff_ne.1 c3))
   (try (have c3b2 : (a0_0 == a1_0) = true := by first | (simpa using c3) | exact decide_eq_true (Decidable.not_not.1 (fun hn => c3 (bne_iff_ne.2 hn))) | exact beq_iff_eq.2 (Decidable.not_not.1 (fun hn => c3 (bne_iff_ne.2 hn))) | exact decide_eq_false (bne_iff_ne.1 c3) | exact beq_eq_false_iff_ne.2 (bne_iff_ne.1 c3) | exact bne_iff_ne.1 c3))
   clear c3
   by_cases c9 : a0_1 = a1_1
   · rw [if_pos c9] at H
     have c9b0 : (a0_1 == a1_1) = true := beq_iff_eq.mpr c9
     have c9b1 : (a0_1 != a1_1) = false := bne_eq_false_iff_eq.mpr c9
     clear c9
     obtain rfl := Option.some.inj H
     go_enter Try.func80, Try.ntmps80
     go_wp2_with (first | ((with_reducible refine gate_dst (N := 2) rfl ?_); refine zx 2 #[.bool a0_0, .int .u64 a0_1, .int .u64 a0_2] 36 ?_; intro gb596 hg w10 hbox hb; have BK596 := Aside0.mk (hbox); have GW596 := Aside0.mk ((by rw [hg]; exact (below_size (zB HB)) : w.heap.size ≤ gb596)); have GE596 := Aside0.mk ((by rw [hg]; exact (below_size (zB HB)) : w.heap.size ≤ gb596)); replace HB := Aside0.mk (below_step (zB HB) hb); clear hb hbox hg) | ((with_reducible refine gate_dst (N := 3) rfl ?_); refine zx 3 #[.bool a1_0, .int .u64 a1_1, .int .u64 a1_2] 36 ?_; intro gb597 hg w11 hbox hb; have BK597 := Aside0.mk (hbox); have GW597 := Aside0.mk ((by rw [hg]; exact (below_size (zB HB)) : w.heap.size ≤ gb597)); have GE597 := Aside0.mk ((by rw [hg]; exact (below_size (zB HB)) : w.heap.size ≤ gb597)); replace HB := Aside0.mk (below_step (zB HB) hb); have NB596_597 := Aside0.mk ((by rw [hg]; exact Nat.ne_of_lt (blk_lt (g := gb596) (o := .cells #[.bool a0_0, .int .u64 a0_1, .int .u64 a0_2] 36 (0, 0)) (zK BK596)) : gb596 ≠ gb597)); have NB597_596 := Aside0.mk ((by rw [hg]; exact Nat.ne_of_gt (blk_lt (g := gb596) (o := .cells #[.bool a0_0, .int .u64 a0_1, .int .u64 a0_2] 36 (0, 0)) (zK BK596)) : gb597 ≠ gb596)); replace BK596 := Aside0.mk (blk_below (g := gb596) (o := .cells #[.bool a0_0, .int .u64 a0_1, .int .u64 a0_2] 36 (0, 0)) (zK BK596) hb); clear hb hbox hg; have hnb12 := NB596_597.out; have hnc12 := NB597_596.out; obtain ⟨hcz13_0, hcz13_1, hcz13_2⟩ := zc3 BK596; obtain ⟨hfz13_0, hfz13_1, hfz13_2⟩ := zf3 BK596; obtain ⟨hcz14_0, hcz14_1, hcz14_2⟩ := zc3 BK597; obtain ⟨hfz14_0, hfz14_1, hfz14_2⟩ := zf3 BK597))
     go_ret
     exact ⟨by first | rfl | (simp [errW_none, errW_some] <;> rfl) | (simp [*, errW_none, errW_some] <;> rfl), by repeat (first | (with_reducible first | exact HB.out | apply below_alloc | apply pw_below_drewN | apply below_drew1 | refine below_set ?_ GE596.out | refine below_set ?_ GE597.out) | exact HB.out)⟩
   · rw [if_neg c9] at H
     have c9b0 : (a0_1 == a1_1) = false := beq_eq_false_iff_ne.mpr c9
     have c9b1 : (a0_1 != a1_1) = true := bne_iff_ne.mpr c9
     obtain rfl := Option.some.inj H
     go_enter Try.func80, Try.ntmps80
     go_wp2_with (first | ((with_reducible refine gate_dst (N := 2) rfl ?_); refine zx 2 #[.bool a0_0, .int .u64 a0_1, .int .u64 a0_2] 36 ?_; intro gb596 hg w15 hbox hb; have BK596 := Aside0.mk (hbox); have GW596 := Aside0.mk ((by rw [hg]; exact (below_size (zB HB)) : w.heap.size ≤ gb596)); have GE596 := Aside0.mk ((by rw [hg]; exact (below_size (zB HB)) : w.heap.size ≤ gb596)); replace HB := Aside0.mk (below_step (zB HB) hb); clear hb hbox hg) | ((with_reducible refine gate_dst (N := 3) rfl ?_); refine zx 3 #[.bool a1_0, .int .u64 a1_1, .int .u64 a1_2] 36 ?_; intro gb597 hg w16 hbox hb; have BK597 := Aside0.mk (hbox); have GW597 := Aside0.mk ((by rw [hg]; exact (below_size (zB HB)) : w.heap.size ≤ gb597)); have GE597 := Aside0.mk ((by rw [hg]; exact (below_size (zB HB)) : w.heap.size ≤ gb597)); replace HB := Aside0.mk (below_step (zB HB) hb); have NB596_597 := Aside0.mk ((by rw [hg]; exact Nat.ne_of_lt (blk_lt (g := gb596) (o := .cells #[.bool a0_0, .int .u64 a0_1, .int .u64 a0_2] 36 (0, 0)) (zK BK596)) : gb596 ≠ gb597)); have NB597_596 := Aside0.mk ((by rw [hg]; exact Nat.ne_of_gt (blk_lt (g := gb596) (o := .cells #[.bool a0_0, .int .u64 a0_1, .int .u64 a0_2] 36 (0, 0)) (zK BK596)) : gb597 ≠ gb596)); replace BK596 := Aside0.mk (blk_below (g := gb596) (o := .cells #[.bool a0_0, .int .u64 a0_1, .int .u64 a0_2] 36 (0, 0)) (zK BK596) hb); clear hb hbox hg; have hnb17 := NB596_597.out; have hnc17 := NB597_596.out; obtain ⟨hcz18_0, hcz18_1, hcz18_2⟩ := zc3 BK596; obtain ⟨hfz18_0, hfz18_1, hfz18_2⟩ := zf3 BK596; obtain ⟨hcz19_0, hcz19_1, hcz19_2⟩ := zc3 BK597; obtain ⟨hfz19_0, hfz19_1, hfz19_2⟩ := zf3 BK597))
     go_ret
     exact ⟨by first | rfl | (simp [errW_none, errW_some] <;> rfl) | (simp [*, errW_none, errW_some] <;> rfl), by repeat (first | (with_reducible first | exact HB.out | apply below_alloc | apply pw_below_drewN | apply below_drew1 | refine below_set ?_ GE596.out | refine below_set ?_ GE597.out) | exact HB.out)⟩
end Go.Proofs.Ytcgfpffgiimgmaa.Q
end

section
namespace Go.Proofs.Ytcgfpffgiimgmaa.Q
open Go.RowKit Go.Proofs.YtcgfpffgiimgmaaW.PrintWords Go.Proofs.YtcgfpffgiimgmaaW.PrintLast Go.Proofs.YtcgfpffgiimgmaaW.PrintMore
attribute [local go_sem] max2_int min2_int max_two min_two max_three min_three max_four min_four
set_option linter.unusedVariables false
set_option linter.unusedSimpArgs false
def intrusionref07_Last.f (a0_0 : Bool) (a0_1 : Int) (a0_2 : Int) : Option (Bool) := if a0_0 = true then (if (IntKind.u64.wrap (a0_1 + 1)) = 0 then (some ((IntKind.u64.wrap (a0_2 + 1)) == 0)) else (some false)) else (some (a0_2 == 4294967295))
set_option maxHeartbeats 8000000 in
set_option maxRecDepth 100000 in
theorem intrusionref07_Last.calls (a0_0 : Bool) (a0_1 : Int) (a0_2 : Int) (r : Bool) (w : World) (h : intrusionref07_Last.f a0_0 a0_1 a0_2 = some r) :
 Calls Try.prog 106 #[.agg #[.bool a0_0, .int .u64 a0_1, .int .u64 a0_2]] w fun e w' => e = .returned (.bool r) ∧ Below w.heap.size w w' := by
 have hu36 := Try.underlying36
 have HB := Aside0.mk (Below.refl w.heap.size w)
 unfold intrusionref07_Last.f at h; have H := h
 clear h
 by_cases c2 : a0_0 = true
 · subst c2
   rw [if_pos rfl] at H
   by_cases c3 : (IntKind.u64.wrap (a0_1 + 1)) = 0
   · rw [if_pos c3] at H
     have c3b0 : ((IntKind.u64.wrap (a0_1 + 1)) == 0) = true := beq_iff_eq.mpr c3
     have c3b1 : ((IntKind.u64.wrap (a0_1 + 1)) != 0) = false := bne_eq_false_iff_eq.mpr c3
     clear c3
     obtain rfl := Option.some.inj H
     go_enter Try.func106, Try.ntmps106
     go_wp2_with (first | ((with_reducible refine gate_dst (N := 1) rfl ?_); refine zx 1 #[.bool true, .int .u64 a0_1, .int .u64 a0_2] 36 ?_; intro gb603 hg w4 hbox hb; have BK603 := Aside0.mk (hbox); have GW603 := Aside0.mk ((by rw [hg]; exact (below_size (zB HB)) : w.heap.size ≤ gb603)); have GE603 := Aside0.mk ((by rw [hg]; exact (below_size (zB HB)) : w.heap.size ≤ gb603)); replace HB := Aside0.mk (below_step (zB HB) hb); clear hb hbox hg; obtain ⟨hcz5_0, hcz5_1, hcz5_2⟩ := zc3 BK603; obtain ⟨hfz5_0, hfz5_1, hfz5_2⟩ := zf3 BK603))
     go_ret
     exact ⟨by first | rfl | (simp [errW_none, errW_some] <;> rfl) | (simp [*, errW_none, errW_some] <;> rfl), by repeat (first | (with_reducible first | exact HB.out | apply below_alloc | apply pw_below_drewN | apply below_drew1 | refine below_set ?_ GE603.out) | exact HB.out)⟩
   · rw [if_neg c3] at H
     have c3b0 : ((IntKind.u64.wrap (a0_1 + 1)) == 0) = false := beq_eq_false_iff_ne.mpr c3
     have c3b1 : ((IntKind.u64.wrap (a0_1 + 1)) != 0) = true := bne_iff_ne.mpr c3
     obtain rfl := Option.some.inj H
     go_enter Try.func106, Try.ntmps106
     go_wp2_with (first | ((with_reducible refine gate_dst (N := 1) rfl ?_); refine zx 1 #[.bool true, .int .u64 a0_1, .int .u64 a0_2] 36 ?_; intro gb603 hg w6 hbox hb; have BK603 := Aside0.mk (hbox); have GW603 := Aside0.mk ((by rw [hg]; exact (below_size (zB HB)) : w.heap.size ≤ gb603)); have GE603 := Aside0.mk ((by rw [hg]; exact (below_size (zB HB)) : w.heap.size ≤ gb603)); replace HB := Aside0.mk (below_step (zB HB) hb); clear hb hbox hg; obtain ⟨hcz7_0, hcz7_1, hcz7_2⟩ := zc3 BK603; obtain ⟨hfz7_0, hfz7_1, hfz7_2⟩ := zf3 BK603))
     go_ret
     exact ⟨by first | rfl | (simp [errW_none, errW_some] <;> rfl) | (simp [*, errW_none, errW_some] <;> rfl), by repeat (first | (with_reducible first | exact HB.out | apply below_alloc | apply pw_below_drewN | apply below_drew1 | refine below_set ?_ GE603.out) | exact HB.out)⟩
 · replace c2 := Bool.eq_false_iff.mpr c2
   subst c2
   rw [if_neg zF] at H
   obtain rfl := Option.some.inj H
   go_enter Try.func106, Try.ntmps106
   go_wp2_with (first | ((with_reducible refine gate_dst (N := 1) rfl ?_); refine zx 1 #[.bool false, .int .u64 a0_1, .int .u64 a0_2] 36 ?_; intro gb603 hg w8 hbox hb; have BK603 := Aside0.mk (hbox); have GW603 := Aside0.mk ((by rw [hg]; exact (below_size (zB HB)) : w.heap.size ≤ gb603)); have GE603 := Aside0.mk ((by rw [hg]; exact (below_size (zB HB)) : w.heap.size ≤ gb603)); replace HB := Aside0.mk (below_step (zB HB) hb); clear hb hbox hg; obtain ⟨hcz9_0, hcz9_1, hcz9_2⟩ := zc3 BK603; obtain ⟨hfz9_0, hfz9_1, hfz9_2⟩ := zf3 BK603))
   go_ret
   exact ⟨by first | rfl | (simp [errW_none, errW_some] <;> rfl) | (simp [*, errW_none, errW_some] <;> rfl), by repeat (first | (with_reducible first | exact HB.out | apply below_alloc | apply pw_below_drewN | apply below_drew1 | refine below_set ?_ GE603.out) | exact HB.out)⟩
end Go.Proofs.Ytcgfpffgiimgmaa.Q
end

section
namespace Go.Proofs.Ytcgfpffgiimgmaa.Q
open Go.RowKit Go.Proofs.YtcgfpffgiimgmaaW.PrintWords Go.Proofs.YtcgfpffgiimgmaaW.PrintLast Go.Proofs.YtcgfpffgiimgmaaW.PrintMore
attribute [local go_sem] max2_int min2_int max_two min_two max_three min_three max_four min_four
set_option linter.unusedVariables false
set_option linter.unusedSimpArgs false
attribute [local go_sem high] eqA36
def intrusionref07_joined.f (a0_0 : Bool) (a0_1 : Int) (a0_2 : Int) (a0_3 : Bool) (a0_4 : Int) (a0_5 : Int) (a1_0 : Bool) (a1_1 : Int) (a1_2 : Int) (a1_3 : Bool) (a1_4 : Int) (a1_5 : Int) : Option (Bool) := if (a0_0 != a1_0) = true then (some false) else ((intrusionref07_Before.f a0_3 a0_4 a0_5 a1_0 a1_1 a1_2).bind fun t606 => (if t606 = true then ((intrusionref07_Last.f a0_3 a0_4 a0_5).bind fun t607 => (if t607 = true then (some false) else ((intrusionref07_After.f a0_3 a0_4 a0_5).bind fun bt608 => (some (bt608.1 == a1_0 && (bt608.2.1 == a1_1 && (bt608.2.2 == a1_2))))))) else (some true)))
def intrusionref07_joined.T3 : Bool × List (List Nat × List Nat) := (true, [([], []), ([0], [0]), ([], []), ([2], [2]), ([1, 3], [1, 3]), ([4], [4]), ([5, 4], [5]), ([6], [6]), ([7, 6], [6, 7]), ([8, 6, 6], [6, 8]), ([9, 6], [6, 9]), ([10, 9, 6], [6, 10]), ([11], [11]), ([12, 11], [11, 12]), ([13, 11, 11], [11, 13]), ([11], [11]), ([15, 11], [11, 15]), ([14, 16, 11], [11, 14, 16]), ([11, 17, 6], [6, 11, 17]), ([6, 18], [6, 18]), ([19, 14, 0, 1, 2, 3, 4, 5, 6, 7, 8, 9, 10, 11, 12, 13, 14, 15, 16, 17, 18, 19], [19])])
def intrusionref07_joined.B3 : List Nat := [0, 1, 0, 4, 15, 31, 63, 127, 255, 511, 1023, 2047, 4095, 8191, 16383, 4095, 36863, 131071, 262143, 524287, 1048575]
theorem intrusionref07_joined.tab3 : rtab .any (opsOf Try.f81 3) = intrusionref07_joined.T3 := by kernel_rfl
theorem intrusionref07_joined.bits3 : waitsOk intrusionref07_joined.T3.2 intrusionref07_joined.B3 = true := by kernel_rfl
set_option maxHeartbeats 8000000 in
set_option maxRecDepth 100000 in
theorem intrusionref07_joined.calls (a0_0 : Bool) (a0_1 : Int) (a0_2 : Int) (a0_3 : Bool) (a0_4 : Int) (a0_5 : Int) (a1_0 : Bool) (a1_1 : Int) (a1_2 : Int) (a1_3 : Bool) (a1_4 : Int) (a1_5 : Int) (r : Bool) (w : World) (h : intrusionref07_joined.f a0_0 a0_1 a0_2 a0_3 a0_4 a0_5 a1_0 a1_1 a1_2 a1_3 a1_4 a1_5 = some r) :
 Calls Try.prog 81 #[.agg #[.bool a0_0, .int .u64 a0_1, .int .u64 a0_2, .bool a0_3, .int .u64 a0_4, .int .u64 a0_5], .agg #[.bool a1_0, .int .u64 a1_1, .int .u64 a1_2, .bool a1_3, .int .u64 a1_4, .int .u64 a1_5]] w fun e w' => e = .returned (.bool r) ∧ Below w.heap.size w w' := by
 have hu66 := Try.underlying66
 have hu36 := Try.underlying36
 have HB := Aside0.mk (Below.refl w.heap.size w)
 unfold intrusionref07_joined.f at h; have H := h
 clear h
 by_cases c3 : (a0_0 != a1_0) = true
 · rw [if_pos c3] at H
   have c3b0 : (a0_0 != a1_0) = true := c3
   (try (have c3b1 : decide (a0_0 = a1_0) = false := by first | (simpa using c3) | exact decide_eq_true (Decidable.not_not.1 (fun hn => c3 (bne_iff_ne.2 hn))) | exact beq_iff_eq.2 (Decidable.not_not.1 (fun hn => c3 (bne_iff_ne.2 hn))) | exact decide_eq_false (bne_iff_ne.1 c3) | exact beq_eq_false_iff_ne.2 (bne_iff_ne.1 c3) | exact bne_iff_ne.1 c3))
   (try (have c3b2 : (a0_0 == a1_0) = false := by first | (simpa using c3) | exact decide_eq_true (Decidable.not_not.1 (fun hn => c3 (bne_iff_ne.2 hn))) | exact beq_iff_eq.2 (Decidable.not_not.1 (fun hn => c3 (bne_iff_ne.2 hn))) | exact decide_eq_false (bne_iff_ne.1 c3) | exact beq_eq_false_iff_ne.2 (bne_iff_ne.1 c3) | exact bne_iff_ne.1 c3))
   (try (have c3b3 : ¬ (a0_0 = a1_0) := by first | (simpa using c3) | exact decide_eq_true (Decidable.not_not.1 (fun hn => c3 (bne_iff_ne.2 hn))) | exact beq_iff_eq.2 (Decidable.not_not.1 (fun hn => c3 (bne_iff_ne.2 hn))) | exact decide_eq_false (bne_iff_ne.1 c3) | exact beq_eq_false_iff_ne.2 (bne_iff_ne.1 c3) | exact bne_iff_ne.1 c3))
   clear c3
   obtain rfl := Option.some.inj H
   go_enter Try.func81, Try.ntmps81
   go_wp2_with (first | ((with_reducible refine gate_dst (N := 2) rfl ?_); refine zx 2 #[.bool a0_0, .int .u64 a0_1, .int .u64 a0_2, .bool a0_3, .int .u64 a0_4, .int .u64 a0_5] 66 ?_; intro gb604 hg w4 hbox hb; have BK604 := Aside0.mk (hbox); have GW604 := Aside0.mk ((by rw [hg]; exact (below_size (zB HB)) : w.heap.size ≤ gb604)); have GE604 := Aside0.mk ((by rw [hg]; exact (below_size (zB HB)) : w.heap.size ≤ gb604)); replace HB := Aside0.mk (below_step (zB HB) hb); clear hb hbox hg) | ((with_reducible refine gate_dst (N := 3) rfl ?_); refine zx 3 #[.bool a1_0, .int .u64 a1_1, .int .u64 a1_2, .bool a1_3, .int .u64 a1_4, .int .u64 a1_5] 66 ?_; intro gb605 hg w5 hbox hb; have BK605 := Aside0.mk (hbox); have GW605 := Aside0.mk ((by rw [hg]; exact (below_size (zB HB)) : w.heap.size ≤ gb605)); have GE605 := Aside0.mk ((by rw [hg]; exact (below_size (zB HB)) : w.heap.size ≤ gb605)); replace HB := Aside0.mk (below_step (zB HB) hb); have NB604_605 := Aside0.mk ((by rw [hg]; exact Nat.ne_of_lt (blk_lt (g := gb604) (o := .cells #[.bool a0_0, .int .u64 a0_1, .int .u64 a0_2, .bool a0_3, .int .u64 a0_4, .int .u64 a0_5] 66 (0, 0)) (zK BK604)) : gb604 ≠ gb605)); have NB605_604 := Aside0.mk ((by rw [hg]; exact Nat.ne_of_gt (blk_lt (g := gb604) (o := .cells #[.bool a0_0, .int .u64 a0_1, .int .u64 a0_2, .bool a0_3, .int .u64 a0_4, .int .u64 a0_5] 66 (0, 0)) (zK BK604)) : gb605 ≠ gb604)); replace BK604 := Aside0.mk (blk_below (g := gb604) (o := .cells #[.bool a0_0, .int .u64 a0_1, .int .u64 a0_2, .bool a0_3, .int .u64 a0_4, .int .u64 a0_5] 66 (0, 0)) (zK BK604) hb); clear hb hbox hg; have hnb6 := NB604_605.out; have hnc6 := NB605_604.out; obtain ⟨hcz7_0, hcz7_1, hcz7_2, hcz7_3, hcz7_4, hcz7_5⟩ := zc6 BK604; obtain ⟨hfz7_0, hfz7_1, hfz7_2, hfz7_3, hfz7_4, hfz7_5⟩ := zf6 BK604; obtain ⟨hcz8_0, hcz8_1, hcz8_2, hcz8_3, hcz8_4, hcz8_5⟩ := zc6 BK605; obtain ⟨hfz8_0, hfz8_1, hfz8_2, hfz8_3, hfz8_4, hfz8_5⟩ := zf6 BK605))
   go_ret
   exact ⟨by first | rfl | (simp [errW_none, errW_some] <;> rfl) | (simp [*, errW_none, errW_some] <;> rfl), by repeat (first | (with_reducible first | exact HB.out | apply below_alloc | apply pw_below_drewN | apply below_drew1 | refine below_set ?_ GE604.out | refine below_set ?_ GE605.out) | exact HB.out)⟩
 · rw [if_neg c3] at H
   have c3b0 : (a0_0 != a1_0) = false := by simpa using c3
   (try (have c3b1 : decide (a0_0 = a1_0) = true := by first | (simpa using c3) | exact decide_eq_true (Decidable.not_not.1 (fun hn => c3 (bne_iff_ne.2 hn))) | exact beq_iff_eq.2 (Decidable.not_not.1 (fun hn => c3 (bne_iff_ne.2 hn))) | exact decide_eq_false (bne_iff_ne.1 c3) | exact beq_eq_false_iff_ne.2 (bne_iff_ne.1 c3) | exact bne_iff_ne.1 c3))
   (try (have c3b2 : (a0_0 == a1_0) = true := by first | (simpa using c3) | exact decide_eq_true (Decidable.not_not.1 (fun hn => c3 (bne_iff_ne.2 hn))) | exact beq_iff_eq.2 (Decidable.not_not.1 (fun hn => c3 (bne_iff_ne.2 hn))) | exact decide_eq_false (bne_iff_ne.1 c3) | exact beq_eq_false_iff_ne.2 (bne_iff_ne.1 c3) | exact bne_iff_ne.1 c3))
   clear c3
   replace H := Option.bind_eq_some_iff.mp H
   obtain ⟨t606, A90, H⟩ := H
   try dsimp only at H
   have A9 := Aside0.mk A90
   clear A90
   by_cases c10 : t606 = true
   · subst c10
     rw [if_pos rfl] at H
     replace H := Option.bind_eq_some_iff.mp H
     obtain ⟨t607, A110, H⟩ := H
     try dsimp only at H
     have A11 := Aside0.mk A110
     clear A110
     by_cases c12 : t607 = true
     · subst c12
       rw [if_pos rfl] at H
       obtain rfl := Option.some.inj H
       go_enter Try.func81, Try.ntmps81
       try go_wp2_with (first | ((with_reducible refine gate_dst (N := 2) rfl ?_); refine zx 2 #[.bool a0_0, .int .u64 a0_1, .int .u64 a0_2, .bool a0_3, .int .u64 a0_4, .int .u64 a0_5] 66 ?_; intro gb604 hg w13 hbox hb; have BK604 := Aside0.mk (hbox); have GW604 := Aside0.mk ((by rw [hg]; exact (below_size (zB HB)) : w.heap.size ≤ gb604)); have GE604 := Aside0.mk ((by rw [hg]; exact (below_size (zB HB)) : w.heap.size ≤ gb604)); replace HB := Aside0.mk (below_step (zB HB) hb); clear hb hbox hg) | ((with_reducible refine gate_dst (N := 3) rfl ?_); refine zx 3 #[.bool a1_0, .int .u64 a1_1, .int .u64 a1_2, .bool a1_3, .int .u64 a1_4, .int .u64 a1_5] 66 ?_; intro gb605 hg w14 hbox hb; have BK605 := Aside0.mk (hbox); have GW605 := Aside0.mk ((by rw [hg]; exact (below_size (zB HB)) : w.heap.size ≤ gb605)); have GE605 := Aside0.mk ((by rw [hg]; exact (below_size (zB HB)) : w.heap.size ≤ gb605)); replace HB := Aside0.mk (below_step (zB HB) hb); have NB604_605 := Aside0.mk ((by rw [hg]; exact Nat.ne_of_lt (blk_lt (g := gb604) (o := .cells #[.bool a0_0, .int .u64 a0_1, .int .u64 a0_2, .bool a0_3, .int .u64 a0_4, .int .u64 a0_5] 66 (0, 0)) (zK BK604)) : gb604 ≠ gb605)); have NB605_604 := Aside0.mk ((by rw [hg]; exact Nat.ne_of_gt (blk_lt (g := gb604) (o := .cells #[.bool a0_0, .int .u64 a0_1, .int .u64 a0_2, .bool a0_3, .int .u64 a0_4, .int .u64 a0_5] 66 (0, 0)) (zK BK604)) : gb605 ≠ gb604)); replace BK604 := Aside0.mk (blk_below (g := gb604) (o := .cells #[.bool a0_0, .int .u64 a0_1, .int .u64 a0_2, .bool a0_3, .int .u64 a0_4, .int .u64 a0_5] 66 (0, 0)) (zK BK604) hb); clear hb hbox hg; have hnb15 := NB604_605.out; have hnc15 := NB605_604.out; obtain ⟨hcz16_0, hcz16_1, hcz16_2, hcz16_3, hcz16_4, hcz16_5⟩ := zc6 BK604; obtain ⟨hfz16_0, hfz16_1, hfz16_2, hfz16_3, hfz16_4, hfz16_5⟩ := zf6 BK604; obtain ⟨hcz17_0, hcz17_1, hcz17_2, hcz17_3, hcz17_4, hcz17_5⟩ := zc6 BK605; obtain ⟨hfz17_0, hfz17_1, hfz17_2, hfz17_3, hfz17_4, hfz17_5⟩ := zf6 BK605))
       replace BK604 := Aside0.mk (blk_drew BK604.out)
       replace BK605 := Aside0.mk (blk_drew BK605.out)
       replace HB := Aside0.mk (below_drew1 HB.out)
       refine start_ (n := 21) (S := fun w' => w'.cell? ⟨gb604, 0, none⟩ = some (.bool a0_0) ∧ w'.cell? ⟨gb604, 1, none⟩ = some (.int .u64 a0_1) ∧ w'.cell? ⟨gb604, 2, none⟩ = some (.int .u64 a0_2) ∧ w'.cell? ⟨gb604, 3, none⟩ = some (.bool a0_3) ∧ w'.cell? ⟨gb604, 4, none⟩ = some (.int .u64 a0_4) ∧ w'.cell? ⟨gb604, 5, none⟩ = some (.int .u64 a0_5) ∧ w'.cell? ⟨gb605, 0, none⟩ = some (.bool a1_0) ∧ w'.cell? ⟨gb605, 1, none⟩ = some (.int .u64 a1_1) ∧ w'.cell? ⟨gb605, 2, none⟩ = some (.int .u64 a1_2) ∧ w'.cell? ⟨gb605, 3, none⟩ = some (.bool a1_3) ∧ w'.cell? ⟨gb605, 4, none⟩ = some (.int .u64 a1_4) ∧ w'.cell? ⟨gb605, 5, none⟩ = some (.int .u64 a1_5)) (ds := []) #[false, false, false, false, false, false, false, false, false, false, false, false, false, false, false, false, false, false, false, false, false] (by kernel_rfl) rfl rfl ⟨zc BK604 0, zc BK604 1, zc BK604 2, zc BK604 3, zc BK604 4, zc BK604 5, zc BK605 0, zc BK605 1, zc BK605 2, zc BK605 3, zc BK605 4, zc BK605 5⟩ (fun hHeld => ?_); refine with_tabW intrusionref07_joined.tab3 intrusionref07_joined.bits3 (fun HT_ HW_ => ?_)
       generalize w14.drew = w18 at BK604 BK605 HB hHeld ⊢
       refine zp 0 12 HT_ ?_; refine zp 2 14 HT_ ?_; refine zt 1 13 HT_ HW_ hHeld ?_; refine zt 3 15 HT_ HW_ hHeld ?_; refine zo 4 16 HT_ (fun K hK => ?_)
       refine zg Try.func80 #[.agg #[.bool a0_3, .int .u64 a0_4, .int .u64 a0_5], .agg #[.bool a1_0, .int .u64 a1_1, .int .u64 a1_2]] ?_
       with_reducible refine (intrusionref07_Before.calls a0_3 a0_4 a0_5 a1_0 a1_1 a1_2 true _ A9.out).mono ?_
       rintro e w19 ⟨rfl, hb⟩
       refine ⟨_, rfl, ?_⟩
       replace BK604 := Aside0.mk (blk_below (g := gb604) (o := .cells #[.bool a0_0, .int .u64 a0_1, .int .u64 a0_2, .bool a0_3, .int .u64 a0_4, .int .u64 a0_5] 66 (0, 0)) (zK BK604) hb)
       replace BK605 := Aside0.mk (blk_below (g := gb605) (o := .cells #[.bool a1_0, .int .u64 a1_1, .int .u64 a1_2, .bool a1_3, .int .u64 a1_4, .int .u64 a1_5] 66 (0, 0)) (zK BK605) hb)
       replace HB := Aside0.mk (below_step (zB HB) hb)
       (try clear hb)
       refine hK.out _ _ ⟨zc BK604 0, zc BK604 1, zc BK604 2, zc BK604 3, zc BK604 4, zc BK604 5, zc BK605 0, zc BK605 1, zc BK605 2, zc BK605 3, zc BK605 4, zc BK605 5⟩ (fun hHeld => ?_)
       clear hK K
       refine zn 16 ?_; refine zp 5 17 HT_ ?_; refine zp 6 18 HT_ ?_; refine zp 7 19 HT_ ?_; refine zt 8 20 HT_ HW_ hHeld ?_; refine zo 9 21 HT_ (fun K hK => ?_)
       refine zg Try.func106 #[.agg #[.bool a0_3, .int .u64 a0_4, .int .u64 a0_5]] ?_
       with_reducible refine (intrusionref07_Last.calls a0_3 a0_4 a0_5 true _ A11.out).mono ?_
       rintro e w20 ⟨rfl, hb⟩
       refine ⟨_, rfl, ?_⟩
       replace BK604 := Aside0.mk (blk_below (g := gb604) (o := .cells #[.bool a0_0, .int .u64 a0_1, .int .u64 a0_2, .bool a0_3, .int .u64 a0_4, .int .u64 a0_5] 66 (0, 0)) (zK BK604) hb)
       replace BK605 := Aside0.mk (blk_below (g := gb605) (o := .cells #[.bool a1_0, .int .u64 a1_1, .int .u64 a1_2, .bool a1_3, .int .u64 a1_4, .int .u64 a1_5] 66 (0, 0)) (zK BK605) hb)
       replace HB := Aside0.mk (below_step (zB HB) hb)
       (try clear hb)
       refine hK.out _ _ ⟨zc BK604 0, zc BK604 1, zc BK604 2, zc BK604 3, zc BK604 4, zc BK604 5, zc BK605 0, zc BK605 1, zc BK605 2, zc BK605 3, zc BK605 4, zc BK605 5⟩ (fun hHeld => ?_)
       clear hK K
       refine zn 21 ?_; refine zp 10 22 HT_ ?_; refine zp 11 23 HT_ ?_; refine zu 12 24 HT_ ?_; refine zu 13 25 HT_ ?_; refine zu 14 26 HT_ ?_; refine zu 15 27 HT_ ?_; refine zu 16 28 HT_ ?_; refine zu 17 29 HT_ ?_; refine zp 18 30 HT_ ?_; refine zp 19 31 HT_ ?_; refine zp 20 4 HT_ ?_; refine zd HT_ ?_
       try go_wp2
       go_ret
       exact ⟨by first | rfl | (simp [errW_none, errW_some] <;> rfl) | (simp [*, errW_none, errW_some] <;> rfl), by repeat (first | (with_reducible first | exact HB.out | apply below_alloc | apply pw_below_drewN | apply below_drew1 | refine below_set ?_ GE604.out | refine below_set ?_ GE605.out) | exact HB.out)⟩
     · replace c12 := Bool.eq_false_iff.mpr c12
       subst c12
       rw [if_neg zF] at H
       replace H := Option.bind_eq_some_iff.mp H
       obtain ⟨⟨t608, t609, t610⟩, A210, H⟩ := H
       try dsimp only at H
       have A21 := Aside0.mk A210
       clear A210
       obtain rfl := Option.some.inj H
       go_enter Try.func81, Try.ntmps81
       try go_wp2_with (first | ((with_reducible refine gate_dst (N := 2) rfl ?_); refine zx 2 #[.bool a0_0, .int .u64 a0_1, .int .u64 a0_2, .bool a0_3, .int .u64 a0_4, .int .u64 a0_5] 66 ?_; intro gb604 hg w22 hbox hb; have BK604 := Aside0.mk (hbox); have GW604 := Aside0.mk ((by rw [hg]; exact (below_size (zB HB)) : w.heap.size ≤ gb604)); have GE604 := Aside0.mk ((by rw [hg]; exact (below_size (zB HB)) : w.heap.size ≤ gb604)); replace HB := Aside0.mk (below_step (zB HB) hb); clear hb hbox hg) | ((with_reducible refine gate_dst (N := 3) rfl ?_); refine zx 3 #[.bool a1_0, .int .u64 a1_1, .int .u64 a1_2, .bool a1_3, .int .u64 a1_4, .int .u64 a1_5] 66 ?_; intro gb605 hg w23 hbox hb; have BK605 := Aside0.mk (hbox); have GW605 := Aside0.mk ((by rw [hg]; exact (below_size (zB HB)) : w.heap.size ≤ gb605)); have GE605 := Aside0.mk ((by rw [hg]; exact (below_size (zB HB)) : w.heap.size ≤ gb605)); replace HB := Aside0.mk (below_step (zB HB) hb); have NB604_605 := Aside0.mk ((by rw [hg]; exact Nat.ne_of_lt (blk_lt (g := gb604) (o := .cells #[.bool a0_0, .int .u64 a0_1, .int .u64 a0_2, .bool a0_3, .int .u64 a0_4, .int .u64 a0_5] 66 (0, 0)) (zK BK604)) : gb604 ≠ gb605)); have NB605_604 := Aside0.mk ((by rw [hg]; exact Nat.ne_of_gt (blk_lt (g := gb604) (o := .cells #[.bool a0_0, .int .u64 a0_1, .int .u64 a0_2, .bool a0_3, .int .u64 a0_4, .int .u64 a0_5] 66 (0, 0)) (zK BK604)) : gb605 ≠ gb604)); replace BK604 := Aside0.mk (blk_below (g := gb604) (o := .cells #[.bool a0_0, .int .u64 a0_1, .int .u64 a0_2, .bool a0_3, .int .u64 a0_4, .int .u64 a0_5] 66 (0, 0)) (zK BK604) hb); clear hb hbox hg; have hnb24 := NB604_605.out; have hnc24 := NB605_604.out; obtain ⟨hcz25_0, hcz25_1, hcz25_2, hcz25_3, hcz25_4, hcz25_5⟩ := zc6 BK604; obtain ⟨hfz25_0, hfz25_1, hfz25_2, hfz25_3, hfz25_4, hfz25_5⟩ := zf6 BK604; obtain ⟨hcz26_0, hcz26_1, hcz26_2, hcz26_3, hcz26_4, hcz26_5⟩ := zc6 BK605; obtain ⟨hfz26_0, hfz26_1, hfz26_2, hfz26_3, hfz26_4, hfz26_5⟩ := zf6 BK605))
       replace BK604 := Aside0.mk (blk_drew BK604.out)
       replace BK605 := Aside0.mk (blk_drew BK605.out)
       replace HB := Aside0.mk (below_drew1 HB.out)
       refine start_ (n := 21) (S := fun w' => w'.cell? ⟨gb604, 0, none⟩ = some (.bool a0_0) ∧ w'.cell? ⟨gb604, 1, none⟩ = some (.int .u64 a0_1) ∧ w'.cell? ⟨gb604, 2, none⟩ = some (.int .u64 a0_2) ∧ w'.cell? ⟨gb604, 3, none⟩ = some (.bool a0_3) ∧ w'.cell? ⟨gb604, 4, none⟩ = some (.int .u64 a0_4) ∧ w'.cell? ⟨gb604, 5, none⟩ = some (.int .u64 a0_5) ∧ w'.cell? ⟨gb605, 0, none⟩ = some (.bool a1_0) ∧ w'.cell? ⟨gb605, 1, none⟩ = some (.int .u64 a1_1) ∧ w'.cell? ⟨gb605, 2, none⟩ = some (.int .u64 a1_2) ∧ w'.cell? ⟨gb605, 3, none⟩ = some (.bool a1_3) ∧ w'.cell? ⟨gb605, 4, none⟩ = some (.int .u64 a1_4) ∧ w'.cell? ⟨gb605, 5, none⟩ = some (.int .u64 a1_5)) (ds := []) #[false, false, false, false, false, false, false, false, false, false, false, false, false, false, false, false, false, false, false, false, false] (by kernel_rfl) rfl rfl ⟨zc BK604 0, zc BK604 1, zc BK604 2, zc BK604 3, zc BK604 4, zc BK604 5, zc BK605 0, zc BK605 1, zc BK605 2, zc BK605 3, zc BK605 4, zc BK605 5⟩ (fun hHeld => ?_); refine with_tabW intrusionref07_joined.tab3 intrusionref07_joined.bits3 (fun HT_ HW_ => ?_)
       generalize w23.drew = w27 at BK604 BK605 HB hHeld ⊢
       refine zp 0 12 HT_ ?_; refine zp 2 14 HT_ ?_; refine zt 1 13 HT_ HW_ hHeld ?_; refine zt 3 15 HT_ HW_ hHeld ?_; refine zo 4 16 HT_ (fun K hK => ?_)
       refine zg Try.func80 #[.agg #[.bool a0_3, .int .u64 a0_4, .int .u64 a0_5], .agg #[.bool a1_0, .int .u64 a1_1, .int .u64 a1_2]] ?_
       with_reducible refine (intrusionref07_Before.calls a0_3 a0_4 a0_5 a1_0 a1_1 a1_2 true _ A9.out).mono ?_
       rintro e w28 ⟨rfl, hb⟩
       refine ⟨_, rfl, ?_⟩
       replace BK604 := Aside0.mk (blk_below (g := gb604) (o := .cells #[.bool a0_0, .int .u64 a0_1, .int .u64 a0_2, .bool a0_3, .int .u64 a0_4, .int .u64 a0_5] 66 (0, 0)) (zK BK604) hb)
       replace BK605 := Aside0.mk (blk_below (g := gb605) (o := .cells #[.bool a1_0, .int .u64 a1_1, .int .u64 a1_2, .bool a1_3, .int .u64 a1_4, .int .u64 a1_5] 66 (0, 0)) (zK BK605) hb)
       replace HB := Aside0.mk (below_step (zB HB) hb)
       (try clear hb)
       refine hK.out _ _ ⟨zc BK604 0, zc BK604 1, zc BK604 2, zc BK604 3, zc BK604 4, zc BK604 5, zc BK605 0, zc BK605 1, zc BK605 2, zc BK605 3, zc BK605 4, zc BK605 5⟩ (fun hHeld => ?_)
       clear hK K
       refine zn 16 ?_; refine zp 5 17 HT_ ?_; refine zp 6 18 HT_ ?_; refine zp 7 19 HT_ ?_; refine zt 8 20 HT_ HW_ hHeld ?_; refine zo 9 21 HT_ (fun K hK => ?_)
       refine zg Try.func106 #[.agg #[.bool a0_3, .int .u64 a0_4, .int .u64 a0_5]] ?_
       with_reducible refine (intrusionref07_Last.calls a0_3 a0_4 a0_5 false _ A11.out).mono ?_
       rintro e w29 ⟨rfl, hb⟩
       refine ⟨_, rfl, ?_⟩
       replace BK604 := Aside0.mk (blk_below (g := gb604) (o := .cells #[.bool a0_0, .int .u64 a0_1, .int .u64 a0_2, .bool a0_3, .int .u64 a0_4, .int .u64 a0_5] 66 (0, 0)) (zK BK604) hb)
       replace BK605 := Aside0.mk (blk_below (g := gb605) (o := .cells #[.bool a1_0, .int .u64 a1_1, .int .u64 a1_2, .bool a1_3, .int .u64 a1_4, .int .u64 a1_5] 66 (0, 0)) (zK BK605) hb)
       replace HB := Aside0.mk (below_step (zB HB) hb)
       (try clear hb)
       refine hK.out _ _ ⟨zc BK604 0, zc BK604 1, zc BK604 2, zc BK604 3, zc BK604 4, zc BK604 5, zc BK605 0, zc BK605 1, zc BK605 2, zc BK605 3, zc BK605 4, zc BK605 5⟩ (fun hHeld => ?_)
       clear hK K
       refine zn 21 ?_; refine zp 10 22 HT_ ?_; refine zp 11 23 HT_ ?_; refine zp 12 24 HT_ ?_; refine zp 15 27 HT_ ?_; refine zt 13 25 HT_ HW_ hHeld ?_; refine zt 16 28 HT_ HW_ hHeld ?_; refine zo 14 26 HT_ (fun K hK => ?_)
       refine zg Try.func91 #[.agg #[.bool a0_3, .int .u64 a0_4, .int .u64 a0_5]] ?_
       with_reducible refine (intrusionref07_After.calls a0_3 a0_4 a0_5 t608 t609 t610 _ A21.out).mono ?_
       rintro e w30 ⟨rfl, hb⟩
       refine ⟨_, rfl, ?_⟩
       replace BK604 := Aside0.mk (blk_below (g := gb604) (o := .cells #[.bool a0_0, .int .u64 a0_1, .int .u64 a0_2, .bool a0_3, .int .u64 a0_4, .int .u64 a0_5] 66 (0, 0)) (zK BK604) hb)
       replace BK605 := Aside0.mk (blk_below (g := gb605) (o := .cells #[.bool a1_0, .int .u64 a1_1, .int .u64 a1_2, .bool a1_3, .int .u64 a1_4, .int .u64 a1_5] 66 (0, 0)) (zK BK605) hb)
       replace HB := Aside0.mk (below_step (zB HB) hb)
       (try clear hb)
       refine hK.out _ _ ⟨zc BK604 0, zc BK604 1, zc BK604 2, zc BK604 3, zc BK604 4, zc BK604 5, zc BK605 0, zc BK605 1, zc BK605 2, zc BK605 3, zc BK605 4, zc BK605 5⟩ (fun hHeld => ?_)
       clear hK K
       refine zn 26 ?_; refine zp 17 29 HT_ ?_; refine zp 18 30 HT_ ?_; refine zp 19 31 HT_ ?_; refine zp 20 4 HT_ ?_; refine zd HT_ ?_
       try go_wp2
       go_ret
       exact ⟨by first | rfl | (simp [errW_none, errW_some] <;> rfl) | (simp [*, errW_none, errW_some] <;> rfl), by repeat (first | (with_reducible first | exact HB.out | apply below_alloc | apply pw_below_drewN | apply below_drew1 | refine below_set ?_ GE604.out | refine below_set ?_ GE605.out) | exact HB.out)⟩
   · replace c10 := Bool.eq_false_iff.mpr c10
     subst c10
     rw [if_neg zF] at H
     obtain rfl := Option.some.inj H
     go_enter Try.func81, Try.ntmps81
     try go_wp2_with (first | ((with_reducible refine gate_dst (N := 2) rfl ?_); refine zx 2 #[.bool a0_0, .int .u64 a0_1, .int .u64 a0_2, .bool a0_3, .int .u64 a0_4, .int .u64 a0_5] 66 ?_; intro gb604 hg w31 hbox hb; have BK604 := Aside0.mk (hbox); have GW604 := Aside0.mk ((by rw [hg]; exact (below_size (zB HB)) : w.heap.size ≤ gb604)); have GE604 := Aside0.mk ((by rw [hg]; exact (below_size (zB HB)) : w.heap.size ≤ gb604)); replace HB := Aside0.mk (below_step (zB HB) hb); clear hb hbox hg) | ((with_reducible refine gate_dst (N := 3) rfl ?_); refine zx 3 #[.bool a1_0, .int .u64 a1_1, .int .u64 a1_2, .bool a1_3, .int .u64 a1_4, .int .u64 a1_5] 66 ?_; intro gb605 hg w32 hbox hb; have BK605 := Aside0.mk (hbox); have GW605 := Aside0.mk ((by rw [hg]; exact (below_size (zB HB)) : w.heap.size ≤ gb605)); have GE605 := Aside0.mk ((by rw [hg]; exact (below_size (zB HB)) : w.heap.size ≤ gb605)); replace HB := Aside0.mk (below_step (zB HB) hb); have NB604_605 := Aside0.mk ((by rw [hg]; exact Nat.ne_of_lt (blk_lt (g := gb604) (o := .cells #[.bool a0_0, .int .u64 a0_1, .int .u64 a0_2, .bool a0_3, .int .u64 a0_4, .int .u64 a0_5] 66 (0, 0)) (zK BK604)) : gb604 ≠ gb605)); have NB605_604 := Aside0.mk ((by rw [hg]; exact Nat.ne_of_gt (blk_lt (g := gb604) (o := .cells #[.bool a0_0, .int .u64 a0_1, .int .u64 a0_2, .bool a0_3, .int .u64 a0_4, .int .u64 a0_5] 66 (0, 0)) (zK BK604)) : gb605 ≠ gb604)); replace BK604 := Aside0.mk (blk_below (g := gb604) (o := .cells #[.bool a0_0, .int .u64 a0_1, .int .u64 a0_2, .bool a0_3, .int .u64 a0_4, .int .u64 a0_5] 66 (0, 0)) (zK BK604) hb); clear hb hbox hg; have hnb33 := NB604_605.out; have hnc33 := NB605_604.out; obtain ⟨hcz34_0, hcz34_1, hcz34_2, hcz34_3, hcz34_4, hcz34_5⟩ := zc6 BK604; obtain ⟨hfz34_0, hfz34_1, hfz34_2, hfz34_3, hfz34_4, hfz34_5⟩ := zf6 BK604; obtain ⟨hcz35_0, hcz35_1, hcz35_2, hcz35_3, hcz35_4, hcz35_5⟩ := zc6 BK605; obtain ⟨hfz35_0, hfz35_1, hfz35_2, hfz35_3, hfz35_4, hfz35_5⟩ := zf6 BK605))
     replace BK604 := Aside0.mk (blk_drew BK604.out)
     replace BK605 := Aside0.mk (blk_drew BK605.out)
     replace HB := Aside0.mk (below_drew1 HB.out)
     refine start_ (n := 21) (S := fun w' => w'.cell? ⟨gb604, 0, none⟩ = some (.bool a0_0) ∧ w'.cell? ⟨gb604, 1, none⟩ = some (.int .u64 a0_1) ∧ w'.cell? ⟨gb604, 2, none⟩ = some (.int .u64 a0_2) ∧ w'.cell? ⟨gb604, 3, none⟩ = some (.bool a0_3) ∧ w'.cell? ⟨gb604, 4, none⟩ = some (.int .u64 a0_4) ∧ w'.cell? ⟨gb604, 5, none⟩ = some (.int .u64 a0_5) ∧ w'.cell? ⟨gb605, 0, none⟩ = some (.bool a1_0) ∧ w'.cell? ⟨gb605, 1, none⟩ = some (.int .u64 a1_1) ∧ w'.cell? ⟨gb605, 2, none⟩ = some (.int .u64 a1_2) ∧ w'.cell? ⟨gb605, 3, none⟩ = some (.bool a1_3) ∧ w'.cell? ⟨gb605, 4, none⟩ = some (.int .u64 a1_4) ∧ w'.cell? ⟨gb605, 5, none⟩ = some (.int .u64 a1_5)) (ds := []) #[false, false, false, false, false, false, false, false, false, false, false, false, false, false, false, false, false, false, false, false, false] (by kernel_rfl) rfl rfl ⟨zc BK604 0, zc BK604 1, zc BK604 2, zc BK604 3, zc BK604 4, zc BK604 5, zc BK605 0, zc BK605 1, zc BK605 2, zc BK605 3, zc BK605 4, zc BK605 5⟩ (fun hHeld => ?_); refine with_tabW intrusionref07_joined.tab3 intrusionref07_joined.bits3 (fun HT_ HW_ => ?_)
     generalize w32.drew = w36 at BK604 BK605 HB hHeld ⊢
     refine zp 0 12 HT_ ?_; refine zp 2 14 HT_ ?_; refine zt 1 13 HT_ HW_ hHeld ?_; refine zt 3 15 HT_ HW_ hHeld ?_; refine zo 4 16 HT_ (fun K hK => ?_)
     refine zg Try.func80 #[.agg #[.bool a0_3, .int .u64 a0_4, .int .u64 a0_5], .agg #[.bool a1_0, .int .u64 a1_1, .int .u64 a1_2]] ?_
     with_reducible refine (intrusionref07_Before.calls a0_3 a0_4 a0_5 a1_0 a1_1 a1_2 false _ A9.out).mono ?_
     rintro e w37 ⟨rfl, hb⟩
     refine ⟨_, rfl, ?_⟩
     replace BK604 := Aside0.mk (blk_below (g := gb604) (o := .cells #[.bool a0_0, .int .u64 a0_1, .int .u64 a0_2, .bool a0_3, .int .u64 a0_4, .int .u64 a0_5] 66 (0, 0)) (zK BK604) hb)
     replace BK605 := Aside0.mk (blk_below (g := gb605) (o := .cells #[.bool a1_0, .int .u64 a1_1, .int .u64 a1_2, .bool a1_3, .int .u64 a1_4, .int .u64 a1_5] 66 (0, 0)) (zK BK605) hb)
     replace HB := Aside0.mk (below_step (zB HB) hb)
     (try clear hb)
     refine hK.out _ _ ⟨zc BK604 0, zc BK604 1, zc BK604 2, zc BK604 3, zc BK604 4, zc BK604 5, zc BK605 0, zc BK605 1, zc BK605 2, zc BK605 3, zc BK605 4, zc BK605 5⟩ (fun hHeld => ?_)
     clear hK K
     refine zn 16 ?_; refine zp 5 17 HT_ ?_; refine zp 6 18 HT_ ?_; refine zu 7 19 HT_ ?_; refine zu 8 20 HT_ ?_; refine zu 9 21 HT_ ?_; refine zu 10 22 HT_ ?_; refine zu 11 23 HT_ ?_; refine zu 12 24 HT_ ?_; refine zu 13 25 HT_ ?_; refine zu 14 26 HT_ ?_; refine zu 15 27 HT_ ?_; refine zu 16 28 HT_ ?_; refine zu 17 29 HT_ ?_; refine zu 18 30 HT_ ?_; refine zp 19 31 HT_ ?_; refine zp 20 4 HT_ ?_; refine zd HT_ ?_
     try go_wp2
     go_ret
     exact ⟨by first | rfl | (simp [errW_none, errW_some] <;> rfl) | (simp [*, errW_none, errW_some] <;> rfl), by repeat (first | (with_reducible first | exact HB.out | apply below_alloc | apply pw_below_drewN | apply below_drew1 | refine below_set ?_ GE604.out | refine below_set ?_ GE605.out) | exact HB.out)⟩
end Go.Proofs.Ytcgfpffgiimgmaa.Q
end
