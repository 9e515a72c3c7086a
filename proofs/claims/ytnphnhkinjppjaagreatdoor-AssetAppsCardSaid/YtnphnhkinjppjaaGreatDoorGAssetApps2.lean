/- The law AssetApps answers true for every input and leaves its arguments as they were. No condition. (Part 2 of 5: the kit's printed words and walks, hand-made contracts and plain laws, joined in build order, without what the theorem does not reach.) -/
import Derived.BigQuiet
import Derived.Outline
import Derived.Deep.QuietTactic
import Derived.StillTailTactics
import Derived.RegionTactic
import Derived.Test.YtnphnhkinjppjaaGreatDoorGAssetApps1
section
namespace Go.Proofs.YtnphnhkinjppjaaGreatDoor.Q
open Go.RowKit Go.Proofs.YtnphnhkinjppjaaGreatDoorW.PrintWords Go.Proofs.YtnphnhkinjppjaaGreatDoorW.PrintLast Go.Proofs.YtnphnhkinjppjaaGreatDoorW.PrintMore
attribute [local go_sem] max2_int min2_int max_two min_two max_three min_three max_four min_four
set_option linter.unusedVariables false
set_option linter.unusedSimpArgs false
def address_ValidPrefix.f (a0_0 : Bool) (a0_1 : Int) (a0_2 : Int) (a0_3 : Int) : Option (Bool) := (address_Valid.f a0_0 a0_1 a0_2).bind fun t115 => (if t115 = true then (if a0_3 < 0 then (some false) else ((address_size.f a0_0 a0_1 a0_2).bind fun t116 => (if a0_3 > t116 then (some false) else ((address_mask.f a0_0 a0_1 a0_2 a0_3).bind fun bt117 => (if (Go.bits .and .u64 a0_1 bt117.1) = 0 then (some ((Go.bits .and .u64 a0_2 bt117.2) == 0)) else (some false)))))) else (some false))
def address_ValidPrefix.T1 : Bool × List (List Nat × List Nat) := (true, [([], []), ([0], [0]), ([1], [1]), ([2], [2]), ([3, 2], [3]), ([4], [4]), ([5, 4], [4, 5]), ([6, 4], [4, 6]), ([4, 7], [4, 7]), ([8, 4], [8]), ([9], [9]), ([10, 9], [9, 10]), ([9], [9]), ([12, 9], [9, 12]), ([13, 9, 9], [9, 13]), ([11, 14, 9], [9, 11, 14]), ([9, 15], [9, 15])])
def address_ValidPrefix.B1 : List Nat := [0, 1, 3, 7, 15, 31, 63, 127, 255, 511, 1023, 2047, 1023, 5119, 13311, 32767, 65535]
theorem address_ValidPrefix.tab1 : rtab .any (opsOf Tryz.f56 1) = address_ValidPrefix.T1 := by kernel_rfl
theorem address_ValidPrefix.bits1 : waitsOk address_ValidPrefix.T1.2 address_ValidPrefix.B1 = true := by kernel_rfl
set_option maxHeartbeats 8000000 in
set_option maxRecDepth 100000 in
theorem address_ValidPrefix.calls (a0_0 : Bool) (a0_1 : Int) (a0_2 : Int) (a0_3 : Int) (r : Bool) (w : World) (h : address_ValidPrefix.f a0_0 a0_1 a0_2 a0_3 = some r) :
 Calls Tryz.prog 56 #[.agg #[.bool a0_0, .int .u64 a0_1, .int .u64 a0_2, .int .i64 a0_3]] w fun e w' => e = .returned (.bool r) ∧ Below w.heap.size w w' := by
 have hu33 := Tryz.underlying33
 have hu31 := Tryz.underlying31
 have HB := Aside0.mk (Below.refl w.heap.size w)
 unfold address_ValidPrefix.f at h; have H := h
 clear h
 replace H := Option.bind_eq_some_iff.mp H
 obtain ⟨t115, A20, H⟩ := H
 try dsimp only at H
 have A2 := Aside0.mk A20
 clear A20
 by_cases c3 : t115 = true
 · subst c3
   rw [if_pos rfl] at H
   by_cases c4 : a0_3 < 0
   · rw [if_pos c4] at H
     have c4b0 : decide (a0_3 < 0) = true := decide_eq_true c4
     clear c4
     obtain rfl := Option.some.inj H
     go_enter Tryz.func56, Tryz.ntmps56
     try go_wp2_with (first | ((with_reducible refine gate_dst (N := 1) rfl ?_); refine zx 1 #[.bool a0_0, .int .u64 a0_1, .int .u64 a0_2, .int .i64 a0_3] 33 ?_; intro gb114 hg w5 hbox hb; have BK114 := Aside0.mk (hbox); have GW114 := Aside0.mk ((by rw [hg]; exact (below_size (zB HB)) : w.heap.size ≤ gb114)); have GE114 := Aside0.mk ((by rw [hg]; exact (below_size (zB HB)) : w.heap.size ≤ gb114)); replace HB := Aside0.mk (below_step (zB HB) hb); clear hb hbox hg))
     replace BK114 := Aside0.mk (blk_drew BK114.out)
     replace HB := Aside0.mk (below_drew1 HB.out)
     refine start_ (n := 17) (S := fun w' => w'.cell? ⟨gb114, 0, none⟩ = some (.bool a0_0) ∧ w'.cell? ⟨gb114, 1, none⟩ = some (.int .u64 a0_1) ∧ w'.cell? ⟨gb114, 2, none⟩ = some (.int .u64 a0_2) ∧ w'.cell? ⟨gb114, 3, none⟩ = some (.int .i64 a0_3)) (ds := []) #[false, false, false, false, false, false, false, false, false, false, false, false, false, false, false, false, false] (by kernel_rfl) rfl rfl ⟨zc BK114 0, zc BK114 1, zc BK114 2, zc BK114 3⟩ (fun hHeld => ?_); refine with_tabW address_ValidPrefix.tab1 address_ValidPrefix.bits1 (fun HT_ HW_ => ?_)
     generalize w5.drew = w6 at BK114 HB hHeld ⊢
     refine zp 0 5 HT_ ?_; refine zt 1 6 HT_ HW_ hHeld ?_; refine zo 2 7 HT_ (fun K hK => ?_)
     refine zg Tryz.func91 #[.agg #[.bool a0_0, .int .u64 a0_1, .int .u64 a0_2]] ?_
     with_reducible refine (address_Valid.calls a0_0 a0_1 a0_2 true _ A2.out).mono ?_
     rintro e w7 ⟨rfl, hb⟩
     refine ⟨_, rfl, ?_⟩
     replace BK114 := Aside0.mk (blk_below (g := gb114) (o := .cells #[.bool a0_0, .int .u64 a0_1, .int .u64 a0_2, .int .i64 a0_3] 33 (0, 0)) (zK BK114) hb)
     replace HB := Aside0.mk (below_step (zB HB) hb)
     (try clear hb)
     refine hK.out _ _ ⟨zc BK114 0, zc BK114 1, zc BK114 2, zc BK114 3⟩ (fun hHeld => ?_)
     clear hK K
     refine zn 7 ?_; refine zp 3 8 HT_ ?_; refine zp 4 9 HT_ ?_; refine zp 5 10 HT_ ?_; refine zt 6 11 HT_ HW_ hHeld ?_; refine zp 7 12 HT_ ?_; refine zp 8 13 HT_ ?_; refine zp 9 14 HT_ ?_; refine zu 10 15 HT_ ?_; refine zu 11 16 HT_ ?_; refine zu 12 17 HT_ ?_; refine zu 13 18 HT_ ?_; refine zu 14 19 HT_ ?_; refine zu 15 20 HT_ ?_; refine zp 16 21 HT_ ?_; refine zd HT_ ?_
     try go_wp2
     go_ret
     exact ⟨by first | rfl | (simp [errW_none, errW_some] <;> rfl) | (simp [*, errW_none, errW_some] <;> rfl), by repeat (first | (with_reducible first | exact HB.out | apply below_alloc | apply pw_below_drewN | apply below_drew1 | refine below_set ?_ GE114.out) | exact HB.out)⟩
   · rw [if_neg c4] at H
     have c4b0 : decide (a0_3 < 0) = false := decide_eq_false c4
     clear c4
     replace H := Option.bind_eq_some_iff.mp H
     obtain ⟨t116, A80, H⟩ := H
     try dsimp only at H
     have A8 := Aside0.mk A80
     clear A80
     by_cases c9 : a0_3 > t116
     · rw [if_pos c9] at H
       have c9b0 : decide (t116 < a0_3) = true := decide_eq_true c9
       clear c9
       obtain rfl := Option.some.inj H
       go_enter Tryz.func56, Tryz.ntmps56
       try go_wp2_with (first | ((with_reducible refine gate_dst (N := 1) rfl ?_); refine zx 1 #[.bool a0_0, .int .u64 a0_1, .int .u64 a0_2, .int .i64 a0_3] 33 ?_; intro gb114 hg w10 hbox hb; have BK114 := Aside0.mk (hbox); have GW114 := Aside0.mk ((by rw [hg]; exact (below_size (zB HB)) : w.heap.size ≤ gb114)); have GE114 := Aside0.mk ((by rw [hg]; exact (below_size (zB HB)) : w.heap.size ≤ gb114)); replace HB := Aside0.mk (below_step (zB HB) hb); clear hb hbox hg))
       replace BK114 := Aside0.mk (blk_drew BK114.out)
       replace HB := Aside0.mk (below_drew1 HB.out)
       refine start_ (n := 17) (S := fun w' => w'.cell? ⟨gb114, 0, none⟩ = some (.bool a0_0) ∧ w'.cell? ⟨gb114, 1, none⟩ = some (.int .u64 a0_1) ∧ w'.cell? ⟨gb114, 2, none⟩ = some (.int .u64 a0_2) ∧ w'.cell? ⟨gb114, 3, none⟩ = some (.int .i64 a0_3)) (ds := []) #[false, false, false, false, false, false, false, false, false, false, false, false, false, false, false, false, false] (by kernel_rfl) rfl rfl ⟨zc BK114 0, zc BK114 1, zc BK114 2, zc BK114 3⟩ (fun hHeld => ?_); refine with_tabW address_ValidPrefix.tab1 address_ValidPrefix.bits1 (fun HT_ HW_ => ?_)
       generalize w10.drew = w11 at BK114 HB hHeld ⊢
       refine zp 0 5 HT_ ?_; refine zt 1 6 HT_ HW_ hHeld ?_; refine zo 2 7 HT_ (fun K hK => ?_)
       refine zg Tryz.func91 #[.agg #[.bool a0_0, .int .u64 a0_1, .int .u64 a0_2]] ?_
       with_reducible refine (address_Valid.calls a0_0 a0_1 a0_2 true _ A2.out).mono ?_
       rintro e w12 ⟨rfl, hb⟩
       refine ⟨_, rfl, ?_⟩
       replace BK114 := Aside0.mk (blk_below (g := gb114) (o := .cells #[.bool a0_0, .int .u64 a0_1, .int .u64 a0_2, .int .i64 a0_3] 33 (0, 0)) (zK BK114) hb)
       replace HB := Aside0.mk (below_step (zB HB) hb)
       (try clear hb)
       refine hK.out _ _ ⟨zc BK114 0, zc BK114 1, zc BK114 2, zc BK114 3⟩ (fun hHeld => ?_)
       clear hK K
       refine zn 7 ?_; refine zp 3 8 HT_ ?_; refine zp 4 9 HT_ ?_; refine zp 5 10 HT_ ?_; refine zt 6 11 HT_ HW_ hHeld ?_; refine zp 7 12 HT_ ?_; refine zp 8 13 HT_ ?_; refine zp 9 14 HT_ ?_; refine zp 10 15 HT_ ?_; refine zp 12 17 HT_ ?_; refine zt 11 16 HT_ HW_ hHeld ?_; refine zt 13 18 HT_ HW_ hHeld ?_; refine zo 14 19 HT_ (fun K hK => ?_)
       refine zg Tryz.func92 #[.agg #[.bool a0_0, .int .u64 a0_1, .int .u64 a0_2]] ?_
       with_reducible refine (address_size.calls a0_0 a0_1 a0_2 t116 _ A8.out).mono ?_
       rintro e w13 ⟨rfl, hb⟩
       refine ⟨_, rfl, ?_⟩
       replace BK114 := Aside0.mk (blk_below (g := gb114) (o := .cells #[.bool a0_0, .int .u64 a0_1, .int .u64 a0_2, .int .i64 a0_3] 33 (0, 0)) (zK BK114) hb)
       replace HB := Aside0.mk (below_step (zB HB) hb)
       (try clear hb)
       refine hK.out _ _ ⟨zc BK114 0, zc BK114 1, zc BK114 2, zc BK114 3⟩ (fun hHeld => ?_)
       clear hK K
       refine zn 19 ?_; refine zp 15 20 HT_ ?_; refine zp 16 21 HT_ ?_; refine zd HT_ ?_
       try go_wp2
       go_ret
       exact ⟨by first | rfl | (simp [errW_none, errW_some] <;> rfl) | (simp [*, errW_none, errW_some] <;> rfl), by repeat (first | (with_reducible first | exact HB.out | apply below_alloc | apply pw_below_drewN | apply below_drew1 | refine below_set ?_ GE114.out) | exact HB.out)⟩
     · rw [if_neg c9] at H
       have c9b0 : decide (t116 < a0_3) = false := decide_eq_false c9
       clear c9
       replace H := Option.bind_eq_some_iff.mp H
       obtain ⟨⟨t117, t118⟩, A140, H⟩ := H
       try dsimp only at H
       have A14 := Aside0.mk A140
       clear A140
       by_cases c15 : (Go.bits .and .u64 a0_1 t117) = 0
       · rw [if_pos c15] at H
         have c15b0 : ((Go.bits .and .u64 a0_1 t117) == 0) = true := beq_iff_eq.mpr c15
         have c15b1 : ((Go.bits .and .u64 a0_1 t117) != 0) = false := bne_eq_false_iff_eq.mpr c15
         clear c15
         obtain rfl := Option.some.inj H
         go_enter Tryz.func56, Tryz.ntmps56
         try go_wp2_with (first | ((with_reducible refine gate_dst (N := 1) rfl ?_); refine zx 1 #[.bool a0_0, .int .u64 a0_1, .int .u64 a0_2, .int .i64 a0_3] 33 ?_; intro gb114 hg w16 hbox hb; have BK114 := Aside0.mk (hbox); have GW114 := Aside0.mk ((by rw [hg]; exact (below_size (zB HB)) : w.heap.size ≤ gb114)); have GE114 := Aside0.mk ((by rw [hg]; exact (below_size (zB HB)) : w.heap.size ≤ gb114)); replace HB := Aside0.mk (below_step (zB HB) hb); clear hb hbox hg))
         replace BK114 := Aside0.mk (blk_drew BK114.out)
         replace HB := Aside0.mk (below_drew1 HB.out)
         refine start_ (n := 17) (S := fun w' => w'.cell? ⟨gb114, 0, none⟩ = some (.bool a0_0) ∧ w'.cell? ⟨gb114, 1, none⟩ = some (.int .u64 a0_1) ∧ w'.cell? ⟨gb114, 2, none⟩ = some (.int .u64 a0_2) ∧ w'.cell? ⟨gb114, 3, none⟩ = some (.int .i64 a0_3)) (ds := []) #[false, false, false, false, false, false, false, false, false, false, false, false, false, false, false, false, false] (by kernel_rfl) rfl rfl ⟨zc BK114 0, zc BK114 1, zc BK114 2, zc BK114 3⟩ (fun hHeld => ?_); refine with_tabW address_ValidPrefix.tab1 address_ValidPrefix.bits1 (fun HT_ HW_ => ?_)
         generalize w16.drew = w17 at BK114 HB hHeld ⊢
         refine zp 0 5 HT_ ?_; refine zt 1 6 HT_ HW_ hHeld ?_; refine zo 2 7 HT_ (fun K hK => ?_)
         refine zg Tryz.func91 #[.agg #[.bool a0_0, .int .u64 a0_1, .int .u64 a0_2]] ?_
         with_reducible refine (address_Valid.calls a0_0 a0_1 a0_2 true _ A2.out).mono ?_
         rintro e w18 ⟨rfl, hb⟩
         refine ⟨_, rfl, ?_⟩
         replace BK114 := Aside0.mk (blk_below (g := gb114) (o := .cells #[.bool a0_0, .int .u64 a0_1, .int .u64 a0_2, .int .i64 a0_3] 33 (0, 0)) (zK BK114) hb)
         replace HB := Aside0.mk (below_step (zB HB) hb)
         (try clear hb)
         refine hK.out _ _ ⟨zc BK114 0, zc BK114 1, zc BK114 2, zc BK114 3⟩ (fun hHeld => ?_)
         clear hK K
         refine zn 7 ?_; refine zp 3 8 HT_ ?_; refine zp 4 9 HT_ ?_; refine zp 5 10 HT_ ?_; refine zt 6 11 HT_ HW_ hHeld ?_; refine zp 7 12 HT_ ?_; refine zp 8 13 HT_ ?_; refine zp 9 14 HT_ ?_; refine zp 10 15 HT_ ?_; refine zp 12 17 HT_ ?_; refine zt 11 16 HT_ HW_ hHeld ?_; refine zt 13 18 HT_ HW_ hHeld ?_; refine zo 14 19 HT_ (fun K hK => ?_)
         refine zg Tryz.func92 #[.agg #[.bool a0_0, .int .u64 a0_1, .int .u64 a0_2]] ?_
         with_reducible refine (address_size.calls a0_0 a0_1 a0_2 t116 _ A8.out).mono ?_
         rintro e w19 ⟨rfl, hb⟩
         refine ⟨_, rfl, ?_⟩
         replace BK114 := Aside0.mk (blk_below (g := gb114) (o := .cells #[.bool a0_0, .int .u64 a0_1, .int .u64 a0_2, .int .i64 a0_3] 33 (0, 0)) (zK BK114) hb)
         replace HB := Aside0.mk (below_step (zB HB) hb)
         (try clear hb)
         refine hK.out _ _ ⟨zc BK114 0, zc BK114 1, zc BK114 2, zc BK114 3⟩ (fun hHeld => ?_)
         clear hK K
         refine zn 19 ?_; refine zp 15 20 HT_ ?_; refine zp 16 21 HT_ ?_; refine zd HT_ ?_
         obtain ⟨hcz20_0, hcz20_1, hcz20_2, hcz20_3⟩ := zc4 BK114
         obtain ⟨hfz20_0, hfz20_1, hfz20_2, hfz20_3⟩ := zf4 BK114
         try go_wp2_with (first | ((with_reducible refine gate_callee (f := 86) rfl ?_); refine goesL_ (some 27) rfl rfl Tryz.func86 (by kernel_rfl) rfl #[.agg #[.bool a0_0, .int .u64 a0_1, .int .u64 a0_2], .int .i64 a0_3] rfl (by (try simp only [List.map_toArray, List.map_cons, List.map_nil]); first | done | rfl | (simp only [List.length_drop, List.length_take]; rfl)) ?_; (with_reducible refine (address_mask.calls a0_0 a0_1 a0_2 a0_3 t117 t118 _ A14.out).mono ?_); rintro e w21 ⟨rfl, hb⟩; refine ⟨_, rfl, ?_⟩; replace BK114 := Aside0.mk (blk_below (g := gb114) (o := .cells #[.bool a0_0, .int .u64 a0_1, .int .u64 a0_2, .int .i64 a0_3] 33 (0, 0)) (zK BK114) hb); replace HB := Aside0.mk (below_step (zB HB) hb); (try clear hb); obtain ⟨hcz22_0, hcz22_1, hcz22_2, hcz22_3⟩ := zc4 BK114; obtain ⟨hfz22_0, hfz22_1, hfz22_2, hfz22_3⟩ := zf4 BK114))
         go_ret
         exact ⟨by first | rfl | (simp [errW_none, errW_some] <;> rfl) | (simp [*, errW_none, errW_some] <;> rfl), by repeat (first | (with_reducible first | exact HB.out | apply below_alloc | apply pw_below_drewN | apply below_drew1 | refine below_set ?_ GE114.out) | exact HB.out)⟩
       · rw [if_neg c15] at H
         have c15b0 : ((Go.bits .and .u64 a0_1 t117) == 0) = false := beq_eq_false_iff_ne.mpr c15
         have c15b1 : ((Go.bits .and .u64 a0_1 t117) != 0) = true := bne_iff_ne.mpr c15
         obtain rfl := Option.some.inj H
         go_enter Tryz.func56, Tryz.ntmps56
         try go_wp2_with (first | ((with_reducible refine gate_dst (N := 1) rfl ?_); refine zx 1 #[.bool a0_0, .int .u64 a0_1, .int .u64 a0_2, .int .i64 a0_3] 33 ?_; intro gb114 hg w23 hbox hb; have BK114 := Aside0.mk (hbox); have GW114 := Aside0.mk ((by rw [hg]; exact (below_size (zB HB)) : w.heap.size ≤ gb114)); have GE114 := Aside0.mk ((by rw [hg]; exact (below_size (zB HB)) : w.heap.size ≤ gb114)); replace HB := Aside0.mk (below_step (zB HB) hb); clear hb hbox hg))
         replace BK114 := Aside0.mk (blk_drew BK114.out)
         replace HB := Aside0.mk (below_drew1 HB.out)
         refine start_ (n := 17) (S := fun w' => w'.cell? ⟨gb114, 0, none⟩ = some (.bool a0_0) ∧ w'.cell? ⟨gb114, 1, none⟩ = some (.int .u64 a0_1) ∧ w'.cell? ⟨gb114, 2, none⟩ = some (.int .u64 a0_2) ∧ w'.cell? ⟨gb114, 3, none⟩ = some (.int .i64 a0_3)) (ds := []) #[false, false, false, false, false, false, false, false, false, false, false, false, false, false, false, false, false] (by kernel_rfl) rfl rfl ⟨zc BK114 0, zc BK114 1, zc BK114 2, zc BK114 3⟩ (fun hHeld => ?_); refine with_tabW address_ValidPrefix.tab1 address_ValidPrefix.bits1 (fun HT_ HW_ => ?_)
         generalize w23.drew = w24 at BK114 HB hHeld ⊢
         refine zp 0 5 HT_ ?_; refine zt 1 6 HT_ HW_ hHeld ?_; refine zo 2 7 HT_ (fun K hK => ?_)
         refine zg Tryz.func91 #[.agg #[.bool a0_0, .int .u64 a0_1, .int .u64 a0_2]] ?_
         with_reducible refine (address_Valid.calls a0_0 a0_1 a0_2 true _ A2.out).mono ?_
         rintro e w25 ⟨rfl, hb⟩
         refine ⟨_, rfl, ?_⟩
         replace BK114 := Aside0.mk (blk_below (g := gb114) (o := .cells #[.bool a0_0, .int .u64 a0_1, .int .u64 a0_2, .int .i64 a0_3] 33 (0, 0)) (zK BK114) hb)
         replace HB := Aside0.mk (below_step (zB HB) hb)
         (try clear hb)
         refine hK.out _ _ ⟨zc BK114 0, zc BK114 1, zc BK114 2, zc BK114 3⟩ (fun hHeld => ?_)
         clear hK K
         refine zn 7 ?_; refine zp 3 8 HT_ ?_; refine zp 4 9 HT_ ?_; refine zp 5 10 HT_ ?_; refine zt 6 11 HT_ HW_ hHeld ?_; refine zp 7 12 HT_ ?_; refine zp 8 13 HT_ ?_; refine zp 9 14 HT_ ?_; refine zp 10 15 HT_ ?_; refine zp 12 17 HT_ ?_; refine zt 11 16 HT_ HW_ hHeld ?_; refine zt 13 18 HT_ HW_ hHeld ?_; refine zo 14 19 HT_ (fun K hK => ?_)
         refine zg Tryz.func92 #[.agg #[.bool a0_0, .int .u64 a0_1, .int .u64 a0_2]] ?_
         with_reducible refine (address_size.calls a0_0 a0_1 a0_2 t116 _ A8.out).mono ?_
         rintro e w26 ⟨rfl, hb⟩
         refine ⟨_, rfl, ?_⟩
         replace BK114 := Aside0.mk (blk_below (g := gb114) (o := .cells #[.bool a0_0, .int .u64 a0_1, .int .u64 a0_2, .int .i64 a0_3] 33 (0, 0)) (zK BK114) hb)
         replace HB := Aside0.mk (below_step (zB HB) hb)
         (try clear hb)
         refine hK.out _ _ ⟨zc BK114 0, zc BK114 1, zc BK114 2, zc BK114 3⟩ (fun hHeld => ?_)
         clear hK K
         refine zn 19 ?_; refine zp 15 20 HT_ ?_; refine zp 16 21 HT_ ?_; refine zd HT_ ?_
         obtain ⟨hcz27_0, hcz27_1, hcz27_2, hcz27_3⟩ := zc4 BK114
         obtain ⟨hfz27_0, hfz27_1, hfz27_2, hfz27_3⟩ := zf4 BK114
         try go_wp2_with (first | ((with_reducible refine gate_callee (f := 86) rfl ?_); refine goesL_ (some 27) rfl rfl Tryz.func86 (by kernel_rfl) rfl #[.agg #[.bool a0_0, .int .u64 a0_1, .int .u64 a0_2], .int .i64 a0_3] rfl (by (try simp only [List.map_toArray, List.map_cons, List.map_nil]); first | done | rfl | (simp only [List.length_drop, List.length_take]; rfl)) ?_; (with_reducible refine (address_mask.calls a0_0 a0_1 a0_2 a0_3 t117 t118 _ A14.out).mono ?_); rintro e w28 ⟨rfl, hb⟩; refine ⟨_, rfl, ?_⟩; replace BK114 := Aside0.mk (blk_below (g := gb114) (o := .cells #[.bool a0_0, .int .u64 a0_1, .int .u64 a0_2, .int .i64 a0_3] 33 (0, 0)) (zK BK114) hb); replace HB := Aside0.mk (below_step (zB HB) hb); (try clear hb); obtain ⟨hcz29_0, hcz29_1, hcz29_2, hcz29_3⟩ := zc4 BK114; obtain ⟨hfz29_0, hfz29_1, hfz29_2, hfz29_3⟩ := zf4 BK114))
         go_ret
         exact ⟨by first | rfl | (simp [errW_none, errW_some] <;> rfl) | (simp [*, errW_none, errW_some] <;> rfl), by repeat (first | (with_reducible first | exact HB.out | apply below_alloc | apply pw_below_drewN | apply below_drew1 | refine below_set ?_ GE114.out) | exact HB.out)⟩
 · replace c3 := Bool.eq_false_iff.mpr c3
   subst c3
   rw [if_neg zF] at H
   obtain rfl := Option.some.inj H
   go_enter Tryz.func56, Tryz.ntmps56
   try go_wp2_with (first | ((with_reducible refine gate_dst (N := 1) rfl ?_); refine zx 1 #[.bool a0_0, .int .u64 a0_1, .int .u64 a0_2, .int .i64 a0_3] 33 ?_; intro gb114 hg w30 hbox hb; have BK114 := Aside0.mk (hbox); have GW114 := Aside0.mk ((by rw [hg]; exact (below_size (zB HB)) : w.heap.size ≤ gb114)); have GE114 := Aside0.mk ((by rw [hg]; exact (below_size (zB HB)) : w.heap.size ≤ gb114)); replace HB := Aside0.mk (below_step (zB HB) hb); clear hb hbox hg))
   replace BK114 := Aside0.mk (blk_drew BK114.out)
   replace HB := Aside0.mk (below_drew1 HB.out)
   refine start_ (n := 17) (S := fun w' => w'.cell? ⟨gb114, 0, none⟩ = some (.bool a0_0) ∧ w'.cell? ⟨gb114, 1, none⟩ = some (.int .u64 a0_1) ∧ w'.cell? ⟨gb114, 2, none⟩ = some (.int .u64 a0_2) ∧ w'.cell? ⟨gb114, 3, none⟩ = some (.int .i64 a0_3)) (ds := []) #[false, false, false, false, false, false, false, false, false, false, false, false, false, false, false, false, false] (by kernel_rfl) rfl rfl ⟨zc BK114 0, zc BK114 1, zc BK114 2, zc BK114 3⟩ (fun hHeld => ?_); refine with_tabW address_ValidPrefix.tab1 address_ValidPrefix.bits1 (fun HT_ HW_ => ?_)
   generalize w30.drew = w31 at BK114 HB hHeld ⊢
   refine zp 0 5 HT_ ?_; refine zt 1 6 HT_ HW_ hHeld ?_; refine zo 2 7 HT_ (fun K hK => ?_)
   refine zg Tryz.func91 #[.agg #[.bool a0_0, .int .u64 a0_1, .int .u64 a0_2]] ?_
   with_reducible refine (address_Valid.calls a0_0 a0_1 a0_2 false _ A2.out).mono ?_
   rintro e w32 ⟨rfl, hb⟩
   refine ⟨_, rfl, ?_⟩
   replace BK114 := Aside0.mk (blk_below (g := gb114) (o := .cells #[.bool a0_0, .int .u64 a0_1, .int .u64 a0_2, .int .i64 a0_3] 33 (0, 0)) (zK BK114) hb)
   replace HB := Aside0.mk (below_step (zB HB) hb)
   (try clear hb)
   refine hK.out _ _ ⟨zc BK114 0, zc BK114 1, zc BK114 2, zc BK114 3⟩ (fun hHeld => ?_)
   clear hK K
   refine zn 7 ?_; refine zp 3 8 HT_ ?_; refine zp 4 9 HT_ ?_; refine zu 5 10 HT_ ?_; refine zu 6 11 HT_ ?_; refine zu 7 12 HT_ ?_; refine zp 8 13 HT_ ?_; refine zp 9 14 HT_ ?_; refine zu 10 15 HT_ ?_; refine zu 11 16 HT_ ?_; refine zu 12 17 HT_ ?_; refine zu 13 18 HT_ ?_; refine zu 14 19 HT_ ?_; refine zu 15 20 HT_ ?_; refine zp 16 21 HT_ ?_; refine zd HT_ ?_
   try go_wp2
   go_ret
   exact ⟨by first | rfl | (simp [errW_none, errW_some] <;> rfl) | (simp [*, errW_none, errW_some] <;> rfl), by repeat (first | (with_reducible first | exact HB.out | apply below_alloc | apply pw_below_drewN | apply below_drew1 | refine below_set ?_ GE114.out) | exact HB.out)⟩
end Go.Proofs.YtnphnhkinjppjaaGreatDoor.Q
end

section
namespace Go.Proofs.YtnphnhkinjppjaaGreatDoor.Q
open Go.RowKit Go.Proofs.YtnphnhkinjppjaaGreatDoorW.PrintWords Go.Proofs.YtnphnhkinjppjaaGreatDoorW.PrintLast Go.Proofs.YtnphnhkinjppjaaGreatDoorW.PrintMore
attribute [local go_sem] max2_int min2_int max_two min_two max_three min_three max_four min_four
set_option linter.unusedVariables false
set_option linter.unusedSimpArgs false
mutual
def asset_checkOne.j0 : Nat → Bool → ByteArray → Bool → Int → Int → Int → Int → Int → Int → Int → Bool → Int → List (S74) → Option (Int)
  | 0, _, _, _, _, _, _, _, _, _, _, _, _, _ => none
  | k + 1, x15, x120000, x120001, x120002, x120003, x120004, x120005, x120006, x120007, x120008, x120009, x120010, x120011 => if x15 = true then (some 4) else (if x120007 < 0 then (some 4) else (if x120007 > 64 then (some 4) else (if x120008 < 1 then (some 4) else (if x120008 > 8192 then (some 4) else (if x120010 < 0 then (some 4) else (if x120010 > 3 then (some 4) else (asset_checkOne.l0 k x120011 (x120011.length : Int) 0 x120000 x120001 x120002 x120003 x120004 x120005 x120006 x120007 x120008 x120009 x120010 x120011)))))))
def asset_checkOne.l0 : Nat → List (S74) → Int → Int → ByteArray → Bool → Int → Int → Int → Int → Int → Int → Int → Bool → Int → List (S74) → Option (Int)
  | 0, _, _, _, _, _, _, _, _, _, _, _, _, _, _, _ => none
  | k + 1, x64, x65, x66, x120000, x120001, x120002, x120003, x120004, x120005, x120006, x120007, x120008, x120009, x120010, x120011 => if x66 < x65 then (if 0 ≤ x66 then (if x66 < (x64.length : Int) then (if ((rd_T74 x64 x66).f0) = 6 then (if ((rd_T74 x64 x66).f1) < 0 then (some 4) else (if ((rd_T74 x64 x66).f1) > 65535 then (some 4) else (if ((rd_T74 x64 x66).f2) < 0 then (some 4) else (if ((rd_T74 x64 x66).f2) > 4 then (some 4) else (asset_checkOne.l0 k x64 x65 (wrap64 (x66 + 1)) x120000 x120001 x120002 x120003 x120004 x120005 x120006 x120007 x120008 x120009 x120010 x120011))))) else (if ((rd_T74 x64 x66).f0) = 17 then (if ((rd_T74 x64 x66).f1) < 0 then (some 4) else (if ((rd_T74 x64 x66).f1) > 65535 then (some 4) else (if ((rd_T74 x64 x66).f2) < 0 then (some 4) else (if ((rd_T74 x64 x66).f2) > 4 then (some 4) else (asset_checkOne.l0 k x64 x65 (wrap64 (x66 + 1)) x120000 x120001 x120002 x120003 x120004 x120005 x120006 x120007 x120008 x120009 x120010 x120011))))) else (some 4))) else (none)) else (none)) else ((address_ValidPrefix.f x120001 x120002 x120003 x120004).bind fun t123 => (if t123 = true then (some 0) else (some 2)))
end
def asset_checkOne.f (k : Nat) (a0_0 : ByteArray) (a0_1 : Bool) (a0_2 : Int) (a0_3 : Int) (a0_4 : Int) (a0_5 : Int) (a0_6 : Int) (a0_7 : Int) (a0_8 : Int) (a0_9 : Bool) (a0_10 : Int) (l0_11 : List (S74)) : Option (Int) := if (l0_11.length : Int) > 16 then (some 3) else ((lexer_IsName.f k a0_0).bind fun t120 => (if t120 = true then (if a0_5 < 1 then (asset_checkOne.j0 k true a0_0 a0_1 a0_2 a0_3 a0_4 a0_5 a0_6 a0_7 a0_8 a0_9 a0_10 l0_11) else (if a0_5 > 4 then (asset_checkOne.j0 k true a0_0 a0_1 a0_2 a0_3 a0_4 a0_5 a0_6 a0_7 a0_8 a0_9 a0_10 l0_11) else (if a0_6 < 1 then (asset_checkOne.j0 k true a0_0 a0_1 a0_2 a0_3 a0_4 a0_5 a0_6 a0_7 a0_8 a0_9 a0_10 l0_11) else (asset_checkOne.j0 k (decide (a0_6 > 5)) a0_0 a0_1 a0_2 a0_3 a0_4 a0_5 a0_6 a0_7 a0_8 a0_9 a0_10 l0_11)))) else (some 5)))
theorem asset_checkOne.mono_l : ∀ k, (∀ y0 y1 y2 y3 y4 y5 y6 y7 y8 y9 y10 y11 y12, LeO (asset_checkOne.j0 k y0 y1 y2 y3 y4 y5 y6 y7 y8 y9 y10 y11 y12) (asset_checkOne.j0 (k + 1) y0 y1 y2 y3 y4 y5 y6 y7 y8 y9 y10 y11 y12)) ∧ (∀ y0 y1 y2 y3 y4 y5 y6 y7 y8 y9 y10 y11 y12 y13 y14, LeO (asset_checkOne.l0 k y0 y1 y2 y3 y4 y5 y6 y7 y8 y9 y10 y11 y12 y13 y14) (asset_checkOne.l0 (k + 1) y0 y1 y2 y3 y4 y5 y6 y7 y8 y9 y10 y11 y12 y13 y14))
  | 0 => ⟨fun _ _ _ _ _ _ _ _ _ _ _ _ _ r h => by simp [asset_checkOne.j0] at h, fun _ _ _ _ _ _ _ _ _ _ _ _ _ _ _ r h => by simp [asset_checkOne.l0] at h⟩
  | k + 1 => by
    obtain ⟨ih0, ih1⟩ := asset_checkOne.mono_l k
    refine ⟨?_, ?_⟩
    · intro y0 y1 y2 y3 y4 y5 y6 y7 y8 y9 y10 y11 y12
      unfold asset_checkOne.j0
      repeat' first
      | (with_reducible exact ih0 _ _ _ _ _ _ _ _ _ _ _ _ _)
      | (with_reducible exact ih1 _ _ _ _ _ _ _ _ _ _ _ _ _ _ _)
      | (with_reducible exact lexer_IsName.mono _ _)
      | (with_reducible exact LeO.refl _)
      | (with_reducible exact LeO.none _)
      | (with_reducible refine LeO.ite ?_ ?_)
      | (with_reducible refine LeO.bind ?_ (fun _ => ?_))
      | exact ih0 _ _ _ _ _ _ _ _ _ _ _ _ _
      | exact ih1 _ _ _ _ _ _ _ _ _ _ _ _ _ _ _
      | exact lexer_IsName.mono _ _
      | exact LeO.none _
      | refine LeO.ite ?_ ?_
      | refine LeO.bind ?_ (fun _ => ?_)
    · intro y0 y1 y2 y3 y4 y5 y6 y7 y8 y9 y10 y11 y12 y13 y14
      unfold asset_checkOne.l0
      repeat' first
      | (with_reducible exact ih0 _ _ _ _ _ _ _ _ _ _ _ _ _)
      | (with_reducible exact ih1 _ _ _ _ _ _ _ _ _ _ _ _ _ _ _)
      | (with_reducible exact lexer_IsName.mono _ _)
      | (with_reducible exact LeO.refl _)
      | (with_reducible exact LeO.none _)
      | (with_reducible refine LeO.ite ?_ ?_)
      | (with_reducible refine LeO.bind ?_ (fun _ => ?_))
      | exact ih0 _ _ _ _ _ _ _ _ _ _ _ _ _
      | exact ih1 _ _ _ _ _ _ _ _ _ _ _ _ _ _ _
      | exact lexer_IsName.mono _ _
      | exact LeO.none _
      | refine LeO.ite ?_ ?_
      | refine LeO.bind ?_ (fun _ => ?_)
theorem asset_checkOne.mono : ∀ a0 a1 a2 a3 a4 a5 a6 a7 a8 a9 a10 a11 k, LeO (asset_checkOne.f k a0 a1 a2 a3 a4 a5 a6 a7 a8 a9 a10 a11) (asset_checkOne.f (k + 1) a0 a1 a2 a3 a4 a5 a6 a7 a8 a9 a10 a11) := by
  intro a0 a1 a2 a3 a4 a5 a6 a7 a8 a9 a10 a11 k
  obtain ⟨ih0, ih1⟩ := asset_checkOne.mono_l k
  unfold asset_checkOne.f
  repeat' first
      | (with_reducible exact ih0 _ _ _ _ _ _ _ _ _ _ _ _ _)
      | (with_reducible exact ih1 _ _ _ _ _ _ _ _ _ _ _ _ _ _ _)
      | (with_reducible exact lexer_IsName.mono _ _)
      | (with_reducible exact LeO.refl _)
      | (with_reducible exact LeO.none _)
      | (with_reducible refine LeO.ite ?_ ?_)
      | (with_reducible refine LeO.bind ?_ (fun _ => ?_))
      | exact ih0 _ _ _ _ _ _ _ _ _ _ _ _ _
      | exact ih1 _ _ _ _ _ _ _ _ _ _ _ _ _ _ _
      | exact lexer_IsName.mono _ _
      | exact LeO.none _
      | refine LeO.ite ?_ ?_
      | refine LeO.bind ?_ (fun _ => ?_)
set_option maxHeartbeats 8000000 in
set_option maxRecDepth 100000 in
theorem asset_checkOne.calls (k : Nat) (a0_0 : ByteArray) (a0_1 : Bool) (a0_2 : Int) (a0_3 : Int) (a0_4 : Int) (a0_5 : Int) (a0_6 : Int) (a0_7 : Int) (a0_8 : Int) (a0_9 : Bool) (a0_10 : Int) (A0_11 : Option Addr) (c0_11 : Nat) (l0_11 : List (S74)) (r : Int) (w : World) (hr0_11 : Kd.C k74 w A0_11 l0_11.length l0_11) (hc0_11 : l0_11.length ≤ c0_11) (h : asset_checkOne.f k a0_0 a0_1 a0_2 a0_3 a0_4 a0_5 a0_6 a0_7 a0_8 a0_9 a0_10 l0_11 = some r) :
 Calls Tryz.prog 30 #[.agg #[.string a0_0, .bool a0_1, .int .u64 a0_2, .int .u64 a0_3, .int .i64 a0_4, .int .i64 a0_5, .int .i64 a0_6, .int .i64 a0_7, .int .i64 a0_8, .bool a0_9, .int .i64 a0_10, .slice A0_11 l0_11.length c0_11]] w fun e w' => e = .returned (.int .i64 r) ∧ Below w.heap.size w w' := by
 have hu36 := Tryz.underlying36
 have hu74 := Tryz.underlying74
 have hu33 := Tryz.underlying33
 have HR0_11 := Aside0.mk hr0_11
 have HC0_11 := Aside0.mk hc0_11
 clear hr0_11 hc0_11
 have HB := Aside0.mk (Below.refl w.heap.size w)
 unfold asset_checkOne.f at h; have H := h
 clear h
 by_cases c2 : (l0_11.length : Int) > 16
 · rw [if_pos c2] at H
   have c2b0 : decide (16 < (l0_11.length : Int)) = true := decide_eq_true c2
   have c2b1 : decide (16 < l0_11.length) = true := decide_eq_true (by omega)
   clear c2
   obtain rfl := Option.some.inj H
   go_enter Tryz.func30, Tryz.ntmps30
   go_wp2_with (first | ((with_reducible refine gate_dst (N := 1) rfl ?_); refine zx 1 #[.string a0_0, .bool a0_1, .int .u64 a0_2, .int .u64 a0_3, .int .i64 a0_4, .int .i64 a0_5, .int .i64 a0_6, .int .i64 a0_7, .int .i64 a0_8, .bool a0_9, .int .i64 a0_10, .slice A0_11 l0_11.length c0_11] 36 ?_; intro gb119 hg w3 hbox hb; have BK119 := Aside0.mk (hbox); have GW119 := Aside0.mk ((by rw [hg]; exact (below_size (zB HB)) : w.heap.size ≤ gb119)); have GE119 := Aside0.mk ((by rw [hg]; exact (below_size (zB HB)) : w.heap.size ≤ gb119)); replace HB := Aside0.mk (below_step (zB HB) hb); clear hb hbox hg; obtain ⟨hcz4_0, hcz4_1, hcz4_2, hcz4_3, hcz4_4, hcz4_5, hcz4_6, hcz4_7, hcz4_8, hcz4_9, hcz4_10, hcz4_11⟩ := zc12 BK119; obtain ⟨hfz4_0, hfz4_1, hfz4_2, hfz4_3, hfz4_4, hfz4_5, hfz4_6, hfz4_7, hfz4_8, hfz4_9, hfz4_10, hfz4_11⟩ := zf12 BK119))
   go_ret
   exact ⟨by first | rfl | (simp [errW_none, errW_some] <;> rfl) | (simp [*, errW_none, errW_some] <;> rfl), by repeat (first | (with_reducible first | exact HB.out | apply below_alloc | apply pw_below_drewN | apply below_drew1 | refine below_set ?_ GE119.out) | exact HB.out)⟩
 · rw [if_neg c2] at H
   have c2b0 : decide (16 < (l0_11.length : Int)) = false := decide_eq_false c2
   have c2b1 : decide (16 < l0_11.length) = false := decide_eq_false (by omega)
   clear c2
   replace H := Option.bind_eq_some_iff.mp H
   obtain ⟨t120, A50, H⟩ := H
   try dsimp only at H
   have A5 := Aside0.mk A50
   clear A50
   by_cases c6 : t120 = true
   · subst c6
     rw [if_pos rfl] at H
     have HC7 := Aside0.mk H
     clear H
     go_enter Tryz.func30, Tryz.ntmps30
     go_upto_region 5 with (first | ((with_reducible refine gate_dst (N := 1) rfl ?_); refine zx 1 #[.string a0_0, .bool a0_1, .int .u64 a0_2, .int .u64 a0_3, .int .i64 a0_4, .int .i64 a0_5, .int .i64 a0_6, .int .i64 a0_7, .int .i64 a0_8, .bool a0_9, .int .i64 a0_10, .slice A0_11 l0_11.length c0_11] 36 ?_; intro gb119 hg w8 hbox hb; have BK119 := Aside0.mk (hbox); have GW119 := Aside0.mk ((by rw [hg]; exact (below_size (zB HB)) : w.heap.size ≤ gb119)); have GE119 := Aside0.mk ((by rw [hg]; exact (below_size (zB HB)) : w.heap.size ≤ gb119)); replace HB := Aside0.mk (below_step (zB HB) hb); clear hb hbox hg; obtain ⟨hcz9_0, hcz9_1, hcz9_2, hcz9_3, hcz9_4, hcz9_5, hcz9_6, hcz9_7, hcz9_8, hcz9_9, hcz9_10, hcz9_11⟩ := zc12 BK119; obtain ⟨hfz9_0, hfz9_1, hfz9_2, hfz9_3, hfz9_4, hfz9_5, hfz9_6, hfz9_7, hfz9_8, hfz9_9, hfz9_10, hfz9_11⟩ := zf12 BK119) | ((with_reducible refine gate_callee (f := 55) rfl ?_); refine goesL_ (some 13) rfl rfl Tryz.func55 (by kernel_rfl) rfl #[.string a0_0] rfl (by (try simp only [List.map_toArray, List.map_cons, List.map_nil]); first | done | rfl | (simp only [List.length_drop, List.length_take]; rfl)) ?_; (with_reducible refine (lexer_IsName.calls k a0_0 true _ A5.out).mono ?_); rintro e w' ⟨rfl, ⟨nd, rfl⟩⟩; refine ⟨_, rfl, ?_⟩))
     (try simp only [Act.put, List.setIfInBounds_toArray, List.set_cons_zero, List.set_cons_succ])
     go_cut [15] (fun v15 wc => ∃ (kq : Nat) (x15_6 : Bool), v15 = .bool x15_6 ∧ Aside0 (asset_checkOne.j0 kq x15_6 a0_0 a0_1 a0_2 a0_3 a0_4 a0_5 a0_6 a0_7 a0_8 a0_9 a0_10 l0_11 = some r) ∧ Aside0 (kq ≤ k) ∧ Aside0 (wc.heap[gb119]? = some (.cells #[.string a0_0, .bool a0_1, .int .u64 a0_2, .int .u64 a0_3, .int .i64 a0_4, .int .i64 a0_5, .int .i64 a0_6, .int .i64 a0_7, .int .i64 a0_8, .bool a0_9, .int .i64 a0_10, (.slice A0_11 l0_11.length c0_11)] 36 (0, 0))) ∧ Aside0 (Below w.heap.size w wc))
     case first =>
      have H := HC7.out
      clear HC7
      by_cases c10 : a0_5 < 1
      · rw [if_pos c10] at H
        have c10b0 : decide (a0_5 < 1) = true := decide_eq_true c10
        clear c10
        (first | rw [c10b0] | (simp only [i64_w, i32_w]; rw [c10b0]) | skip)
        have H' := Aside0.mk H
        clear H
        obtain ⟨hcz11_0, hcz11_1, hcz11_2, hcz11_3, hcz11_4, hcz11_5, hcz11_6, hcz11_7, hcz11_8, hcz11_9, hcz11_10, hcz11_11⟩ := zc12 BK119
        obtain ⟨hfz11_0, hfz11_1, hfz11_2, hfz11_3, hfz11_4, hfz11_5, hfz11_6, hfz11_7, hfz11_8, hfz11_9, hfz11_10, hfz11_11⟩ := zf12 BK119
        go_wp2
        go_meet
        case rel => exact ⟨_, (true), (by first | rfl | (simp; done) | (simp [*]; done)), H', ⟨by first | omega | exact Nat.le_refl _⟩, ⟨zK BK119⟩, ⟨zB HB⟩⟩
      · rw [if_neg c10] at H
        have c10b0 : decide (a0_5 < 1) = false := decide_eq_false c10
        clear c10
        (first | rw [c10b0] | (simp only [i64_w, i32_w]; rw [c10b0]) | skip)
        by_cases c12 : a0_5 > 4
        · rw [if_pos c12] at H
          have c12b0 : decide (4 < a0_5) = true := decide_eq_true c12
          clear c12
          have H' := Aside0.mk H
          clear H
          obtain ⟨hcz13_0, hcz13_1, hcz13_2, hcz13_3, hcz13_4, hcz13_5, hcz13_6, hcz13_7, hcz13_8, hcz13_9, hcz13_10, hcz13_11⟩ := zc12 BK119
          obtain ⟨hfz13_0, hfz13_1, hfz13_2, hfz13_3, hfz13_4, hfz13_5, hfz13_6, hfz13_7, hfz13_8, hfz13_9, hfz13_10, hfz13_11⟩ := zf12 BK119
          go_wp2
          go_meet
          case rel => exact ⟨_, (true), (by first | rfl | (simp; done) | (simp [*]; done)), H', ⟨by first | omega | exact Nat.le_refl _⟩, ⟨zK BK119⟩, ⟨zB HB⟩⟩
        · rw [if_neg c12] at H
          have c12b0 : decide (4 < a0_5) = false := decide_eq_false c12
          clear c12
          by_cases c14 : a0_6 < 1
          · rw [if_pos c14] at H
            have c14b0 : decide (a0_6 < 1) = true := decide_eq_true c14
            clear c14
            have H' := Aside0.mk H
            clear H
            obtain ⟨hcz15_0, hcz15_1, hcz15_2, hcz15_3, hcz15_4, hcz15_5, hcz15_6, hcz15_7, hcz15_8, hcz15_9, hcz15_10, hcz15_11⟩ := zc12 BK119
            obtain ⟨hfz15_0, hfz15_1, hfz15_2, hfz15_3, hfz15_4, hfz15_5, hfz15_6, hfz15_7, hfz15_8, hfz15_9, hfz15_10, hfz15_11⟩ := zf12 BK119
            go_wp2
            go_meet
            case rel => exact ⟨_, (true), (by first | rfl | (simp; done) | (simp [*]; done)), H', ⟨by first | omega | exact Nat.le_refl _⟩, ⟨zK BK119⟩, ⟨zB HB⟩⟩
          · rw [if_neg c14] at H
            have c14b0 : decide (a0_6 < 1) = false := decide_eq_false c14
            clear c14
            have H' := Aside0.mk H
            clear H
            obtain ⟨hcz16_0, hcz16_1, hcz16_2, hcz16_3, hcz16_4, hcz16_5, hcz16_6, hcz16_7, hcz16_8, hcz16_9, hcz16_10, hcz16_11⟩ := zc12 BK119
            obtain ⟨hfz16_0, hfz16_1, hfz16_2, hfz16_3, hfz16_4, hfz16_5, hfz16_6, hfz16_7, hfz16_8, hfz16_9, hfz16_10, hfz16_11⟩ := zf12 BK119
            go_wp2
            go_meet
            case rel => exact ⟨_, (decide (a0_6 > 5)), (by first | rfl | (simp; done) | (simp [*]; done)), H', ⟨by first | omega | exact Nat.le_refl _⟩, ⟨zK BK119⟩, ⟨zB HB⟩⟩
     case rest =>
      clear HC7
      try clear c1
      try clear c2
      try clear c2b0
      try clear c2b1
      try clear p2
      try clear c3
      try clear c5
      try clear c6
      try clear c10
      try clear c10b0
      try clear c12
      try clear c12b0
      try clear c14
      try clear c14b0
      try clear hcz11_0
      try clear hcz11_1
      try clear hcz11_10
      try clear hcz11_11
      try clear hcz11_2
      try clear hcz11_3
      try clear hcz11_4
      try clear hcz11_5
      try clear hcz11_6
      try clear hcz11_7
      try clear hcz11_8
      try clear hcz11_9
      try clear hcz13_0
      try clear hcz13_1
      try clear hcz13_10
      try clear hcz13_11
      try clear hcz13_2
      try clear hcz13_3
      try clear hcz13_4
      try clear hcz13_5
      try clear hcz13_6
      try clear hcz13_7
      try clear hcz13_8
      try clear hcz13_9
      try clear hcz15_0
      try clear hcz15_1
      try clear hcz15_10
      try clear hcz15_11
      try clear hcz15_2
      try clear hcz15_3
      try clear hcz15_4
      try clear hcz15_5
      try clear hcz15_6
      try clear hcz15_7
      try clear hcz15_8
      try clear hcz15_9
      try clear hcz16_0
      try clear hcz16_1
      try clear hcz16_10
      try clear hcz16_11
      try clear hcz16_2
      try clear hcz16_3
      try clear hcz16_4
      try clear hcz16_5
      try clear hcz16_6
      try clear hcz16_7
      try clear hcz16_8
      try clear hcz16_9
      try clear hcz4_0
      try clear hcz4_1
      try clear hcz4_10
      try clear hcz4_11
      try clear hcz4_2
      try clear hcz4_3
      try clear hcz4_4
      try clear hcz4_5
      try clear hcz4_6
      try clear hcz4_7
      try clear hcz4_8
      try clear hcz4_9
      try clear hcz9_0
      try clear hcz9_1
      try clear hcz9_10
      try clear hcz9_11
      try clear hcz9_2
      try clear hcz9_3
      try clear hcz9_4
      try clear hcz9_5
      try clear hcz9_6
      try clear hcz9_7
      try clear hcz9_8
      try clear hcz9_9
      try clear hfz11_0
      try clear hfz11_1
      try clear hfz11_10
      try clear hfz11_11
      try clear hfz11_2
      try clear hfz11_3
      try clear hfz11_4
      try clear hfz11_5
      try clear hfz11_6
      try clear hfz11_7
      try clear hfz11_8
      try clear hfz11_9
      try clear hfz13_0
      try clear hfz13_1
      try clear hfz13_10
      try clear hfz13_11
      try clear hfz13_2
      try clear hfz13_3
      try clear hfz13_4
      try clear hfz13_5
      try clear hfz13_6
      try clear hfz13_7
      try clear hfz13_8
      try clear hfz13_9
      try clear hfz15_0
      try clear hfz15_1
      try clear hfz15_10
      try clear hfz15_11
      try clear hfz15_2
      try clear hfz15_3
      try clear hfz15_4
      try clear hfz15_5
      try clear hfz15_6
      try clear hfz15_7
      try clear hfz15_8
      try clear hfz15_9
      try clear hfz16_0
      try clear hfz16_1
      try clear hfz16_10
      try clear hfz16_11
      try clear hfz16_2
      try clear hfz16_3
      try clear hfz16_4
      try clear hfz16_5
      try clear hfz16_6
      try clear hfz16_7
      try clear hfz16_8
      try clear hfz16_9
      try clear hfz4_0
      try clear hfz4_1
      try clear hfz4_10
      try clear hfz4_11
      try clear hfz4_2
      try clear hfz4_3
      try clear hfz4_4
      try clear hfz4_5
      try clear hfz4_6
      try clear hfz4_7
      try clear hfz4_8
      try clear hfz4_9
      try clear hfz9_0
      try clear hfz9_1
      try clear hfz9_10
      try clear hfz9_11
      try clear hfz9_2
      try clear hfz9_3
      try clear hfz9_4
      try clear hfz9_5
      try clear hfz9_6
      try clear hfz9_7
      try clear hfz9_8
      try clear hfz9_9
      obtain ⟨kq, x15_6, rfl, HA, HJ6, BK119, HB⟩ := hcut
      cases kq with
      | zero => exact absurd HA.out (by simp [asset_checkOne.j0])
      | succ kj6 =>
       have H := HA.out
       clear HA
       simp only [asset_checkOne.j0] at H
       by_cases c17 : x15_6 = true
       · subst c17
         rw [if_pos rfl] at H
         obtain rfl := Option.some.inj H
         go_wp2
         go_ret
         exact ⟨by first | rfl | (simp [errW_none, errW_some] <;> rfl) | (simp [*, errW_none, errW_some] <;> rfl), by repeat (first | (with_reducible first | exact HB.out | apply below_alloc | apply pw_below_drewN | apply below_drew1 | refine below_set ?_ GE119.out) | exact HB.out)⟩
       · replace c17 := Bool.eq_false_iff.mpr c17
         subst c17
         rw [if_neg zF] at H
         by_cases c18 : a0_7 < 0
         · rw [if_pos c18] at H
           have c18b0 : decide (a0_7 < 0) = true := decide_eq_true c18
           clear c18
           obtain rfl := Option.some.inj H
           obtain ⟨hcz19_0, hcz19_1, hcz19_2, hcz19_3, hcz19_4, hcz19_5, hcz19_6, hcz19_7, hcz19_8, hcz19_9, hcz19_10, hcz19_11⟩ := zc12 BK119
           obtain ⟨hfz19_0, hfz19_1, hfz19_2, hfz19_3, hfz19_4, hfz19_5, hfz19_6, hfz19_7, hfz19_8, hfz19_9, hfz19_10, hfz19_11⟩ := zf12 BK119
           go_wp2
           go_ret
           exact ⟨by first | rfl | (simp [errW_none, errW_some] <;> rfl) | (simp [*, errW_none, errW_some] <;> rfl), by repeat (first | (with_reducible first | exact HB.out | apply below_alloc | apply pw_below_drewN | apply below_drew1 | refine below_set ?_ GE119.out) | exact HB.out)⟩
         · rw [if_neg c18] at H
           have c18b0 : decide (a0_7 < 0) = false := decide_eq_false c18
           clear c18
           by_cases c20 : a0_7 > 64
           · rw [if_pos c20] at H
             have c20b0 : decide (64 < a0_7) = true := decide_eq_true c20
             clear c20
             obtain rfl := Option.some.inj H
             obtain ⟨hcz21_0, hcz21_1, hcz21_2, hcz21_3, hcz21_4, hcz21_5, hcz21_6, hcz21_7, hcz21_8, hcz21_9, hcz21_10, hcz21_11⟩ := zc12 BK119
             obtain ⟨hfz21_0, hfz21_1, hfz21_2, hfz21_3, hfz21_4, hfz21_5, hfz21_6, hfz21_7, hfz21_8, hfz21_9, hfz21_10, hfz21_11⟩ := zf12 BK119
             go_wp2
             go_ret
             exact ⟨by first | rfl | (simp [errW_none, errW_some] <;> rfl) | (simp [*, errW_none, errW_some] <;> rfl), by repeat (first | (with_reducible first | exact HB.out | apply below_alloc | apply pw_below_drewN | apply below_drew1 | refine below_set ?_ GE119.out) | exact HB.out)⟩
           · rw [if_neg c20] at H
             have c20b0 : decide (64 < a0_7) = false := decide_eq_false c20
             clear c20
             by_cases c22 : a0_8 < 1
             · rw [if_pos c22] at H
               have c22b0 : decide (a0_8 < 1) = true := decide_eq_true c22
               clear c22
               obtain rfl := Option.some.inj H
               obtain ⟨hcz23_0, hcz23_1, hcz23_2, hcz23_3, hcz23_4, hcz23_5, hcz23_6, hcz23_7, hcz23_8, hcz23_9, hcz23_10, hcz23_11⟩ := zc12 BK119
               obtain ⟨hfz23_0, hfz23_1, hfz23_2, hfz23_3, hfz23_4, hfz23_5, hfz23_6, hfz23_7, hfz23_8, hfz23_9, hfz23_10, hfz23_11⟩ := zf12 BK119
               go_wp2
               go_ret
               exact ⟨by first | rfl | (simp [errW_none, errW_some] <;> rfl) | (simp [*, errW_none, errW_some] <;> rfl), by repeat (first | (with_reducible first | exact HB.out | apply below_alloc | apply pw_below_drewN | apply below_drew1 | refine below_set ?_ GE119.out) | exact HB.out)⟩
             · rw [if_neg c22] at H
               have c22b0 : decide (a0_8 < 1) = false := decide_eq_false c22
               clear c22
               by_cases c24 : a0_8 > 8192
               · rw [if_pos c24] at H
                 have c24b0 : decide (8192 < a0_8) = true := decide_eq_true c24
                 clear c24
                 obtain rfl := Option.some.inj H
                 obtain ⟨hcz25_0, hcz25_1, hcz25_2, hcz25_3, hcz25_4, hcz25_5, hcz25_6, hcz25_7, hcz25_8, hcz25_9, hcz25_10, hcz25_11⟩ := zc12 BK119
                 obtain ⟨hfz25_0, hfz25_1, hfz25_2, hfz25_3, hfz25_4, hfz25_5, hfz25_6, hfz25_7, hfz25_8, hfz25_9, hfz25_10, hfz25_11⟩ := zf12 BK119
                 go_wp2
                 go_ret
                 exact ⟨by first | rfl | (simp [errW_none, errW_some] <;> rfl) | (simp [*, errW_none, errW_some] <;> rfl), by repeat (first | (with_reducible first | exact HB.out | apply below_alloc | apply pw_below_drewN | apply below_drew1 | refine below_set ?_ GE119.out) | exact HB.out)⟩
               · rw [if_neg c24] at H
                 have c24b0 : decide (8192 < a0_8) = false := decide_eq_false c24
                 clear c24
                 by_cases c26 : a0_10 < 0
                 · rw [if_pos c26] at H
                   have c26b0 : decide (a0_10 < 0) = true := decide_eq_true c26
                   clear c26
                   obtain rfl := Option.some.inj H
                   obtain ⟨hcz27_0, hcz27_1, hcz27_2, hcz27_3, hcz27_4, hcz27_5, hcz27_6, hcz27_7, hcz27_8, hcz27_9, hcz27_10, hcz27_11⟩ := zc12 BK119
                   obtain ⟨hfz27_0, hfz27_1, hfz27_2, hfz27_3, hfz27_4, hfz27_5, hfz27_6, hfz27_7, hfz27_8, hfz27_9, hfz27_10, hfz27_11⟩ := zf12 BK119
                   go_wp2
                   go_ret
                   exact ⟨by first | rfl | (simp [errW_none, errW_some] <;> rfl) | (simp [*, errW_none, errW_some] <;> rfl), by repeat (first | (with_reducible first | exact HB.out | apply below_alloc | apply pw_below_drewN | apply below_drew1 | refine below_set ?_ GE119.out) | exact HB.out)⟩
                 · rw [if_neg c26] at H
                   have c26b0 : decide (a0_10 < 0) = false := decide_eq_false c26
                   clear c26
                   by_cases c28 : a0_10 > 3
                   · rw [if_pos c28] at H
                     have c28b0 : decide (3 < a0_10) = true := decide_eq_true c28
                     clear c28
                     obtain rfl := Option.some.inj H
                     obtain ⟨hcz29_0, hcz29_1, hcz29_2, hcz29_3, hcz29_4, hcz29_5, hcz29_6, hcz29_7, hcz29_8, hcz29_9, hcz29_10, hcz29_11⟩ := zc12 BK119
                     obtain ⟨hfz29_0, hfz29_1, hfz29_2, hfz29_3, hfz29_4, hfz29_5, hfz29_6, hfz29_7, hfz29_8, hfz29_9, hfz29_10, hfz29_11⟩ := zf12 BK119
                     go_wp2
                     go_ret
                     exact ⟨by first | rfl | (simp [errW_none, errW_some] <;> rfl) | (simp [*, errW_none, errW_some] <;> rfl), by repeat (first | (with_reducible first | exact HB.out | apply below_alloc | apply pw_below_drewN | apply below_drew1 | refine below_set ?_ GE119.out) | exact HB.out)⟩
                   · rw [if_neg c28] at H
                     have c28b0 : decide (3 < a0_10) = false := decide_eq_false c28
                     clear c28
                     have H' := Aside0.mk H
                     clear H
                     obtain ⟨hcz30_0, hcz30_1, hcz30_2, hcz30_3, hcz30_4, hcz30_5, hcz30_6, hcz30_7, hcz30_8, hcz30_9, hcz30_10, hcz30_11⟩ := zc12 BK119
                     obtain ⟨hfz30_0, hfz30_1, hfz30_2, hfz30_3, hfz30_4, hfz30_5, hfz30_6, hfz30_7, hfz30_8, hfz30_9, hfz30_10, hfz30_11⟩ := zf12 BK119
                     go_wp2
                     go_loopg [66] kj6 (fun kq v66 w' => ∃ (x66_2 : Int), v66 = .int .i64 x66_2 ∧ Aside0 (asset_checkOne.l0 kq l0_11 (l0_11.length : Int) x66_2 a0_0 a0_1 a0_2 a0_3 a0_4 a0_5 a0_6 a0_7 a0_8 a0_9 a0_10 l0_11 = some r) ∧ Aside0 (kq ≤ kj6) ∧ Aside0 (w'.heap[gb119]? = some (.cells #[.string a0_0, .bool a0_1, .int .u64 a0_2, .int .u64 a0_3, .int .i64 a0_4, .int .i64 a0_5, .int .i64 a0_6, .int .i64 a0_7, .int .i64 a0_8, .bool a0_9, .int .i64 a0_10, (.slice A0_11 l0_11.length c0_11)] 36 (0, 0))) ∧ Aside0 (Below w.heap.size w w'))
                     case atStart => exact ⟨(0), (by first | rfl | (simp; done) | (simp [*]; done)), H', ⟨Nat.le_refl _⟩, ⟨zK BK119⟩, ⟨zB HB⟩⟩
                     case round =>
                      clear H'
                      try clear c1
                      try clear c2
                      try clear c2b0
                      try clear c2b1
                      try clear p2
                      try clear c3
                      try clear c5
                      try clear c6
                      try clear c10
                      try clear c10b0
                      try clear c12
                      try clear c12b0
                      try clear c14
                      try clear c14b0
                      try clear c17
                      try clear c18
                      try clear c18b0
                      try clear c20
                      try clear c20b0
                      try clear c22
                      try clear c22b0
                      try clear c24
                      try clear c24b0
                      try clear c26
                      try clear c26b0
                      try clear c28
                      try clear c28b0
                      try clear c30
                      try clear hcz11_0
                      try clear hcz11_1
                      try clear hcz11_10
                      try clear hcz11_11
                      try clear hcz11_2
                      try clear hcz11_3
                      try clear hcz11_4
                      try clear hcz11_5
                      try clear hcz11_6
                      try clear hcz11_7
                      try clear hcz11_8
                      try clear hcz11_9
                      try clear hcz13_0
                      try clear hcz13_1
                      try clear hcz13_10
                      try clear hcz13_11
                      try clear hcz13_2
                      try clear hcz13_3
                      try clear hcz13_4
                      try clear hcz13_5
                      try clear hcz13_6
                      try clear hcz13_7
                      try clear hcz13_8
                      try clear hcz13_9
                      try clear hcz15_0
                      try clear hcz15_1
                      try clear hcz15_10
                      try clear hcz15_11
                      try clear hcz15_2
                      try clear hcz15_3
                      try clear hcz15_4
                      try clear hcz15_5
                      try clear hcz15_6
                      try clear hcz15_7
                      try clear hcz15_8
                      try clear hcz15_9
                      try clear hcz16_0
                      try clear hcz16_1
                      try clear hcz16_10
                      try clear hcz16_11
                      try clear hcz16_2
                      try clear hcz16_3
                      try clear hcz16_4
                      try clear hcz16_5
                      try clear hcz16_6
                      try clear hcz16_7
                      try clear hcz16_8
                      try clear hcz16_9
                      try clear hcz19_0
                      try clear hcz19_1
                      try clear hcz19_10
                      try clear hcz19_11
                      try clear hcz19_2
                      try clear hcz19_3
                      try clear hcz19_4
                      try clear hcz19_5
                      try clear hcz19_6
                      try clear hcz19_7
                      try clear hcz19_8
                      try clear hcz19_9
                      try clear hcz21_0
                      try clear hcz21_1
                      try clear hcz21_10
                      try clear hcz21_11
                      try clear hcz21_2
                      try clear hcz21_3
                      try clear hcz21_4
                      try clear hcz21_5
                      try clear hcz21_6
                      try clear hcz21_7
                      try clear hcz21_8
                      try clear hcz21_9
                      try clear hcz23_0
                      try clear hcz23_1
                      try clear hcz23_10
                      try clear hcz23_11
                      try clear hcz23_2
                      try clear hcz23_3
                      try clear hcz23_4
                      try clear hcz23_5
                      try clear hcz23_6
                      try clear hcz23_7
                      try clear hcz23_8
                      try clear hcz23_9
                      try clear hcz25_0
                      try clear hcz25_1
                      try clear hcz25_10
                      try clear hcz25_11
                      try clear hcz25_2
                      try clear hcz25_3
                      try clear hcz25_4
                      try clear hcz25_5
                      try clear hcz25_6
                      try clear hcz25_7
                      try clear hcz25_8
                      try clear hcz25_9
                      try clear hcz27_0
                      try clear hcz27_1
                      try clear hcz27_10
                      try clear hcz27_11
                      try clear hcz27_2
                      try clear hcz27_3
                      try clear hcz27_4
                      try clear hcz27_5
                      try clear hcz27_6
                      try clear hcz27_7
                      try clear hcz27_8
                      try clear hcz27_9
                      try clear hcz29_0
                      try clear hcz29_1
                      try clear hcz29_10
                      try clear hcz29_11
                      try clear hcz29_2
                      try clear hcz29_3
                      try clear hcz29_4
                      try clear hcz29_5
                      try clear hcz29_6
                      try clear hcz29_7
                      try clear hcz29_8
                      try clear hcz29_9
                      try clear hcz30_0
                      try clear hcz30_1
                      try clear hcz30_10
                      try clear hcz30_11
                      try clear hcz30_2
                      try clear hcz30_3
                      try clear hcz30_4
                      try clear hcz30_5
                      try clear hcz30_6
                      try clear hcz30_7
                      try clear hcz30_8
                      try clear hcz30_9
                      try clear hcz4_0
                      try clear hcz4_1
                      try clear hcz4_10
                      try clear hcz4_11
                      try clear hcz4_2
                      try clear hcz4_3
                      try clear hcz4_4
                      try clear hcz4_5
                      try clear hcz4_6
                      try clear hcz4_7
                      try clear hcz4_8
                      try clear hcz4_9
                      try clear hcz9_0
                      try clear hcz9_1
                      try clear hcz9_10
                      try clear hcz9_11
                      try clear hcz9_2
                      try clear hcz9_3
                      try clear hcz9_4
                      try clear hcz9_5
                      try clear hcz9_6
                      try clear hcz9_7
                      try clear hcz9_8
                      try clear hcz9_9
                      try clear hfz11_0
                      try clear hfz11_1
                      try clear hfz11_10
                      try clear hfz11_11
                      try clear hfz11_2
                      try clear hfz11_3
                      try clear hfz11_4
                      try clear hfz11_5
                      try clear hfz11_6
                      try clear hfz11_7
                      try clear hfz11_8
                      try clear hfz11_9
                      try clear hfz13_0
                      try clear hfz13_1
                      try clear hfz13_10
                      try clear hfz13_11
                      try clear hfz13_2
                      try clear hfz13_3
                      try clear hfz13_4
                      try clear hfz13_5
                      try clear hfz13_6
                      try clear hfz13_7
                      try clear hfz13_8
                      try clear hfz13_9
                      try clear hfz15_0
                      try clear hfz15_1
                      try clear hfz15_10
                      try clear hfz15_11
                      try clear hfz15_2
                      try clear hfz15_3
                      try clear hfz15_4
                      try clear hfz15_5
                      try clear hfz15_6
                      try clear hfz15_7
                      try clear hfz15_8
                      try clear hfz15_9
                      try clear hfz16_0
                      try clear hfz16_1
                      try clear hfz16_10
                      try clear hfz16_11
                      try clear hfz16_2
                      try clear hfz16_3
                      try clear hfz16_4
                      try clear hfz16_5
                      try clear hfz16_6
                      try clear hfz16_7
                      try clear hfz16_8
                      try clear hfz16_9
                      try clear hfz19_0
                      try clear hfz19_1
                      try clear hfz19_10
                      try clear hfz19_11
                      try clear hfz19_2
                      try clear hfz19_3
                      try clear hfz19_4
                      try clear hfz19_5
                      try clear hfz19_6
                      try clear hfz19_7
                      try clear hfz19_8
                      try clear hfz19_9
                      try clear hfz21_0
                      try clear hfz21_1
                      try clear hfz21_10
                      try clear hfz21_11
                      try clear hfz21_2
                      try clear hfz21_3
                      try clear hfz21_4
                      try clear hfz21_5
                      try clear hfz21_6
                      try clear hfz21_7
                      try clear hfz21_8
                      try clear hfz21_9
                      try clear hfz23_0
                      try clear hfz23_1
                      try clear hfz23_10
                      try clear hfz23_11
                      try clear hfz23_2
                      try clear hfz23_3
                      try clear hfz23_4
                      try clear hfz23_5
                      try clear hfz23_6
                      try clear hfz23_7
                      try clear hfz23_8
                      try clear hfz23_9
                      try clear hfz25_0
                      try clear hfz25_1
                      try clear hfz25_10
                      try clear hfz25_11
                      try clear hfz25_2
                      try clear hfz25_3
                      try clear hfz25_4
                      try clear hfz25_5
                      try clear hfz25_6
                      try clear hfz25_7
                      try clear hfz25_8
                      try clear hfz25_9
                      try clear hfz27_0
                      try clear hfz27_1
                      try clear hfz27_10
                      try clear hfz27_11
                      try clear hfz27_2
                      try clear hfz27_3
                      try clear hfz27_4
                      try clear hfz27_5
                      try clear hfz27_6
                      try clear hfz27_7
                      try clear hfz27_8
                      try clear hfz27_9
                      try clear hfz29_0
                      try clear hfz29_1
                      try clear hfz29_10
                      try clear hfz29_11
                      try clear hfz29_2
                      try clear hfz29_3
                      try clear hfz29_4
                      try clear hfz29_5
                      try clear hfz29_6
                      try clear hfz29_7
                      try clear hfz29_8
                      try clear hfz29_9
                      try clear hfz30_0
                      try clear hfz30_1
                      try clear hfz30_10
                      try clear hfz30_11
                      try clear hfz30_2
                      try clear hfz30_3
                      try clear hfz30_4
                      try clear hfz30_5
                      try clear hfz30_6
                      try clear hfz30_7
                      try clear hfz30_8
                      try clear hfz30_9
                      try clear hfz4_0
                      try clear hfz4_1
                      try clear hfz4_10
                      try clear hfz4_11
                      try clear hfz4_2
                      try clear hfz4_3
                      try clear hfz4_4
                      try clear hfz4_5
                      try clear hfz4_6
                      try clear hfz4_7
                      try clear hfz4_8
                      try clear hfz4_9
                      try clear hfz9_0
                      try clear hfz9_1
                      try clear hfz9_10
                      try clear hfz9_11
                      try clear hfz9_2
                      try clear hfz9_3
                      try clear hfz9_4
                      try clear hfz9_5
                      try clear hfz9_6
                      try clear hfz9_7
                      try clear hfz9_8
                      try clear hfz9_9
                      try clear p2
                      obtain ⟨x66_2, rfl, HA, HK2, BK119, HB⟩ := hrel
                      cases gk with
                      | zero => exact absurd HA.out (by simp [asset_checkOne.l0])
                      | succ k2 =>
                       have H := HA.out
                       clear HA
                       simp only [asset_checkOne.l0] at H
                       by_cases c31 : x66_2 < (l0_11.length : Int)
                       · rw [if_pos c31] at H
                         have c31b0 : decide (x66_2 < (l0_11.length : Int)) = true := decide_eq_true c31
                         clear c31
                         by_cases c32 : 0 ≤ x66_2
                         · rw [if_pos c32] at H
                           have c32b0 : decide (0 ≤ x66_2) = true := decide_eq_true c32
                           clear c32
                           by_cases c33 : x66_2 < (l0_11.length : Int)
                           · rw [if_pos c33] at H
                             have c33b0 : decide (x66_2 < (l0_11.length : Int)) = true := decide_eq_true c33
                             clear c33
                             by_cases c34 : ((rd_T74 l0_11 x66_2).f0) = 6
                             · rw [if_pos c34] at H
                               have c34b0 : (((rd_T74 l0_11 x66_2).f0) == 6) = true := beq_iff_eq.mpr c34
                               have c34b1 : (((rd_T74 l0_11 x66_2).f0) != 6) = false := bne_eq_false_iff_eq.mpr c34
                               clear c34
                               by_cases c35 : ((rd_T74 l0_11 x66_2).f1) < 0
                               · rw [if_pos c35] at H
                                 have c35b0 : decide (((rd_T74 l0_11 x66_2).f1) < 0) = true := decide_eq_true c35
                                 clear c35
                                 obtain rfl := Option.some.inj H
                                 have p121 : 0 ≤ (x66_2 : Int) := za
                                 have q121 : x66_2 < (l0_11.length : Int) := za
                                 obtain ⟨ad121, e121, hx121_0, hx121_1, hx121_2⟩ := at_T74 HR0_11.out x66_2 p121 q121
                                 cases e121
                                 replace hx121_0 := zh HB hx121_0
                                 replace hx121_1 := zh HB hx121_1
                                 replace hx121_2 := zh HB hx121_2
                                 replace p121 := eq_true p121
                                 replace q121 := eq_true q121
                                 go_wp2_with (first | ((with_reducible refine gate_dst (N := 4) rfl ?_); refine zx 4 #[.int .i64 0, .int .i64 0, .int .i64 0] 74 ?_; intro gb122 hg w36 hbox hb; have BK122 := Aside0.mk (hbox); have GW122 := Aside0.mk ((by rw [hg]; exact (below_size (zB HB)) : w.heap.size ≤ gb122)); have GE122 := Aside0.mk ((by rw [hg]; exact (below_size (zB HB)) : w.heap.size ≤ gb122)); replace HB := Aside0.mk (below_step (zB HB) hb); have NB119_122 := Aside0.mk ((by rw [hg]; exact Nat.ne_of_lt (blk_lt (g := gb119) (o := .cells #[.string a0_0, .bool a0_1, .int .u64 a0_2, .int .u64 a0_3, .int .i64 a0_4, .int .i64 a0_5, .int .i64 a0_6, .int .i64 a0_7, .int .i64 a0_8, .bool a0_9, .int .i64 a0_10, .slice (some ad121) l0_11.length c0_11] 36 (0, 0)) (zK BK119)) : gb119 ≠ gb122)); have NB122_119 := Aside0.mk ((by rw [hg]; exact Nat.ne_of_gt (blk_lt (g := gb119) (o := .cells #[.string a0_0, .bool a0_1, .int .u64 a0_2, .int .u64 a0_3, .int .i64 a0_4, .int .i64 a0_5, .int .i64 a0_6, .int .i64 a0_7, .int .i64 a0_8, .bool a0_9, .int .i64 a0_10, .slice (some ad121) l0_11.length c0_11] 36 (0, 0)) (zK BK119)) : gb122 ≠ gb119)); replace BK119 := Aside0.mk (blk_below (g := gb119) (o := .cells #[.string a0_0, .bool a0_1, .int .u64 a0_2, .int .u64 a0_3, .int .i64 a0_4, .int .i64 a0_5, .int .i64 a0_6, .int .i64 a0_7, .int .i64 a0_8, .bool a0_9, .int .i64 a0_10, .slice (some ad121) l0_11.length c0_11] 36 (0, 0)) (zK BK119) hb); clear hb hbox hg; have hnb37 := NB122_119.out; have hnc37 := NB119_122.out; obtain ⟨hcz38_0, hcz38_1, hcz38_2⟩ := zc3 BK122; obtain ⟨hfz38_0, hfz38_1, hfz38_2⟩ := zf3 BK122))
                                 go_ret
                                 exact ⟨by first | rfl | (simp [errW_none, errW_some] <;> rfl) | (simp [*, errW_none, errW_some] <;> rfl), by repeat (first | (with_reducible first | exact HB.out | apply below_alloc | apply pw_below_drewN | apply below_drew1 | refine below_set ?_ GE119.out | refine below_set ?_ GE122.out) | exact HB.out)⟩
                               · rw [if_neg c35] at H
                                 have c35b0 : decide (((rd_T74 l0_11 x66_2).f1) < 0) = false := decide_eq_false c35
                                 clear c35
                                 by_cases c39 : ((rd_T74 l0_11 x66_2).f1) > 65535
                                 · rw [if_pos c39] at H
                                   have c39b0 : decide (65535 < ((rd_T74 l0_11 x66_2).f1)) = true := decide_eq_true c39
                                   clear c39
                                   obtain rfl := Option.some.inj H
                                   have p121 : 0 ≤ (x66_2 : Int) := za
                                   have q121 : x66_2 < (l0_11.length : Int) := za
                                   obtain ⟨ad121, e121, hx121_0, hx121_1, hx121_2⟩ := at_T74 HR0_11.out x66_2 p121 q121
                                   cases e121
                                   replace hx121_0 := zh HB hx121_0
                                   replace hx121_1 := zh HB hx121_1
                                   replace hx121_2 := zh HB hx121_2
                                   replace p121 := eq_true p121
                                   replace q121 := eq_true q121
                                   go_wp2_with (first | ((with_reducible refine gate_dst (N := 4) rfl ?_); refine zx 4 #[.int .i64 0, .int .i64 0, .int .i64 0] 74 ?_; intro gb122 hg w40 hbox hb; have BK122 := Aside0.mk (hbox); have GW122 := Aside0.mk ((by rw [hg]; exact (below_size (zB HB)) : w.heap.size ≤ gb122)); have GE122 := Aside0.mk ((by rw [hg]; exact (below_size (zB HB)) : w.heap.size ≤ gb122)); replace HB := Aside0.mk (below_step (zB HB) hb); have NB119_122 := Aside0.mk ((by rw [hg]; exact Nat.ne_of_lt (blk_lt (g := gb119) (o := .cells #[.string a0_0, .bool a0_1, .int .u64 a0_2, .int .u64 a0_3, .int .i64 a0_4, .int .i64 a0_5, .int .i64 a0_6, .int .i64 a0_7, .int .i64 a0_8, .bool a0_9, .int .i64 a0_10, .slice (some ad121) l0_11.length c0_11] 36 (0, 0)) (zK BK119)) : gb119 ≠ gb122)); have NB122_119 := Aside0.mk ((by rw [hg]; exact Nat.ne_of_gt (blk_lt (g := gb119) (o := .cells #[.string a0_0, .bool a0_1, .int .u64 a0_2, .int .u64 a0_3, .int .i64 a0_4, .int .i64 a0_5, .int .i64 a0_6, .int .i64 a0_7, .int .i64 a0_8, .bool a0_9, .int .i64 a0_10, .slice (some ad121) l0_11.length c0_11] 36 (0, 0)) (zK BK119)) : gb122 ≠ gb119)); replace BK119 := Aside0.mk (blk_below (g := gb119) (o := .cells #[.string a0_0, .bool a0_1, .int .u64 a0_2, .int .u64 a0_3, .int .i64 a0_4, .int .i64 a0_5, .int .i64 a0_6, .int .i64 a0_7, .int .i64 a0_8, .bool a0_9, .int .i64 a0_10, .slice (some ad121) l0_11.length c0_11] 36 (0, 0)) (zK BK119) hb); clear hb hbox hg; have hnb41 := NB122_119.out; have hnc41 := NB119_122.out; obtain ⟨hcz42_0, hcz42_1, hcz42_2⟩ := zc3 BK122; obtain ⟨hfz42_0, hfz42_1, hfz42_2⟩ := zf3 BK122))
                                   go_ret
                                   exact ⟨by first | rfl | (simp [errW_none, errW_some] <;> rfl) | (simp [*, errW_none, errW_some] <;> rfl), by repeat (first | (with_reducible first | exact HB.out | apply below_alloc | apply pw_below_drewN | apply below_drew1 | refine below_set ?_ GE119.out | refine below_set ?_ GE122.out) | exact HB.out)⟩
                                 · rw [if_neg c39] at H
                                   have c39b0 : decide (65535 < ((rd_T74 l0_11 x66_2).f1)) = false := decide_eq_false c39
                                   clear c39
                                   by_cases c43 : ((rd_T74 l0_11 x66_2).f2) < 0
                                   · rw [if_pos c43] at H
                                     have c43b0 : decide (((rd_T74 l0_11 x66_2).f2) < 0) = true := decide_eq_true c43
                                     clear c43
                                     obtain rfl := Option.some.inj H
                                     have p121 : 0 ≤ (x66_2 : Int) := za
                                     have q121 : x66_2 < (l0_11.length : Int) := za
                                     obtain ⟨ad121, e121, hx121_0, hx121_1, hx121_2⟩ := at_T74 HR0_11.out x66_2 p121 q121
                                     cases e121
                                     replace hx121_0 := zh HB hx121_0
                                     replace hx121_1 := zh HB hx121_1
                                     replace hx121_2 := zh HB hx121_2
                                     replace p121 := eq_true p121
                                     replace q121 := eq_true q121
                                     go_wp2_with (first | ((with_reducible refine gate_dst (N := 4) rfl ?_); refine zx 4 #[.int .i64 0, .int .i64 0, .int .i64 0] 74 ?_; intro gb122 hg w44 hbox hb; have BK122 := Aside0.mk (hbox); have GW122 := Aside0.mk ((by rw [hg]; exact (below_size (zB HB)) : w.heap.size ≤ gb122)); have GE122 := Aside0.mk ((by rw [hg]; exact (below_size (zB HB)) : w.heap.size ≤ gb122)); replace HB := Aside0.mk (below_step (zB HB) hb); have NB119_122 := Aside0.mk ((by rw [hg]; exact Nat.ne_of_lt (blk_lt (g := gb119) (o := .cells #[.string a0_0, .bool a0_1, .int .u64 a0_2, .int .u64 a0_3, .int .i64 a0_4, .int .i64 a0_5, .int .i64 a0_6, .int .i64 a0_7, .int .i64 a0_8, .bool a0_9, .int .i64 a0_10, .slice (some ad121) l0_11.length c0_11] 36 (0, 0)) (zK BK119)) : gb119 ≠ gb122)); have NB122_119 := Aside0.mk ((by rw [hg]; exact Nat.ne_of_gt (blk_lt (g := gb119) (o := .cells #[.string a0_0, .bool a0_1, .int .u64 a0_2, .int .u64 a0_3, .int .i64 a0_4, .int .i64 a0_5, .int .i64 a0_6, .int .i64 a0_7, .int .i64 a0_8, .bool a0_9, .int .i64 a0_10, .slice (some ad121) l0_11.length c0_11] 36 (0, 0)) (zK BK119)) : gb122 ≠ gb119)); replace BK119 := Aside0.mk (blk_below (g := gb119) (o := .cells #[.string a0_0, .bool a0_1, .int .u64 a0_2, .int .u64 a0_3, .int .i64 a0_4, .int .i64 a0_5, .int .i64 a0_6, .int .i64 a0_7, .int .i64 a0_8, .bool a0_9, .int .i64 a0_10, .slice (some ad121) l0_11.length c0_11] 36 (0, 0)) (zK BK119) hb); clear hb hbox hg; have hnb45 := NB122_119.out; have hnc45 := NB119_122.out; obtain ⟨hcz46_0, hcz46_1, hcz46_2⟩ := zc3 BK122; obtain ⟨hfz46_0, hfz46_1, hfz46_2⟩ := zf3 BK122))
                                     go_ret
                                     exact ⟨by first | rfl | (simp [errW_none, errW_some] <;> rfl) | (simp [*, errW_none, errW_some] <;> rfl), by repeat (first | (with_reducible first | exact HB.out | apply below_alloc | apply pw_below_drewN | apply below_drew1 | refine below_set ?_ GE119.out | refine below_set ?_ GE122.out) | exact HB.out)⟩
                                   · rw [if_neg c43] at H
                                     have c43b0 : decide (((rd_T74 l0_11 x66_2).f2) < 0) = false := decide_eq_false c43
                                     clear c43
                                     by_cases c47 : ((rd_T74 l0_11 x66_2).f2) > 4
                                     · rw [if_pos c47] at H
                                       have c47b0 : decide (4 < ((rd_T74 l0_11 x66_2).f2)) = true := decide_eq_true c47
                                       clear c47
                                       obtain rfl := Option.some.inj H
                                       have p121 : 0 ≤ (x66_2 : Int) := za
                                       have q121 : x66_2 < (l0_11.length : Int) := za
                                       obtain ⟨ad121, e121, hx121_0, hx121_1, hx121_2⟩ := at_T74 HR0_11.out x66_2 p121 q121
                                       cases e121
                                       replace hx121_0 := zh HB hx121_0
                                       replace hx121_1 := zh HB hx121_1
                                       replace hx121_2 := zh HB hx121_2
                                       replace p121 := eq_true p121
                                       replace q121 := eq_true q121
                                       go_wp2_with (first | ((with_reducible refine gate_dst (N := 4) rfl ?_); refine zx 4 #[.int .i64 0, .int .i64 0, .int .i64 0] 74 ?_; intro gb122 hg w48 hbox hb; have BK122 := Aside0.mk (hbox); have GW122 := Aside0.mk ((by rw [hg]; exact (below_size (zB HB)) : w.heap.size ≤ gb122)); have GE122 := Aside0.mk ((by rw [hg]; exact (below_size (zB HB)) : w.heap.size ≤ gb122)); replace HB := Aside0.mk (below_step (zB HB) hb); have NB119_122 := Aside0.mk ((by rw [hg]; exact Nat.ne_of_lt (blk_lt (g := gb119) (o := .cells #[.string a0_0, .bool a0_1, .int .u64 a0_2, .int .u64 a0_3, .int .i64 a0_4, .int .i64 a0_5, .int .i64 a0_6, .int .i64 a0_7, .int .i64 a0_8, .bool a0_9, .int .i64 a0_10, .slice (some ad121) l0_11.length c0_11] 36 (0, 0)) (zK BK119)) : gb119 ≠ gb122)); have NB122_119 := Aside0.mk ((by rw [hg]; exact Nat.ne_of_gt (blk_lt (g := gb119) (o := .cells #[.string a0_0, .bool a0_1, .int .u64 a0_2, .int .u64 a0_3, .int .i64 a0_4, .int .i64 a0_5, .int .i64 a0_6, .int .i64 a0_7, .int .i64 a0_8, .bool a0_9, .int .i64 a0_10, .slice (some ad121) l0_11.length c0_11] 36 (0, 0)) (zK BK119)) : gb122 ≠ gb119)); replace BK119 := Aside0.mk (blk_below (g := gb119) (o := .cells #[.string a0_0, .bool a0_1, .int .u64 a0_2, .int .u64 a0_3, .int .i64 a0_4, .int .i64 a0_5, .int .i64 a0_6, .int .i64 a0_7, .int .i64 a0_8, .bool a0_9, .int .i64 a0_10, .slice (some ad121) l0_11.length c0_11] 36 (0, 0)) (zK BK119) hb); clear hb hbox hg; have hnb49 := NB122_119.out; have hnc49 := NB119_122.out; obtain ⟨hcz50_0, hcz50_1, hcz50_2⟩ := zc3 BK122; obtain ⟨hfz50_0, hfz50_1, hfz50_2⟩ := zf3 BK122))
                                       go_ret
                                       exact ⟨by first | rfl | (simp [errW_none, errW_some] <;> rfl) | (simp [*, errW_none, errW_some] <;> rfl), by repeat (first | (with_reducible first | exact HB.out | apply below_alloc | apply pw_below_drewN | apply below_drew1 | refine below_set ?_ GE119.out | refine below_set ?_ GE122.out) | exact HB.out)⟩
                                     · rw [if_neg c47] at H
                                       have c47b0 : decide (4 < ((rd_T74 l0_11 x66_2).f2)) = false := decide_eq_false c47
                                       clear c47
                                       have H' := Aside0.mk H
                                       clear H
                                       have p121 : 0 ≤ (x66_2 : Int) := za
                                       have q121 : x66_2 < (l0_11.length : Int) := za
                                       obtain ⟨ad121, e121, hx121_0, hx121_1, hx121_2⟩ := at_T74 HR0_11.out x66_2 p121 q121
                                       cases e121
                                       replace hx121_0 := zh HB hx121_0
                                       replace hx121_1 := zh HB hx121_1
                                       replace hx121_2 := zh HB hx121_2
                                       replace p121 := eq_true p121
                                       replace q121 := eq_true q121
                                       go_wp2_with (first | ((with_reducible refine gate_dst (N := 4) rfl ?_); refine zx 4 #[.int .i64 0, .int .i64 0, .int .i64 0] 74 ?_; intro gb122 hg w51 hbox hb; have BK122 := Aside0.mk (hbox); have GW122 := Aside0.mk ((by rw [hg]; exact (below_size (zB HB)) : w.heap.size ≤ gb122)); have GE122 := Aside0.mk ((by rw [hg]; exact (below_size (zB HB)) : w.heap.size ≤ gb122)); replace HB := Aside0.mk (below_step (zB HB) hb); have NB119_122 := Aside0.mk ((by rw [hg]; exact Nat.ne_of_lt (blk_lt (g := gb119) (o := .cells #[.string a0_0, .bool a0_1, .int .u64 a0_2, .int .u64 a0_3, .int .i64 a0_4, .int .i64 a0_5, .int .i64 a0_6, .int .i64 a0_7, .int .i64 a0_8, .bool a0_9, .int .i64 a0_10, .slice (some ad121) l0_11.length c0_11] 36 (0, 0)) (zK BK119)) : gb119 ≠ gb122)); have NB122_119 := Aside0.mk ((by rw [hg]; exact Nat.ne_of_gt (blk_lt (g := gb119) (o := .cells #[.string a0_0, .bool a0_1, .int .u64 a0_2, .int .u64 a0_3, .int .i64 a0_4, .int .i64 a0_5, .int .i64 a0_6, .int .i64 a0_7, .int .i64 a0_8, .bool a0_9, .int .i64 a0_10, .slice (some ad121) l0_11.length c0_11] 36 (0, 0)) (zK BK119)) : gb122 ≠ gb119)); replace BK119 := Aside0.mk (blk_below (g := gb119) (o := .cells #[.string a0_0, .bool a0_1, .int .u64 a0_2, .int .u64 a0_3, .int .i64 a0_4, .int .i64 a0_5, .int .i64 a0_6, .int .i64 a0_7, .int .i64 a0_8, .bool a0_9, .int .i64 a0_10, .slice (some ad121) l0_11.length c0_11] 36 (0, 0)) (zK BK119) hb); clear hb hbox hg; have hnb52 := NB122_119.out; have hnc52 := NB119_122.out; obtain ⟨hcz53_0, hcz53_1, hcz53_2⟩ := zc3 BK122; obtain ⟨hfz53_0, hfz53_1, hfz53_2⟩ := zf3 BK122))
                                       go_roundg k2
                                       case measure => have := HJ6.out; have := HK2.out; omega
                                       case rel => exact ⟨(wrap64 (x66_2 + 1)), (by first | rfl | (simp; done) | (simp [*]; done)), H', ⟨by have := HJ6.out; have := HK2.out; omega⟩, ⟨by refine zL ?_; refine blk_far ?_ NB119_122.out _; refine zL ?_; refine blk_far ?_ NB119_122.out _; refine zL ?_; refine blk_far ?_ NB119_122.out _; refine zL ?_; exact BK119.out⟩, ⟨zB HB⟩⟩
                             · rw [if_neg c34] at H
                               have c34b0 : (((rd_T74 l0_11 x66_2).f0) == 6) = false := beq_eq_false_iff_ne.mpr c34
                               have c34b1 : (((rd_T74 l0_11 x66_2).f0) != 6) = true := bne_iff_ne.mpr c34
                               by_cases c54 : ((rd_T74 l0_11 x66_2).f0) = 17
                               · rw [if_pos c54] at H
                                 have c54b0 : (((rd_T74 l0_11 x66_2).f0) == 17) = true := beq_iff_eq.mpr c54
                                 have c54b1 : (((rd_T74 l0_11 x66_2).f0) != 17) = false := bne_eq_false_iff_eq.mpr c54
                                 clear c54
                                 by_cases c55 : ((rd_T74 l0_11 x66_2).f1) < 0
                                 · rw [if_pos c55] at H
                                   have c55b0 : decide (((rd_T74 l0_11 x66_2).f1) < 0) = true := decide_eq_true c55
                                   clear c55
                                   obtain rfl := Option.some.inj H
                                   have p121 : 0 ≤ (x66_2 : Int) := za
                                   have q121 : x66_2 < (l0_11.length : Int) := za
                                   obtain ⟨ad121, e121, hx121_0, hx121_1, hx121_2⟩ := at_T74 HR0_11.out x66_2 p121 q121
                                   cases e121
                                   replace hx121_0 := zh HB hx121_0
                                   replace hx121_1 := zh HB hx121_1
                                   replace hx121_2 := zh HB hx121_2
                                   replace p121 := eq_true p121
                                   replace q121 := eq_true q121
                                   go_wp2_with (first | ((with_reducible refine gate_dst (N := 4) rfl ?_); refine zx 4 #[.int .i64 0, .int .i64 0, .int .i64 0] 74 ?_; intro gb122 hg w56 hbox hb; have BK122 := Aside0.mk (hbox); have GW122 := Aside0.mk ((by rw [hg]; exact (below_size (zB HB)) : w.heap.size ≤ gb122)); have GE122 := Aside0.mk ((by rw [hg]; exact (below_size (zB HB)) : w.heap.size ≤ gb122)); replace HB := Aside0.mk (below_step (zB HB) hb); have NB119_122 := Aside0.mk ((by rw [hg]; exact Nat.ne_of_lt (blk_lt (g := gb119) (o := .cells #[.string a0_0, .bool a0_1, .int .u64 a0_2, .int .u64 a0_3, .int .i64 a0_4, .int .i64 a0_5, .int .i64 a0_6, .int .i64 a0_7, .int .i64 a0_8, .bool a0_9, .int .i64 a0_10, .slice (some ad121) l0_11.length c0_11] 36 (0, 0)) (zK BK119)) : gb119 ≠ gb122)); have NB122_119 := Aside0.mk ((by rw [hg]; exact Nat.ne_of_gt (blk_lt (g := gb119) (o := .cells #[.string a0_0, .bool a0_1, .int .u64 a0_2, .int .u64 a0_3, .int .i64 a0_4, .int .i64 a0_5, .int .i64 a0_6, .int .i64 a0_7, .int .i64 a0_8, .bool a0_9, .int .i64 a0_10, .slice (some ad121) l0_11.length c0_11] 36 (0, 0)) (zK BK119)) : gb122 ≠ gb119)); replace BK119 := Aside0.mk (blk_below (g := gb119) (o := .cells #[.string a0_0, .bool a0_1, .int .u64 a0_2, .int .u64 a0_3, .int .i64 a0_4, .int .i64 a0_5, .int .i64 a0_6, .int .i64 a0_7, .int .i64 a0_8, .bool a0_9, .int .i64 a0_10, .slice (some ad121) l0_11.length c0_11] 36 (0, 0)) (zK BK119) hb); clear hb hbox hg; have hnb57 := NB122_119.out; have hnc57 := NB119_122.out; obtain ⟨hcz58_0, hcz58_1, hcz58_2⟩ := zc3 BK122; obtain ⟨hfz58_0, hfz58_1, hfz58_2⟩ := zf3 BK122))
                                   go_ret
                                   exact ⟨by first | rfl | (simp [errW_none, errW_some] <;> rfl) | (simp [*, errW_none, errW_some] <;> rfl), by repeat (first | (with_reducible first | exact HB.out | apply below_alloc | apply pw_below_drewN | apply below_drew1 | refine below_set ?_ GE119.out | refine below_set ?_ GE122.out) | exact HB.out)⟩
                                 · rw [if_neg c55] at H
                                   have c55b0 : decide (((rd_T74 l0_11 x66_2).f1) < 0) = false := decide_eq_false c55
                                   clear c55
                                   by_cases c59 : ((rd_T74 l0_11 x66_2).f1) > 65535
                                   · rw [if_pos c59] at H
                                     have c59b0 : decide (65535 < ((rd_T74 l0_11 x66_2).f1)) = true := decide_eq_true c59
                                     clear c59
                                     obtain rfl := Option.some.inj H
                                     have p121 : 0 ≤ (x66_2 : Int) := za
                                     have q121 : x66_2 < (l0_11.length : Int) := za
                                     obtain ⟨ad121, e121, hx121_0, hx121_1, hx121_2⟩ := at_T74 HR0_11.out x66_2 p121 q121
                                     cases e121
                                     replace hx121_0 := zh HB hx121_0
                                     replace hx121_1 := zh HB hx121_1
                                     replace hx121_2 := zh HB hx121_2
                                     replace p121 := eq_true p121
                                     replace q121 := eq_true q121
                                     go_wp2_with (first | ((with_reducible refine gate_dst (N := 4) rfl ?_); refine zx 4 #[.int .i64 0, .int .i64 0, .int .i64 0] 74 ?_; intro gb122 hg w60 hbox hb; have BK122 := Aside0.mk (hbox); have GW122 := Aside0.mk ((by rw [hg]; exact (below_size (zB HB)) : w.heap.size ≤ gb122)); have GE122 := Aside0.mk ((by rw [hg]; exact (below_size (zB HB)) : w.heap.size ≤ gb122)); replace HB := Aside0.mk (below_step (zB HB) hb); have NB119_122 := Aside0.mk ((by rw [hg]; exact Nat.ne_of_lt (blk_lt (g := gb119) (o := .cells #[.string a0_0, .bool a0_1, .int .u64 a0_2, .int .u64 a0_3, .int .i64 a0_4, .int .i64 a0_5, .int .i64 a0_6, .int .i64 a0_7, .int .i64 a0_8, .bool a0_9, .int .i64 a0_10, .slice (some ad121) l0_11.length c0_11] 36 (0, 0)) (zK BK119)) : gb119 ≠ gb122)); have NB122_119 := Aside0.mk ((by rw [hg]; exact Nat.ne_of_gt (blk_lt (g := gb119) (o := .cells #[.string a0_0, .bool a0_1, .int .u64 a0_2, .int .u64 a0_3, .int .i64 a0_4, .int .i64 a0_5, .int .i64 a0_6, .int .i64 a0_7, .int .i64 a0_8, .bool a0_9, .int .i64 a0_10, .slice (some ad121) l0_11.length c0_11] 36 (0, 0)) (zK BK119)) : gb122 ≠ gb119)); replace BK119 := Aside0.mk (blk_below (g := gb119) (o := .cells #[.string a0_0, .bool a0_1, .int .u64 a0_2, .int .u64 a0_3, .int .i64 a0_4, .int .i64 a0_5, .int .i64 a0_6, .int .i64 a0_7, .int .i64 a0_8, .bool a0_9, .int .i64 a0_10, .slice (some ad121) l0_11.length c0_11] 36 (0, 0)) (zK BK119) hb); clear hb hbox hg; have hnb61 := NB122_119.out; have hnc61 := NB119_122.out; obtain ⟨hcz62_0, hcz62_1, hcz62_2⟩ := zc3 BK122; obtain ⟨hfz62_0, hfz62_1, hfz62_2⟩ := zf3 BK122))
                                     go_ret
                                     exact ⟨by first | rfl | (simp [errW_none, errW_some] <;> rfl) | (simp [*, errW_none, errW_some] <;> rfl), by repeat (first | (with_reducible first | exact HB.out | apply below_alloc | apply pw_below_drewN | apply below_drew1 | refine below_set ?_ GE119.out | refine below_set ?_ GE122.out) | exact HB.out)⟩
                                   · rw [if_neg c59] at H
                                     have c59b0 : decide (65535 < ((rd_T74 l0_11 x66_2).f1)) = false := decide_eq_false c59
                                     clear c59
                                     by_cases c63 : ((rd_T74 l0_11 x66_2).f2) < 0
                                     · rw [if_pos c63] at H
                                       have c63b0 : decide (((rd_T74 l0_11 x66_2).f2) < 0) = true := decide_eq_true c63
                                       clear c63
                                       obtain rfl := Option.some.inj H
                                       have p121 : 0 ≤ (x66_2 : Int) := za
                                       have q121 : x66_2 < (l0_11.length : Int) := za
                                       obtain ⟨ad121, e121, hx121_0, hx121_1, hx121_2⟩ := at_T74 HR0_11.out x66_2 p121 q121
                                       cases e121
                                       replace hx121_0 := zh HB hx121_0
                                       replace hx121_1 := zh HB hx121_1
                                       replace hx121_2 := zh HB hx121_2
                                       replace p121 := eq_true p121
                                       replace q121 := eq_true q121
                                       go_wp2_with (first | ((with_reducible refine gate_dst (N := 4) rfl ?_); refine zx 4 #[.int .i64 0, .int .i64 0, .int .i64 0] 74 ?_; intro gb122 hg w64 hbox hb; have BK122 := Aside0.mk (hbox); have GW122 := Aside0.mk ((by rw [hg]; exact (below_size (zB HB)) : w.heap.size ≤ gb122)); have GE122 := Aside0.mk ((by rw [hg]; exact (below_size (zB HB)) : w.heap.size ≤ gb122)); replace HB := Aside0.mk (below_step (zB HB) hb); have NB119_122 := Aside0.mk ((by rw [hg]; exact Nat.ne_of_lt (blk_lt (g := gb119) (o := .cells #[.string a0_0, .bool a0_1, .int .u64 a0_2, .int .u64 a0_3, .int .i64 a0_4, .int .i64 a0_5, .int .i64 a0_6, .int .i64 a0_7, .int .i64 a0_8, .bool a0_9, .int .i64 a0_10, .slice (some ad121) l0_11.length c0_11] 36 (0, 0)) (zK BK119)) : gb119 ≠ gb122)); have NB122_119 := Aside0.mk ((by rw [hg]; exact Nat.ne_of_gt (blk_lt (g := gb119) (o := .cells #[.string a0_0, .bool a0_1, .int .u64 a0_2, .int .u64 a0_3, .int .i64 a0_4, .int .i64 a0_5, .int .i64 a0_6, .int .i64 a0_7, .int .i64 a0_8, .bool a0_9, .int .i64 a0_10, .slice (some ad121) l0_11.length c0_11] 36 (0, 0)) (zK BK119)) : gb122 ≠ gb119)); replace BK119 := Aside0.mk (blk_below (g := gb119) (o := .cells #[.string a0_0, .bool a0_1, .int .u64 a0_2, .int .u64 a0_3, .int .i64 a0_4, .int .i64 a0_5, .int .i64 a0_6, .int .i64 a0_7, .int .i64 a0_8, .bool a0_9, .int .i64 a0_10, .slice (some ad121) l0_11.length c0_11] 36 (0, 0)) (zK BK119) hb); clear hb hbox hg; have hnb65 := NB122_119.out; have hnc65 := NB119_122.out; obtain ⟨hcz66_0, hcz66_1, hcz66_2⟩ := zc3 BK122; obtain ⟨hfz66_0, hfz66_1, hfz66_2⟩ := zf3 BK122))
                                       go_ret
                                       exact ⟨by first | rfl | (simp [errW_none, errW_some] <;> rfl) | (simp [*, errW_none, errW_some] <;> rfl), by repeat (first | (with_reducible first | exact HB.out | apply below_alloc | apply pw_below_drewN | apply below_drew1 | refine below_set ?_ GE119.out | refine below_set ?_ GE122.out) | exact HB.out)⟩
                                     · rw [if_neg c63] at H
                                       have c63b0 : decide (((rd_T74 l0_11 x66_2).f2) < 0) = false := decide_eq_false c63
                                       clear c63
                                       by_cases c67 : ((rd_T74 l0_11 x66_2).f2) > 4
                                       · rw [if_pos c67] at H
                                         have c67b0 : decide (4 < ((rd_T74 l0_11 x66_2).f2)) = true := decide_eq_true c67
                                         clear c67
                                         obtain rfl := Option.some.inj H
                                         have p121 : 0 ≤ (x66_2 : Int) := za
                                         have q121 : x66_2 < (l0_11.length : Int) := za
                                         obtain ⟨ad121, e121, hx121_0, hx121_1, hx121_2⟩ := at_T74 HR0_11.out x66_2 p121 q121
                                         cases e121
                                         replace hx121_0 := zh HB hx121_0
                                         replace hx121_1 := zh HB hx121_1
                                         replace hx121_2 := zh HB hx121_2
                                         replace p121 := eq_true p121
                                         replace q121 := eq_true q121
                                         go_wp2_with (first | ((with_reducible refine gate_dst (N := 4) rfl ?_); refine zx 4 #[.int .i64 0, .int .i64 0, .int .i64 0] 74 ?_; intro gb122 hg w68 hbox hb; have BK122 := Aside0.mk (hbox); have GW122 := Aside0.mk ((by rw [hg]; exact (below_size (zB HB)) : w.heap.size ≤ gb122)); have GE122 := Aside0.mk ((by rw [hg]; exact (below_size (zB HB)) : w.heap.size ≤ gb122)); replace HB := Aside0.mk (below_step (zB HB) hb); have NB119_122 := Aside0.mk ((by rw [hg]; exact Nat.ne_of_lt (blk_lt (g := gb119) (o := .cells #[.string a0_0, .bool a0_1, .int .u64 a0_2, .int .u64 a0_3, .int .i64 a0_4, .int .i64 a0_5, .int .i64 a0_6, .int .i64 a0_7, .int .i64 a0_8, .bool a0_9, .int .i64 a0_10, .slice (some ad121) l0_11.length c0_11] 36 (0, 0)) (zK BK119)) : gb119 ≠ gb122)); have NB122_119 := Aside0.mk ((by rw [hg]; exact Nat.ne_of_gt (blk_lt (g := gb119) (o := .cells #[.string a0_0, .bool a0_1, .int .u64 a0_2, .int .u64 a0_3, .int .i64 a0_4, .int .i64 a0_5, .int .i64 a0_6, .int .i64 a0_7, .int .i64 a0_8, .bool a0_9, .int .i64 a0_10, .slice (some ad121) l0_11.length c0_11] 36 (0, 0)) (zK BK119)) : gb122 ≠ gb119)); replace BK119 := Aside0.mk (blk_below (g := gb119) (o := .cells #[.string a0_0, .bool a0_1, .int .u64 a0_2, .int .u64 a0_3, .int .i64 a0_4, .int .i64 a0_5, .int .i64 a0_6, .int .i64 a0_7, .int .i64 a0_8, .bool a0_9, .int .i64 a0_10, .slice (some ad121) l0_11.length c0_11] 36 (0, 0)) (zK BK119) hb); clear hb hbox hg; have hnb69 := NB122_119.out; have hnc69 := NB119_122.out; obtain ⟨hcz70_0, hcz70_1, hcz70_2⟩ := zc3 BK122; obtain ⟨hfz70_0, hfz70_1, hfz70_2⟩ := zf3 BK122))
                                         go_ret
                                         exact ⟨by first | rfl | (simp [errW_none, errW_some] <;> rfl) | (simp [*, errW_none, errW_some] <;> rfl), by repeat (first | (with_reducible first | exact HB.out | apply below_alloc | apply pw_below_drewN | apply below_drew1 | refine below_set ?_ GE119.out | refine below_set ?_ GE122.out) | exact HB.out)⟩
                                       · rw [if_neg c67] at H
                                         have c67b0 : decide (4 < ((rd_T74 l0_11 x66_2).f2)) = false := decide_eq_false c67
                                         clear c67
                                         have H' := Aside0.mk H
                                         clear H
                                         have p121 : 0 ≤ (x66_2 : Int) := za
                                         have q121 : x66_2 < (l0_11.length : Int) := za
                                         obtain ⟨ad121, e121, hx121_0, hx121_1, hx121_2⟩ := at_T74 HR0_11.out x66_2 p121 q121
                                         cases e121
                                         replace hx121_0 := zh HB hx121_0
                                         replace hx121_1 := zh HB hx121_1
                                         replace hx121_2 := zh HB hx121_2
                                         replace p121 := eq_true p121
                                         replace q121 := eq_true q121
                                         go_wp2_with (first | ((with_reducible refine gate_dst (N := 4) rfl ?_); refine zx 4 #[.int .i64 0, .int .i64 0, .int .i64 0] 74 ?_; intro gb122 hg w71 hbox hb; have BK122 := Aside0.mk (hbox); have GW122 := Aside0.mk ((by rw [hg]; exact (below_size (zB HB)) : w.heap.size ≤ gb122)); have GE122 := Aside0.mk ((by rw [hg]; exact (below_size (zB HB)) : w.heap.size ≤ gb122)); replace HB := Aside0.mk (below_step (zB HB) hb); have NB119_122 := Aside0.mk ((by rw [hg]; exact Nat.ne_of_lt (blk_lt (g := gb119) (o := .cells #[.string a0_0, .bool a0_1, .int .u64 a0_2, .int .u64 a0_3, .int .i64 a0_4, .int .i64 a0_5, .int .i64 a0_6, .int .i64 a0_7, .int .i64 a0_8, .bool a0_9, .int .i64 a0_10, .slice (some ad121) l0_11.length c0_11] 36 (0, 0)) (zK BK119)) : gb119 ≠ gb122)); have NB122_119 := Aside0.mk ((by rw [hg]; exact Nat.ne_of_gt (blk_lt (g := gb119) (o := .cells #[.string a0_0, .bool a0_1, .int .u64 a0_2, .int .u64 a0_3, .int .i64 a0_4, .int .i64 a0_5, .int .i64 a0_6, .int .i64 a0_7, .int .i64 a0_8, .bool a0_9, .int .i64 a0_10, .slice (some ad121) l0_11.length c0_11] 36 (0, 0)) (zK BK119)) : gb122 ≠ gb119)); replace BK119 := Aside0.mk (blk_below (g := gb119) (o := .cells #[.string a0_0, .bool a0_1, .int .u64 a0_2, .int .u64 a0_3, .int .i64 a0_4, .int .i64 a0_5, .int .i64 a0_6, .int .i64 a0_7, .int .i64 a0_8, .bool a0_9, .int .i64 a0_10, .slice (some ad121) l0_11.length c0_11] 36 (0, 0)) (zK BK119) hb); clear hb hbox hg; have hnb72 := NB122_119.out; have hnc72 := NB119_122.out; obtain ⟨hcz73_0, hcz73_1, hcz73_2⟩ := zc3 BK122; obtain ⟨hfz73_0, hfz73_1, hfz73_2⟩ := zf3 BK122))
                                         go_roundg k2
                                         case measure => have := HJ6.out; have := HK2.out; omega
                                         case rel => exact ⟨(wrap64 (x66_2 + 1)), (by first | rfl | (simp; done) | (simp [*]; done)), H', ⟨by have := HJ6.out; have := HK2.out; omega⟩, ⟨by refine zL ?_; refine blk_far ?_ NB119_122.out _; refine zL ?_; refine blk_far ?_ NB119_122.out _; refine zL ?_; refine blk_far ?_ NB119_122.out _; refine zL ?_; exact BK119.out⟩, ⟨zB HB⟩⟩
                               · rw [if_neg c54] at H
                                 have c54b0 : (((rd_T74 l0_11 x66_2).f0) == 17) = false := beq_eq_false_iff_ne.mpr c54
                                 have c54b1 : (((rd_T74 l0_11 x66_2).f0) != 17) = true := bne_iff_ne.mpr c54
                                 obtain rfl := Option.some.inj H
                                 have p121 : 0 ≤ (x66_2 : Int) := za
                                 have q121 : x66_2 < (l0_11.length : Int) := za
                                 obtain ⟨ad121, e121, hx121_0, hx121_1, hx121_2⟩ := at_T74 HR0_11.out x66_2 p121 q121
                                 cases e121
                                 replace hx121_0 := zh HB hx121_0
                                 replace hx121_1 := zh HB hx121_1
                                 replace hx121_2 := zh HB hx121_2
                                 replace p121 := eq_true p121
                                 replace q121 := eq_true q121
                                 go_wp2_with (first | ((with_reducible refine gate_dst (N := 4) rfl ?_); refine zx 4 #[.int .i64 0, .int .i64 0, .int .i64 0] 74 ?_; intro gb122 hg w74 hbox hb; have BK122 := Aside0.mk (hbox); have GW122 := Aside0.mk ((by rw [hg]; exact (below_size (zB HB)) : w.heap.size ≤ gb122)); have GE122 := Aside0.mk ((by rw [hg]; exact (below_size (zB HB)) : w.heap.size ≤ gb122)); replace HB := Aside0.mk (below_step (zB HB) hb); have NB119_122 := Aside0.mk ((by rw [hg]; exact Nat.ne_of_lt (blk_lt (g := gb119) (o := .cells #[.string a0_0, .bool a0_1, .int .u64 a0_2, .int .u64 a0_3, .int .i64 a0_4, .int .i64 a0_5, .int .i64 a0_6, .int .i64 a0_7, .int .i64 a0_8, .bool a0_9, .int .i64 a0_10, .slice (some ad121) l0_11.length c0_11] 36 (0, 0)) (zK BK119)) : gb119 ≠ gb122)); have NB122_119 := Aside0.mk ((by rw [hg]; exact Nat.ne_of_gt (blk_lt (g := gb119) (o := .cells #[.string a0_0, .bool a0_1, .int .u64 a0_2, .int .u64 a0_3, .int .i64 a0_4, .int .i64 a0_5, .int .i64 a0_6, .int .i64 a0_7, .int .i64 a0_8, .bool a0_9, .int .i64 a0_10, .slice (some ad121) l0_11.length c0_11] 36 (0, 0)) (zK BK119)) : gb122 ≠ gb119)); replace BK119 := Aside0.mk (blk_below (g := gb119) (o := .cells #[.string a0_0, .bool a0_1, .int .u64 a0_2, .int .u64 a0_3, .int .i64 a0_4, .int .i64 a0_5, .int .i64 a0_6, .int .i64 a0_7, .int .i64 a0_8, .bool a0_9, .int .i64 a0_10, .slice (some ad121) l0_11.length c0_11] 36 (0, 0)) (zK BK119) hb); clear hb hbox hg; have hnb75 := NB122_119.out; have hnc75 := NB119_122.out; obtain ⟨hcz76_0, hcz76_1, hcz76_2⟩ := zc3 BK122; obtain ⟨hfz76_0, hfz76_1, hfz76_2⟩ := zf3 BK122))
                                 go_ret
                                 exact ⟨by first | rfl | (simp [errW_none, errW_some] <;> rfl) | (simp [*, errW_none, errW_some] <;> rfl), by repeat (first | (with_reducible first | exact HB.out | apply below_alloc | apply pw_below_drewN | apply below_drew1 | refine below_set ?_ GE119.out | refine below_set ?_ GE122.out) | exact HB.out)⟩
                           · rw [if_neg c33] at H
                             exact absurd H (by simp)
                         · rw [if_neg c32] at H
                           exact absurd H (by simp)
                       · rw [if_neg c31] at H
                         have c31b0 : decide (x66_2 < (l0_11.length : Int)) = false := decide_eq_false c31
                         clear c31
                         replace H := Option.bind_eq_some_iff.mp H
                         obtain ⟨t123, A770, H⟩ := H
                         try dsimp only at H
                         have A77 := Aside0.mk A770
                         clear A770
                         by_cases c78 : t123 = true
                         · subst c78
                           rw [if_pos rfl] at H
                           obtain rfl := Option.some.inj H
                           obtain ⟨hcz79_0, hcz79_1, hcz79_2, hcz79_3, hcz79_4, hcz79_5, hcz79_6, hcz79_7, hcz79_8, hcz79_9, hcz79_10, hcz79_11⟩ := zc12 BK119
                           obtain ⟨hfz79_0, hfz79_1, hfz79_2, hfz79_3, hfz79_4, hfz79_5, hfz79_6, hfz79_7, hfz79_8, hfz79_9, hfz79_10, hfz79_11⟩ := zf12 BK119
                           go_wp2_with (first | ((with_reducible refine gate_callee (f := 56) rfl ?_); refine goesL_ (some 101) rfl rfl Tryz.func56 (by kernel_rfl) rfl #[.agg #[.bool a0_1, .int .u64 a0_2, .int .u64 a0_3, .int .i64 a0_4]] rfl (by (try simp only [List.map_toArray, List.map_cons, List.map_nil]); first | done | rfl | (simp only [List.length_drop, List.length_take]; rfl)) ?_; (with_reducible refine (address_ValidPrefix.calls a0_1 a0_2 a0_3 a0_4 true _ A77.out).mono ?_); rintro e w80 ⟨rfl, hb⟩; refine ⟨_, rfl, ?_⟩; replace BK119 := Aside0.mk (blk_below (g := gb119) (o := .cells #[.string a0_0, .bool a0_1, .int .u64 a0_2, .int .u64 a0_3, .int .i64 a0_4, .int .i64 a0_5, .int .i64 a0_6, .int .i64 a0_7, .int .i64 a0_8, .bool a0_9, .int .i64 a0_10, .slice A0_11 l0_11.length c0_11] 36 (0, 0)) (zK BK119) hb); replace HB := Aside0.mk (below_step (zB HB) hb); (try clear hb)))
                           go_ret
                           exact ⟨by first | rfl | (simp [errW_none, errW_some] <;> rfl) | (simp [*, errW_none, errW_some] <;> rfl), by repeat (first | (with_reducible first | exact HB.out | apply below_alloc | apply pw_below_drewN | apply below_drew1 | refine below_set ?_ GE119.out) | exact HB.out)⟩
                         · replace c78 := Bool.eq_false_iff.mpr c78
                           subst c78
                           rw [if_neg zF] at H
                           obtain rfl := Option.some.inj H
                           obtain ⟨hcz81_0, hcz81_1, hcz81_2, hcz81_3, hcz81_4, hcz81_5, hcz81_6, hcz81_7, hcz81_8, hcz81_9, hcz81_10, hcz81_11⟩ := zc12 BK119
                           obtain ⟨hfz81_0, hfz81_1, hfz81_2, hfz81_3, hfz81_4, hfz81_5, hfz81_6, hfz81_7, hfz81_8, hfz81_9, hfz81_10, hfz81_11⟩ := zf12 BK119
                           go_wp2_with (first | ((with_reducible refine gate_callee (f := 56) rfl ?_); refine goesL_ (some 101) rfl rfl Tryz.func56 (by kernel_rfl) rfl #[.agg #[.bool a0_1, .int .u64 a0_2, .int .u64 a0_3, .int .i64 a0_4]] rfl (by (try simp only [List.map_toArray, List.map_cons, List.map_nil]); first | done | rfl | (simp only [List.length_drop, List.length_take]; rfl)) ?_; (with_reducible refine (address_ValidPrefix.calls a0_1 a0_2 a0_3 a0_4 false _ A77.out).mono ?_); rintro e w82 ⟨rfl, hb⟩; refine ⟨_, rfl, ?_⟩; replace BK119 := Aside0.mk (blk_below (g := gb119) (o := .cells #[.string a0_0, .bool a0_1, .int .u64 a0_2, .int .u64 a0_3, .int .i64 a0_4, .int .i64 a0_5, .int .i64 a0_6, .int .i64 a0_7, .int .i64 a0_8, .bool a0_9, .int .i64 a0_10, .slice A0_11 l0_11.length c0_11] 36 (0, 0)) (zK BK119) hb); replace HB := Aside0.mk (below_step (zB HB) hb); (try clear hb)))
                           go_ret
                           exact ⟨by first | rfl | (simp [errW_none, errW_some] <;> rfl) | (simp [*, errW_none, errW_some] <;> rfl), by repeat (first | (with_reducible first | exact HB.out | apply below_alloc | apply pw_below_drewN | apply below_drew1 | refine below_set ?_ GE119.out) | exact HB.out)⟩
   · replace c6 := Bool.eq_false_iff.mpr c6
     subst c6
     rw [if_neg zF] at H
     obtain rfl := Option.some.inj H
     go_enter Tryz.func30, Tryz.ntmps30
     go_wp2_with (first | ((with_reducible refine gate_dst (N := 1) rfl ?_); refine zx 1 #[.string a0_0, .bool a0_1, .int .u64 a0_2, .int .u64 a0_3, .int .i64 a0_4, .int .i64 a0_5, .int .i64 a0_6, .int .i64 a0_7, .int .i64 a0_8, .bool a0_9, .int .i64 a0_10, .slice A0_11 l0_11.length c0_11] 36 ?_; intro gb119 hg w83 hbox hb; have BK119 := Aside0.mk (hbox); have GW119 := Aside0.mk ((by rw [hg]; exact (below_size (zB HB)) : w.heap.size ≤ gb119)); have GE119 := Aside0.mk ((by rw [hg]; exact (below_size (zB HB)) : w.heap.size ≤ gb119)); replace HB := Aside0.mk (below_step (zB HB) hb); clear hb hbox hg; obtain ⟨hcz84_0, hcz84_1, hcz84_2, hcz84_3, hcz84_4, hcz84_5, hcz84_6, hcz84_7, hcz84_8, hcz84_9, hcz84_10, hcz84_11⟩ := zc12 BK119; obtain ⟨hfz84_0, hfz84_1, hfz84_2, hfz84_3, hfz84_4, hfz84_5, hfz84_6, hfz84_7, hfz84_8, hfz84_9, hfz84_10, hfz84_11⟩ := zf12 BK119) | ((with_reducible refine gate_callee (f := 55) rfl ?_); refine goesL_ (some 13) rfl rfl Tryz.func55 (by kernel_rfl) rfl #[.string a0_0] rfl (by (try simp only [List.map_toArray, List.map_cons, List.map_nil]); first | done | rfl | (simp only [List.length_drop, List.length_take]; rfl)) ?_; (with_reducible refine (lexer_IsName.calls k a0_0 false _ A5.out).mono ?_); rintro e w' ⟨rfl, ⟨nd, rfl⟩⟩; refine ⟨_, rfl, ?_⟩))
     go_ret
     exact ⟨by first | rfl | (simp [errW_none, errW_some] <;> rfl) | (simp [*, errW_none, errW_some] <;> rfl), by repeat (first | (with_reducible first | exact HB.out | apply below_alloc | apply pw_below_drewN | apply below_drew1 | refine below_set ?_ GE119.out) | exact HB.out)⟩
end Go.Proofs.YtnphnhkinjppjaaGreatDoor.Q
end

section
namespace Go.Proofs.YtnphnhkinjppjaaGreatDoor.Q
open Go.RowKit Go.Proofs.YtnphnhkinjppjaaGreatDoorW.PrintWords Go.Proofs.YtnphnhkinjppjaaGreatDoorW.PrintLast Go.Proofs.YtnphnhkinjppjaaGreatDoorW.PrintMore
attribute [local go_sem] max2_int min2_int max_two min_two max_three min_three max_four min_four
set_option linter.unusedVariables false
set_option linter.unusedSimpArgs false
mutual
def asset_twice.l0 : Nat → List (S74) → List (S74) → Int → Int → Option (Bool)
  | 0, _, _, _, _ => none
  | k + 1, x0, x7, x8, x9 => if x9 < x8 then (if 0 ≤ x9 then (if x9 < (x7.length : Int) then (if x9 ≤ (x0.length : Int) then ((some (x0.take (x9 : Int).toNat : List (S74))).bind fun y127 => (asset_twice.l1 k x0 x7 x8 x9 y127 (y127.length : Int) 0 ((rd_T74 x7 x9).f0) ((rd_T74 x7 x9).f1) ((rd_T74 x7 x9).f2))) else (none)) else (none)) else (none)) else (some false)
def asset_twice.l1 : Nat → List (S74) → List (S74) → Int → Int → List (S74) → Int → Int → Int → Int → Int → Option (Bool)
  | 0, _, _, _, _, _, _, _, _, _, _ => none
  | k + 1, x0, x7, x8, x9, x16, x17, x18, x127000, x127001, x127002 => if x18 < x17 then (if 0 ≤ x18 then (if x18 < (x16.length : Int) then (if x127000 = ((rd_T74 x16 x18).f0) then (if x127001 = ((rd_T74 x16 x18).f1) then (some true) else (asset_twice.l1 k x0 x7 x8 x9 x16 x17 (wrap64 (x18 + 1)) x127000 x127001 x127002)) else (asset_twice.l1 k x0 x7 x8 x9 x16 x17 (wrap64 (x18 + 1)) x127000 x127001 x127002)) else (none)) else (none)) else (asset_twice.l0 k x0 x7 x8 (wrap64 (x9 + 1)))
end
def asset_twice.f (k : Nat) (l0 : List (S74)) : Option (Bool) := asset_twice.l0 k l0 l0 (l0.length : Int) 0
theorem asset_twice.mono_l : ∀ k, (∀ y0 y1 y2 y3, LeO (asset_twice.l0 k y0 y1 y2 y3) (asset_twice.l0 (k + 1) y0 y1 y2 y3)) ∧ (∀ y0 y1 y2 y3 y4 y5 y6 y7 y8 y9, LeO (asset_twice.l1 k y0 y1 y2 y3 y4 y5 y6 y7 y8 y9) (asset_twice.l1 (k + 1) y0 y1 y2 y3 y4 y5 y6 y7 y8 y9))
  | 0 => ⟨fun _ _ _ _ r h => by simp [asset_twice.l0] at h, fun _ _ _ _ _ _ _ _ _ _ r h => by simp [asset_twice.l1] at h⟩
  | k + 1 => by
    obtain ⟨ih0, ih1⟩ := asset_twice.mono_l k
    refine ⟨?_, ?_⟩
    · intro y0 y1 y2 y3
      unfold asset_twice.l0
      repeat' first
      | (with_reducible exact ih0 _ _ _ _)
      | (with_reducible exact ih1 _ _ _ _ _ _ _ _ _ _)
      | (with_reducible exact LeO.refl _)
      | (with_reducible exact LeO.none _)
      | (with_reducible refine LeO.ite ?_ ?_)
      | (with_reducible refine LeO.bind ?_ (fun _ => ?_))
      | exact ih0 _ _ _ _
      | exact ih1 _ _ _ _ _ _ _ _ _ _
      | exact LeO.none _
      | refine LeO.ite ?_ ?_
      | refine LeO.bind ?_ (fun _ => ?_)
    · intro y0 y1 y2 y3 y4 y5 y6 y7 y8 y9
      unfold asset_twice.l1
      repeat' first
      | (with_reducible exact ih0 _ _ _ _)
      | (with_reducible exact ih1 _ _ _ _ _ _ _ _ _ _)
      | (with_reducible exact LeO.refl _)
      | (with_reducible exact LeO.none _)
      | (with_reducible refine LeO.ite ?_ ?_)
      | (with_reducible refine LeO.bind ?_ (fun _ => ?_))
      | exact ih0 _ _ _ _
      | exact ih1 _ _ _ _ _ _ _ _ _ _
      | exact LeO.none _
      | refine LeO.ite ?_ ?_
      | refine LeO.bind ?_ (fun _ => ?_)
theorem asset_twice.mono : ∀ a0 k, LeO (asset_twice.f k a0) (asset_twice.f (k + 1) a0) := by
  intro a0 k
  obtain ⟨ih0, ih1⟩ := asset_twice.mono_l k
  unfold asset_twice.f
  repeat' first
      | (with_reducible exact ih0 _ _ _ _)
      | (with_reducible exact ih1 _ _ _ _ _ _ _ _ _ _)
      | (with_reducible exact LeO.refl _)
      | (with_reducible exact LeO.none _)
      | (with_reducible refine LeO.ite ?_ ?_)
      | (with_reducible refine LeO.bind ?_ (fun _ => ?_))
      | exact ih0 _ _ _ _
      | exact ih1 _ _ _ _ _ _ _ _ _ _
      | exact LeO.none _
      | refine LeO.ite ?_ ?_
      | refine LeO.bind ?_ (fun _ => ?_)
set_option maxHeartbeats 8000000 in
set_option maxRecDepth 100000 in
theorem asset_twice.calls (k : Nat) (A0 : Option Addr) (c0 : Nat) (l0 : List (S74)) (r : Bool) (w : World) (hr0 : Kd.C k74 w A0 l0.length l0) (hc0 : l0.length ≤ c0) (h : asset_twice.f k l0 = some r) :
 Calls Tryz.prog 33 #[.slice A0 l0.length c0] w fun e w' => e = .returned (.bool r) ∧ Below w.heap.size w w' := by
 have hu74 := Tryz.underlying74
 have HR0 := Aside0.mk hr0
 have HC0 := Aside0.mk hc0
 clear hr0 hc0
 have HB := Aside0.mk (Below.refl w.heap.size w)
 unfold asset_twice.f at h; have H := h
 clear h
 have H' := Aside0.mk H
 clear H
 go_enter Tryz.func33, Tryz.ntmps33
 go_wp2
 go_loopg [9] k (fun kq v9 w' => ∃ (x9_1 : Int), v9 = .int .i64 x9_1 ∧ Aside0 (asset_twice.l0 kq l0 l0 (l0.length : Int) x9_1 = some r) ∧ Aside0 (kq ≤ k) ∧ Aside0 (Below w.heap.size w w'))
 case atStart => exact ⟨(0), (by first | rfl | (simp; done) | (simp [*]; done)), H', ⟨Nat.le_refl _⟩, ⟨zB HB⟩⟩
 case round =>
  clear H'
  obtain ⟨x9_1, rfl, HA, HK1, HB⟩ := hrel
  cases gk with
  | zero => exact absurd HA.out (by simp [asset_twice.l0])
  | succ k1 =>
   have H := HA.out
   clear HA
   simp only [asset_twice.l0] at H
   by_cases c2 : x9_1 < (l0.length : Int)
   · rw [if_pos c2] at H
     have c2b0 : decide (x9_1 < (l0.length : Int)) = true := decide_eq_true c2
     clear c2
     by_cases c3 : 0 ≤ x9_1
     · rw [if_pos c3] at H
       have c3b0 : decide (0 ≤ x9_1) = true := decide_eq_true c3
       clear c3
       by_cases c4 : x9_1 < (l0.length : Int)
       · rw [if_pos c4] at H
         have c4b0 : decide (x9_1 < (l0.length : Int)) = true := decide_eq_true c4
         clear c4
         have c5b0 := eq_true (of_decide_eq_true (by first | (with_reducible assumption) | assumption) : 0 ≤ x9_1)
         by_cases c6 : x9_1 ≤ (l0.length : Int)
         · rw [if_pos c6] at H
           have c6b0 := eq_true c6
           have c6b1 : decide (x9_1 ≤ (l0.length : Int)) = true := decide_eq_true c6
           clear c6
           obtain ⟨y127, hy127⟩ : ∃ y_ : List (S74), y_ = (l0.take (x9_1 : Int).toNat) := ⟨_, rfl⟩
           rw [← hy127] at H; try dsimp only [Option.bind_some] at H
           have Ny127 := Aside0.mk hy127
           clear hy127
           have H' := Aside0.mk H
           clear H
           have p125 : 0 ≤ (x9_1 : Int) := za
           have q125 : x9_1 < (l0.length : Int) := za
           obtain ⟨ad125, e125, hx125_0, hx125_1, hx125_2⟩ := at_T74 HR0.out x9_1 p125 q125
           cases e125
           replace hx125_0 := zh HB hx125_0
           replace hx125_1 := zh HB hx125_1
           replace hx125_2 := zh HB hx125_2
           replace p125 := eq_true p125
           replace q125 := eq_true q125
           go_wp2_with (first | ((with_reducible refine gate_dst (N := 4) rfl ?_); refine zx 4 #[.int .i64 0, .int .i64 0, .int .i64 0] 74 ?_; intro gb126 hg w7 hbox hb; have BK126 := Aside0.mk (hbox); have GW126 := Aside0.mk ((by rw [hg]; exact (below_size (zB HB)) : w.heap.size ≤ gb126)); have GE126 := Aside0.mk ((by rw [hg]; exact (below_size (zB HB)) : w.heap.size ≤ gb126)); replace HB := Aside0.mk (below_step (zB HB) hb); clear hb hbox hg; obtain ⟨hcz8_0, hcz8_1, hcz8_2⟩ := zc3 BK126; obtain ⟨hfz8_0, hfz8_1, hfz8_2⟩ := zf3 BK126) | ((with_reducible refine gate_store (t := 74) (p := 4) rfl ?_); refine store_event (t := 74) (p := 4) (v := ?vo_w9) (w1 := (((w7.setCell ⟨gb126, 0, none⟩ (.int .i64 ((rd_T74 l0 x9_1).f0))).setCell ⟨gb126, 1, none⟩ (.int .i64 ((rd_T74 l0 x9_1).f1))).setCell ⟨gb126, 2, none⟩ (.int .i64 ((rd_T74 l0 x9_1).f2)))) ?hg ?ho ?hn ?hr ?_; (case ho => rfl); (case hg => rfl); (case hn => rfl); (case hr => first | (go_simp; done) | (go_simp; rfl)); intro w9 hw; replace BK126 : Aside0 (w9.heap[gb126]? = some (.cells #[.int .i64 ((rd_T74 l0 x9_1).f0), .int .i64 ((rd_T74 l0 x9_1).f1), .int .i64 ((rd_T74 l0 x9_1).f2)] 74 (0, 0))) := ⟨(by rw [hw]; exact (by refine zL ?_; refine blk_put (cs := #[.int .i64 ((rd_T74 l0 x9_1).f0), .int .i64 ((rd_T74 l0 x9_1).f1), .int .i64 0]) ?_ 2 _ rfl; refine zL ?_; refine blk_put (cs := #[.int .i64 ((rd_T74 l0 x9_1).f0), .int .i64 0, .int .i64 0]) ?_ 1 _ rfl; refine zL ?_; refine blk_put (cs := #[.int .i64 0, .int .i64 0, .int .i64 0]) ?_ 0 _ rfl; refine zL ?_; exact BK126.out))⟩; replace HB : Aside0 (Below w.heap.size w w9) := ⟨(by rw [hw]; exact (zB HB))⟩; clear hw; have q10 : (x9_1 : Int) ≤ ((l0.length : Int) : Int) := za; obtain ⟨i010, hi010, _, hsz10, _⟩ := info_parts info74; have hroom10 : l0.length ≤ c0 := HC0.out; have hC10 : Kd.C k74 _ (some ad125) l0.length l0 := HR0.out; have hcut10 := cut_to (P := Tryz.prog) 34 74 .i64 Tryz.underlying34 hi010 (some ad125) l0.length c0 x9_1 (of_decide_eq_true (by first | (with_reducible assumption) | assumption)) q10 hroom10; have hr10 := Kd.C_take (m := (x9_1 : Int).toNat) hC10 (by omega); have hy10 : y127.length = (x9_1 : Int).toNat := (by rw [Ny127.out, List.length_take]; omega); rw [← Ny127.out] at hr10; rw [← hy10] at hcut10; have HR130 := Aside0.mk hr10; have HC130 := Aside0.mk (show y127.length ≤ c0 from by omega); clear hr10 hC10 hroom10 hi010 hsz10; have KY10 := Aside0.mk hy10; clear hy10; replace q10 := eq_true q10))
           go_loopg [18] k1 (fun kq v18 w' => ∃ (x18_2 : Int), v18 = .int .i64 x18_2 ∧ Aside0 (asset_twice.l1 kq l0 l0 (l0.length : Int) x9_1 y127 (y127.length : Int) x18_2 ((rd_T74 l0 x9_1).f0) ((rd_T74 l0 x9_1).f1) ((rd_T74 l0 x9_1).f2) = some r) ∧ Aside0 (kq ≤ k1) ∧ Aside0 (w'.heap[gb126]? = some (.cells #[.int .i64 ((rd_T74 l0 x9_1).f0), .int .i64 ((rd_T74 l0 x9_1).f1), .int .i64 ((rd_T74 l0 x9_1).f2)] 74 (0, 0))) ∧ Aside0 (Below w.heap.size w w'))
           case atStart => exact ⟨(0), (by first | rfl | (simp; done) | (simp [*]; done)), H', ⟨Nat.le_refl _⟩, ⟨zK BK126⟩, ⟨zB HB⟩⟩
           case round =>
            clear H'
            try clear p1
            try clear q1
            try clear hx1
            try clear c2
            try clear c2b0
            try clear p2
            try clear c3
            try clear c3b0
            try clear c4
            try clear c4b0
            try clear c5
            try clear c5b0
            try clear c6
            try clear c6b0
            try clear c6b1
            try clear q10
            try clear hcz8_0
            try clear hcz8_1
            try clear hcz8_2
            try clear hfz8_0
            try clear hfz8_1
            try clear hfz8_2
            try clear hx125_0
            try clear hx125_1
            try clear hx125_2
            try clear p125
            try clear q10
            try clear q125
            obtain ⟨x18_2, rfl, HA, HK2, BK126, HB⟩ := hrel
            cases gk with
            | zero => exact absurd HA.out (by simp [asset_twice.l1])
            | succ k2 =>
             have H := HA.out
             clear HA
             simp only [asset_twice.l1] at H
             by_cases c11 : x18_2 < (y127.length : Int)
             · rw [if_pos c11] at H
               have c11b0 : decide (x18_2 < (y127.length : Int)) = true := decide_eq_true c11
               clear c11
               by_cases c12 : 0 ≤ x18_2
               · rw [if_pos c12] at H
                 have c12b0 : decide (0 ≤ x18_2) = true := decide_eq_true c12
                 clear c12
                 by_cases c13 : x18_2 < (y127.length : Int)
                 · rw [if_pos c13] at H
                   have c13b0 : decide (x18_2 < (y127.length : Int)) = true := decide_eq_true c13
                   clear c13
                   by_cases c14 : ((rd_T74 l0 x9_1).f0) = ((rd_T74 y127 x18_2).f0)
                   · rw [if_pos c14] at H
                     have c14b0 : (((rd_T74 l0 x9_1).f0) == ((rd_T74 y127 x18_2).f0)) = true := beq_iff_eq.mpr c14
                     have c14b1 : (((rd_T74 l0 x9_1).f0) != ((rd_T74 y127 x18_2).f0)) = false := bne_eq_false_iff_eq.mpr c14
                     clear c14
                     by_cases c15 : ((rd_T74 l0 x9_1).f1) = ((rd_T74 y127 x18_2).f1)
                     · rw [if_pos c15] at H
                       have c15b0 : (((rd_T74 l0 x9_1).f1) == ((rd_T74 y127 x18_2).f1)) = true := beq_iff_eq.mpr c15
                       have c15b1 : (((rd_T74 l0 x9_1).f1) != ((rd_T74 y127 x18_2).f1)) = false := bne_eq_false_iff_eq.mpr c15
                       clear c15
                       obtain rfl := Option.some.inj H
                       have p131 : 0 ≤ (x18_2 : Int) := za
                       have q131 : x18_2 < (y127.length : Int) := za
                       obtain ⟨ad131, e131, hx131_0, hx131_1, hx131_2⟩ := at_T74 HR130.out x18_2 p131 q131
                       obtain rfl : ad125 = ad131 := (by injection e131)
                       replace hx131_0 := zh HB hx131_0
                       replace hx131_1 := zh HB hx131_1
                       replace hx131_2 := zh HB hx131_2
                       replace p131 := eq_true p131
                       replace q131 := eq_true q131
                       go_wp2_with (first | ((with_reducible refine gate_dst (N := 6) rfl ?_); refine zx 6 #[.int .i64 0, .int .i64 0, .int .i64 0] 74 ?_; intro gb132 hg w16 hbox hb; have BK132 := Aside0.mk (hbox); have GW132 := Aside0.mk ((by rw [hg]; exact (below_size (zB HB)) : w.heap.size ≤ gb132)); have GE132 := Aside0.mk ((by rw [hg]; exact (below_size (zB HB)) : w.heap.size ≤ gb132)); replace HB := Aside0.mk (below_step (zB HB) hb); have NB126_132 := Aside0.mk ((by rw [hg]; exact Nat.ne_of_lt (blk_lt (g := gb126) (o := .cells #[.int .i64 ((rd_T74 l0 x9_1).f0), .int .i64 ((rd_T74 l0 x9_1).f1), .int .i64 ((rd_T74 l0 x9_1).f2)] 74 (0, 0)) (zK BK126)) : gb126 ≠ gb132)); have NB132_126 := Aside0.mk ((by rw [hg]; exact Nat.ne_of_gt (blk_lt (g := gb126) (o := .cells #[.int .i64 ((rd_T74 l0 x9_1).f0), .int .i64 ((rd_T74 l0 x9_1).f1), .int .i64 ((rd_T74 l0 x9_1).f2)] 74 (0, 0)) (zK BK126)) : gb132 ≠ gb126)); replace BK126 := Aside0.mk (blk_below (g := gb126) (o := .cells #[.int .i64 ((rd_T74 l0 x9_1).f0), .int .i64 ((rd_T74 l0 x9_1).f1), .int .i64 ((rd_T74 l0 x9_1).f2)] 74 (0, 0)) (zK BK126) hb); clear hb hbox hg; have hnb17 := NB132_126.out; have hnc17 := NB126_132.out; obtain ⟨hcz18_0, hcz18_1, hcz18_2⟩ := zc3 BK132; obtain ⟨hfz18_0, hfz18_1, hfz18_2⟩ := zf3 BK132; obtain ⟨hcz19_0, hcz19_1, hcz19_2⟩ := zc3 BK126; obtain ⟨hfz19_0, hfz19_1, hfz19_2⟩ := zf3 BK126))
                       go_ret
                       exact ⟨by first | rfl | (simp [errW_none, errW_some] <;> rfl) | (simp [*, errW_none, errW_some] <;> rfl), by repeat (first | (with_reducible first | exact HB.out | apply below_alloc | apply pw_below_drewN | apply below_drew1 | refine below_set ?_ GE126.out | refine below_set ?_ GE132.out) | exact HB.out)⟩
                     · rw [if_neg c15] at H
                       have c15b0 : (((rd_T74 l0 x9_1).f1) == ((rd_T74 y127 x18_2).f1)) = false := beq_eq_false_iff_ne.mpr c15
                       have c15b1 : (((rd_T74 l0 x9_1).f1) != ((rd_T74 y127 x18_2).f1)) = true := bne_iff_ne.mpr c15
                       have H' := Aside0.mk H
                       clear H
                       have p131 : 0 ≤ (x18_2 : Int) := za
                       have q131 : x18_2 < (y127.length : Int) := za
                       obtain ⟨ad131, e131, hx131_0, hx131_1, hx131_2⟩ := at_T74 HR130.out x18_2 p131 q131
                       obtain rfl : ad125 = ad131 := (by injection e131)
                       replace hx131_0 := zh HB hx131_0
                       replace hx131_1 := zh HB hx131_1
                       replace hx131_2 := zh HB hx131_2
                       replace p131 := eq_true p131
                       replace q131 := eq_true q131
                       go_wp2_with (first | ((with_reducible refine gate_dst (N := 6) rfl ?_); refine zx 6 #[.int .i64 0, .int .i64 0, .int .i64 0] 74 ?_; intro gb132 hg w20 hbox hb; have BK132 := Aside0.mk (hbox); have GW132 := Aside0.mk ((by rw [hg]; exact (below_size (zB HB)) : w.heap.size ≤ gb132)); have GE132 := Aside0.mk ((by rw [hg]; exact (below_size (zB HB)) : w.heap.size ≤ gb132)); replace HB := Aside0.mk (below_step (zB HB) hb); have NB126_132 := Aside0.mk ((by rw [hg]; exact Nat.ne_of_lt (blk_lt (g := gb126) (o := .cells #[.int .i64 ((rd_T74 l0 x9_1).f0), .int .i64 ((rd_T74 l0 x9_1).f1), .int .i64 ((rd_T74 l0 x9_1).f2)] 74 (0, 0)) (zK BK126)) : gb126 ≠ gb132)); have NB132_126 := Aside0.mk ((by rw [hg]; exact Nat.ne_of_gt (blk_lt (g := gb126) (o := .cells #[.int .i64 ((rd_T74 l0 x9_1).f0), .int .i64 ((rd_T74 l0 x9_1).f1), .int .i64 ((rd_T74 l0 x9_1).f2)] 74 (0, 0)) (zK BK126)) : gb132 ≠ gb126)); replace BK126 := Aside0.mk (blk_below (g := gb126) (o := .cells #[.int .i64 ((rd_T74 l0 x9_1).f0), .int .i64 ((rd_T74 l0 x9_1).f1), .int .i64 ((rd_T74 l0 x9_1).f2)] 74 (0, 0)) (zK BK126) hb); clear hb hbox hg; have hnb21 := NB132_126.out; have hnc21 := NB126_132.out; obtain ⟨hcz22_0, hcz22_1, hcz22_2⟩ := zc3 BK132; obtain ⟨hfz22_0, hfz22_1, hfz22_2⟩ := zf3 BK132; obtain ⟨hcz23_0, hcz23_1, hcz23_2⟩ := zc3 BK126; obtain ⟨hfz23_0, hfz23_1, hfz23_2⟩ := zf3 BK126))
                       go_roundg k2
                       case measure => have := HK1.out; have := HK2.out; omega
                       case rel => exact ⟨(wrap64 (x18_2 + 1)), (by first | rfl | (simp; done) | (simp [*]; done)), H', ⟨by have := HK1.out; have := HK2.out; omega⟩, ⟨by refine zL ?_; refine blk_far ?_ NB126_132.out _; refine zL ?_; refine blk_far ?_ NB126_132.out _; refine zL ?_; refine blk_far ?_ NB126_132.out _; refine zL ?_; exact BK126.out⟩, ⟨zB HB⟩⟩
                   · rw [if_neg c14] at H
                     have c14b0 : (((rd_T74 l0 x9_1).f0) == ((rd_T74 y127 x18_2).f0)) = false := beq_eq_false_iff_ne.mpr c14
                     have c14b1 : (((rd_T74 l0 x9_1).f0) != ((rd_T74 y127 x18_2).f0)) = true := bne_iff_ne.mpr c14
                     have H' := Aside0.mk H
                     clear H
                     have p131 : 0 ≤ (x18_2 : Int) := za
                     have q131 : x18_2 < (y127.length : Int) := za
                     obtain ⟨ad131, e131, hx131_0, hx131_1, hx131_2⟩ := at_T74 HR130.out x18_2 p131 q131
                     obtain rfl : ad125 = ad131 := (by injection e131)
                     replace hx131_0 := zh HB hx131_0
                     replace hx131_1 := zh HB hx131_1
                     replace hx131_2 := zh HB hx131_2
                     replace p131 := eq_true p131
                     replace q131 := eq_true q131
                     go_wp2_with (first | ((with_reducible refine gate_dst (N := 6) rfl ?_); refine zx 6 #[.int .i64 0, .int .i64 0, .int .i64 0] 74 ?_; intro gb132 hg w24 hbox hb; have BK132 := Aside0.mk (hbox); have GW132 := Aside0.mk ((by rw [hg]; exact (below_size (zB HB)) : w.heap.size ≤ gb132)); have GE132 := Aside0.mk ((by rw [hg]; exact (below_size (zB HB)) : w.heap.size ≤ gb132)); replace HB := Aside0.mk (below_step (zB HB) hb); have NB126_132 := Aside0.mk ((by rw [hg]; exact Nat.ne_of_lt (blk_lt (g := gb126) (o := .cells #[.int .i64 ((rd_T74 l0 x9_1).f0), .int .i64 ((rd_T74 l0 x9_1).f1), .int .i64 ((rd_T74 l0 x9_1).f2)] 74 (0, 0)) (zK BK126)) : gb126 ≠ gb132)); have NB132_126 := Aside0.mk ((by rw [hg]; exact Nat.ne_of_gt (blk_lt (g := gb126) (o := .cells #[.int .i64 ((rd_T74 l0 x9_1).f0), .int .i64 ((rd_T74 l0 x9_1).f1), .int .i64 ((rd_T74 l0 x9_1).f2)] 74 (0, 0)) (zK BK126)) : gb132 ≠ gb126)); replace BK126 := Aside0.mk (blk_below (g := gb126) (o := .cells #[.int .i64 ((rd_T74 l0 x9_1).f0), .int .i64 ((rd_T74 l0 x9_1).f1), .int .i64 ((rd_T74 l0 x9_1).f2)] 74 (0, 0)) (zK BK126) hb); clear hb hbox hg; have hnb25 := NB132_126.out; have hnc25 := NB126_132.out; obtain ⟨hcz26_0, hcz26_1, hcz26_2⟩ := zc3 BK132; obtain ⟨hfz26_0, hfz26_1, hfz26_2⟩ := zf3 BK132; obtain ⟨hcz27_0, hcz27_1, hcz27_2⟩ := zc3 BK126; obtain ⟨hfz27_0, hfz27_1, hfz27_2⟩ := zf3 BK126))
                     go_roundg k2
                     case measure => have := HK1.out; have := HK2.out; omega
                     case rel => exact ⟨(wrap64 (x18_2 + 1)), (by first | rfl | (simp; done) | (simp [*]; done)), H', ⟨by have := HK1.out; have := HK2.out; omega⟩, ⟨by refine zL ?_; refine blk_far ?_ NB126_132.out _; refine zL ?_; refine blk_far ?_ NB126_132.out _; refine zL ?_; refine blk_far ?_ NB126_132.out _; refine zL ?_; exact BK126.out⟩, ⟨zB HB⟩⟩
                 · rw [if_neg c13] at H
                   exact absurd H (by simp)
               · rw [if_neg c12] at H
                 exact absurd H (by simp)
             · rw [if_neg c11] at H
               have c11b0 : decide (x18_2 < (y127.length : Int)) = false := decide_eq_false c11
               clear c11
               have H' := Aside0.mk H
               clear H
               go_wp2
               go_roundg k2
               case measure => have := HK1.out; have := HK2.out; omega
               case rel => exact ⟨(wrap64 (x9_1 + 1)), (by first | rfl | (simp; done) | (simp [*]; done)), H', ⟨by have := HK1.out; have := HK2.out; omega⟩, ⟨zB HB⟩⟩
         · rw [if_neg c6] at H
           exact absurd H (by simp)
       · rw [if_neg c4] at H
         exact absurd H (by simp)
     · rw [if_neg c3] at H
       exact absurd H (by simp)
   · rw [if_neg c2] at H
     have c2b0 : decide (x9_1 < (l0.length : Int)) = false := decide_eq_false c2
     clear c2
     obtain rfl := Option.some.inj H
     go_wp2
     go_ret
     exact ⟨by first | rfl | (simp [errW_none, errW_some] <;> rfl) | (simp [*, errW_none, errW_some] <;> rfl), by repeat (first | (with_reducible first | exact HB.out | apply below_alloc | apply pw_below_drewN | apply below_drew1) | exact HB.out)⟩
end Go.Proofs.YtnphnhkinjppjaaGreatDoor.Q
end

section
namespace Go.Proofs.YtnphnhkinjppjaaGreatDoor.Q
open Go.RowKit Go.Proofs.YtnphnhkinjppjaaGreatDoorW.PrintWords Go.Proofs.YtnphnhkinjppjaaGreatDoorW.PrintLast Go.Proofs.YtnphnhkinjppjaaGreatDoorW.PrintMore
attribute [local go_sem] max2_int min2_int max_two min_two max_three min_three max_four min_four
set_option linter.unusedVariables false
set_option linter.unusedSimpArgs false
theorem eqA31 (d : Nat) (w : World) (x0 y0 : Bool) (x1 y1 : Int) (x2 y2 : Int) :
    (Op.equalIn (d + 2) 31 (.agg #[.bool x0, .int .u64 x1, .int .u64 x2]) (.agg #[.bool y0, .int .u64 y1, .int .u64 y2])).run Tryz.prog w = .ok (x0 == y0 && (x1 == y1 && (x2 == y2))) w := by
  refine eqA_of Tryz.underlying31 (by kernel_rfl) ?_
  refine eqf_cons (by rfl) (by go_simp; rfl) (by go_simp; rfl) (by go_simp) ?_
  refine eqf_cons (by rfl) (by go_simp; rfl) (by go_simp; rfl) (by go_simp) ?_
  exact eqf_last (by rfl) (by go_simp; rfl) (by go_simp; rfl) (by go_simp)
end Go.Proofs.YtnphnhkinjppjaaGreatDoor.Q
end

section
namespace Go.Proofs.YtnphnhkinjppjaaGreatDoor.Q
open Go.RowKit Go.Proofs.YtnphnhkinjppjaaGreatDoorW.PrintWords Go.Proofs.YtnphnhkinjppjaaGreatDoorW.PrintLast Go.Proofs.YtnphnhkinjppjaaGreatDoorW.PrintMore
attribute [local go_sem] max2_int min2_int max_two min_two max_three min_three max_four min_four
set_option linter.unusedVariables false
set_option linter.unusedSimpArgs false
theorem eqA33 (d : Nat) (w : World) (x0 y0 : Bool) (x1 y1 : Int) (x2 y2 : Int) (x3 y3 : Int) :
    (Op.equalIn (d + 3) 33 (.agg #[.bool x0, .int .u64 x1, .int .u64 x2, .int .i64 x3]) (.agg #[.bool y0, .int .u64 y1, .int .u64 y2, .int .i64 y3])).run Tryz.prog w = .ok ((x0 == y0 && (x1 == y1 && (x2 == y2))) && (x3 == y3)) w := by
  refine eqA_of Tryz.underlying33 (by kernel_rfl) ?_
  refine eqf_cons (by rfl) (by go_simp) (by go_simp) (eqA31 (d + 0) w _ _ _ _ _ _) ?_
  exact eqf_last (by rfl) (by go_simp; rfl) (by go_simp; rfl) (by go_simp)
end Go.Proofs.YtnphnhkinjppjaaGreatDoor.Q
end

section
set_option linter.unusedVariables false
set_option linter.unusedSimpArgs false
namespace Go.Proofs.YtnphnhkinjppjaaGreatDoor.Q
open Go.RowKit Go.Proofs.YtnphnhkinjppjaaGreatDoorW.PrintWords Go.Proofs.YtnphnhkinjppjaaGreatDoorW.PrintLast Go.Proofs.YtnphnhkinjppjaaGreatDoorW.PrintMore
abbrev asC (A : S36) (v : Value) : Array Value := #[.string A.f0, .bool A.f1.f0.f0, .int .u64 A.f1.f0.f1, .int .u64 A.f1.f0.f2, .int .i64 A.f1.f1, .int .i64 A.f2, .int .i64 A.f3, .int .i64 A.f4, .int .i64 A.f5, .bool A.f6, .int .i64 A.f7, v]
def clash (b a : S36) : Bool := b.f0.toList == a.f0.toList || ((b.f1.f0.f0 == a.f1.f0.f0 && (b.f1.f0.f1 == a.f1.f0.f1 && (b.f1.f0.f2 == a.f1.f0.f2))) && (b.f1.f1 == a.f1.f1))
attribute [local go_sem high] eqA33
set_option maxHeartbeats 4000000 in
set_option maxRecDepth 100000 in
theorem clash_walk (b a : S36) (Ab Aa : Option Addr) (nb cb na ca ga : Nat) (w : World) (ha : w.heap[ga]? = some (.cells (asC a (.slice Aa na ca)) 36 (0, 0))) :
    Calls Tryz.prog 32 #[.agg (asC b (.slice Ab nb cb)), .pointer (some ⟨ga, 0, none⟩)] w fun e w' => e = .returned (.bool (clash b a)) ∧ Below w.heap.size w w' := by
  have hu := Tryz.underlying36
  have hu2 := Tryz.underlying33
  have HX : Aside0 ((w.alloc (.cells (asC b (.slice Ab nb cb)) 36)).heap[w.heap.size]? = some (.cells (asC b (.slice Ab nb cb)) 36 (0, 0))) := ⟨heap_alloc_new _ _⟩
  have HY := Aside0.mk (blk_alloc ha (.cells (asC b (.slice Ab nb cb)) 36))
  have HB := Aside0.mk (below_alloc (Below.refl w.heap.size w) (.cells (asC b (.slice Ab nb cb)) 36))
  clear ha
  go_enter Tryz.func32, Tryz.ntmps32
  go_upto_region 1 with (fail)
  obtain ⟨gb, hgb⟩ : ∃ gb, w.heap.size = gb := ⟨_, rfl⟩
  rw [hgb] at HX
  simp only [hgb]
  clear hgb
  change Code.wp _ _ _ _ (w.alloc (.cells (asC b (.slice Ab nb cb)) 36))
  generalize w.alloc (.cells (asC b (.slice Ab nb cb)) 36) = W at HX HY HB ⊢
  obtain ⟨d0, d1, d2, d3, d4, d5, d6, d7, d8, d9, d10, d11⟩ := zc12 HX
  obtain ⟨x0, x1, x2, x3, x4, x5, x6, x7, x8, x9, x10, x11⟩ := zc12 HY
  cases hn : b.f0.toList == a.f0.toList with
  | true =>
    have HE : Aside0 (clash b a = true) := ⟨by unfold clash; rw [hn]; rfl⟩
    go_wp2
    go_ret
    exact ⟨by rw [HE.out]; rfl, HB.out⟩
  | false =>
    have HE : Aside0 (clash b a = ((b.f1.f0.f0 == a.f1.f0.f0 && (b.f1.f0.f1 == a.f1.f0.f1 && (b.f1.f0.f2 == a.f1.f0.f2))) && (b.f1.f1 == a.f1.f1))) := ⟨by unfold clash; rw [hn]; rfl⟩
    go_wp2
    go_ret
    exact ⟨by rw [HE.out]; rfl, HB.out⟩
def Found (l : List S36) (a : S36) (w : World) (e : Ending) (w' : World) : Prop := ∃ n : Int, e = .returned (.int .i64 n) ∧ decide (n ≥ 0) = l.any (fun b => clash b a) ∧ Below w.heap.size w w'
theorem any_take_snoc (l : List S36) (f : S36 → Bool) (i : Nat) (hi : i < l.length) : (l.take (i + 1)).any f = ((l.take i).any f || f (rd_T36 l (i : Int))) := by
  rw [List.take_succ_eq_append_getElem hi, List.any_append]
  simp only [List.any_cons, List.any_nil, Bool.or_false]
  unfold rd_T36
  rw [Int.toNat_natCast, List.getD_eq_getElem?_getD, List.getElem?_eq_getElem hi, Option.getD_some]
theorem any_of_take (l : List S36) (f : S36 → Bool) (i : Nat) (h : (l.take i).any f = true) : l.any f = true := by
  rw [← List.take_append_drop i l, List.any_append, h]; rfl
set_option maxHeartbeats 4000000 in
set_option maxRecDepth 100000 in
theorem idx_walk (l : List S36) (a : S36) (A Aa : Option Addr) (c na ca ga : Nat) (w : World) (hC : Kd.C k36 w A l.length l) (hl : l.length ≤ 1000000) (ha : w.heap[ga]? = some (.cells (asC a (.slice Aa na ca)) 36 (0, 0))) :
    Calls Tryz.prog 57 #[.slice A l.length c, .func (.func 32) #[] #[.pointer (some ⟨ga, 0, none⟩)]] w fun e w' => Found l a w e w' := by
  have hu := Tryz.underlying36
  have HC := Aside0.mk hC
  have HA := Aside0.mk ha
  have HL := Aside0.mk hl
  obtain ⟨n, hn⟩ : ∃ n, l.length = n := ⟨_, rfl⟩
  have HN := Aside0.mk hn
  rw [hn]
  clear hC ha hl hn
  go_enter Tryz.func57, Tryz.ntmps57
  go_upto_region 2 with (fail)
  go_loopg [8] n (fun gg v8 wr => ∃ i : Nat, v8 = .int .i64 (i : Int) ∧ Aside0 (gg = n - i ∧ i ≤ n ∧ (l.take i).any (fun b => clash b a) = false) ∧ Aside0 (Below w.heap.size w wr))
  case atStart => exact ⟨0, rfl, ⟨by omega, by omega, by simp⟩, ⟨Below.refl _ _⟩⟩
  case round =>
    obtain ⟨i, rfl, HI, HB⟩ := hrel
    by_cases hi : i < n
    · have b1 : decide (i < n) = true := decide_eq_true hi
      have b2 : decide ((i : Int) < (n : Int)) = true := decide_eq_true (by omega)
      obtain ⟨ad, Ab, cb, rfl, k0, k1, k2, k3, k4, k5, k6, k7, k8, k9, k10, k11, _⟩ := at_T36 HC.out (i : Int) (by omega) (by rw [HN.out]; omega)
      replace k0 := pw_cell_below HB.out k0
      replace k1 := pw_cell_below HB.out k1
      replace k2 := pw_cell_below HB.out k2
      replace k3 := pw_cell_below HB.out k3
      replace k4 := pw_cell_below HB.out k4
      replace k5 := pw_cell_below HB.out k5
      replace k6 := pw_cell_below HB.out k6
      replace k7 := pw_cell_below HB.out k7
      replace k8 := pw_cell_below HB.out k8
      replace k9 := pw_cell_below HB.out k9
      replace k10 := pw_cell_below HB.out k10
      replace k11 := pw_cell_below HB.out k11
      simp only [Int.toNat_natCast] at k0 k1 k2 k3 k4 k5 k6 k7 k8 k9 k10 k11
      have HA2 := Aside0.mk (blk_below HA.out HB.out)
      have b3 : n ≤ 1000000 := by have := HL.out; have := HN.out; omega
      have HS := Aside0.mk (any_take_snoc l (fun b => clash b a) i (by rw [HN.out]; exact hi))
      have HII := Aside0.mk hi
      obtain ⟨b, hb⟩ : ∃ b, rd_T36 l (i : Int) = b := ⟨_, rfl⟩
      rw [hb] at k0 k1 k2 k3 k4 k5 k6 k7 k8 k9 k10 k11 HS
      clear hb
      go_wp2_with fail
      refine (clash_walk b a Ab Aa b.f8.length cb na ca ga wr HA2.out).mono ?_
      rintro e w2 ⟨rfl, hb2⟩
      have HB2 := Aside0.mk (HB.out.trans (hb2.mono HB.out.size))
      clear hb2 k0 k1 k2 k3 k4 k5 k6 k7 k8 k9 k10 k11
      cases hcl : clash b a with
      | true =>
        have HE : Aside0 (l.any (fun b => clash b a) = true) := ⟨any_of_take l _ (i + 1) (by rw [HS.out, hcl]; simp)⟩
        clear hcl
        go_wp2
        go_ret
        exact ⟨(i : Int), rfl, by rw [HE.out]; exact decide_eq_true (by omega), HB2.out⟩
      | false =>
        have HE : Aside0 (gk - 1 < gk ∧ gk - 1 = n - (i + 1) ∧ i + 1 ≤ n ∧ (l.take (i + 1)).any (fun b => clash b a) = false) := ⟨by have := HI.out.1; omega, by have := HI.out.1; omega, by omega, by rw [HS.out, HI.out.2.2, hcl]; rfl⟩
        clear hcl
        go_wp2
        go_roundg (gk - 1)
        case measure => exact HE.out.1
        case rel => exact ⟨i + 1, by go_num, ⟨HE.out.2⟩, HB2⟩
    · have b1 : decide ((i : Int) < (n : Int)) = false := decide_eq_false (by omega)
      have HE : Aside0 (l.any (fun b => clash b a) = false) := ⟨by have h := HI.out.2.2; rwa [List.take_of_length_le (by have := HN.out; omega)] at h⟩
      go_wp2
      go_ret
      exact ⟨-1, rfl, by rw [HE.out]; rfl, HB.out⟩
set_option maxHeartbeats 4000000 in
set_option maxRecDepth 100000 in
theorem has_walk (l : List S36) (a : S36) (A Aa : Option Addr) (c na ca ga : Nat) (w : World) (hC : Kd.C k36 w A l.length l) (hl : l.length ≤ 1000000) (ha : w.heap[ga]? = some (.cells (asC a (.slice Aa na ca)) 36 (0, 0))) :
    Calls Tryz.prog 31 #[.slice A l.length c, .func (.func 32) #[] #[.pointer (some ⟨ga, 0, none⟩)]] w fun e w' => e = .returned (.bool (l.any fun b => clash b a)) ∧ Below w.heap.size w w' := by
  have H := Aside0.mk (idx_walk l a A Aa c na ca ga w hC hl ha)
  obtain ⟨n, hn⟩ : ∃ n, l.length = n := ⟨_, rfl⟩
  rw [hn] at H ⊢
  clear hC hl ha hn
  go_enter Tryz.func31, Tryz.ntmps31
  go_wp2_with fail
  refine H.out.mono ?_
  rintro e w2 ⟨m, rfl, h1, h2⟩
  have H1 := Aside0.mk h1
  have H2 := Aside0.mk h2
  clear h1 h2
  go_wp2
  go_ret
  exact ⟨by rw [← H1.out]; rfl, H2.out⟩
def asset_Check.l0 : Nat → List S36 → Nat → Option Int
  | 0, _, _ => none
  | k + 1, l, i =>
    if i < l.length then
      (asset_checkOne.f k (rd_T36 l (i : Int)).f0 (rd_T36 l (i : Int)).f1.f0.f0 (rd_T36 l (i : Int)).f1.f0.f1 (rd_T36 l (i : Int)).f1.f0.f2 (rd_T36 l (i : Int)).f1.f1 (rd_T36 l (i : Int)).f2 (rd_T36 l (i : Int)).f3 (rd_T36 l (i : Int)).f4 (rd_T36 l (i : Int)).f5 (rd_T36 l (i : Int)).f6 (rd_T36 l (i : Int)).f7 (rd_T36 l (i : Int)).f8).bind fun e =>
        if e = 0 then (if ((l.take i).any fun b => clash b (rd_T36 l (i : Int))) = true then some 7 else (asset_twice.f k (rd_T36 l (i : Int)).f8).bind fun t => if t = true then some 7 else asset_Check.l0 k l (i + 1)) else some e
    else some 0
def asset_Check.f (k : Nat) (l : List S36) : Option Int := if (l.length : Int) > 64 then some 3 else asset_Check.l0 k l 0
theorem asset_Check.mono_l : ∀ (k : Nat) (l : List S36) (i : Nat), LeO (asset_Check.l0 k l i) (asset_Check.l0 (k + 1) l i) := by
  intro k
  induction k with
  | zero => intro l i; exact LeO.none _
  | succ k ih =>
    intro l i
    rw [asset_Check.l0, asset_Check.l0]
    exact LeO.ite (LeO.bind (asset_checkOne.mono _ _ _ _ _ _ _ _ _ _ _ _ _) fun e => LeO.ite (LeO.ite (LeO.refl _) (LeO.bind (asset_twice.mono _ _) fun t => LeO.ite (LeO.refl _) (ih _ _))) (LeO.refl _)) (LeO.refl _)
theorem asset_Check.mono : ∀ l k, LeO (asset_Check.f k l) (asset_Check.f (k + 1) l) := fun l k => LeO.ite (LeO.refl _) (asset_Check.mono_l _ _ _)
theorem check_on {k : Nat} {l : List S36} {i : Nat} {r : Int} (h : asset_Check.l0 k l i = some r) (hi : i < l.length) {b : S36} (hb : rd_T36 l (i : Int) = b) : ∃ k' e, k = k' + 1 ∧ asset_checkOne.f k' b.f0 b.f1.f0.f0 b.f1.f0.f1 b.f1.f0.f2 b.f1.f1 b.f2 b.f3 b.f4 b.f5 b.f6 b.f7 b.f8 = some e ∧ ((¬ e = 0 ∧ e = r) ∨ (e = 0 ∧ ((((l.take i).any fun b' => clash b' b) = true ∧ r = 7) ∨ (((l.take i).any fun b' => clash b' b) = false ∧ ∃ t, asset_twice.f k' b.f8 = some t ∧ ((t = true ∧ r = 7) ∨ (t = false ∧ asset_Check.l0 k' l (i + 1) = some r)))))) := by
  cases k with
  | zero => simp [asset_Check.l0] at h
  | succ k =>
    rw [asset_Check.l0, if_pos hi, hb] at h
    obtain ⟨e, he, h⟩ := Option.bind_eq_some_iff.1 h
    refine ⟨k, e, rfl, he, ?_⟩
    split at h
    · rename_i h0
      refine .inr ⟨h0, ?_⟩
      split at h
      · rename_i h1
        exact .inl ⟨h1, (Option.some.inj h).symm⟩
      · rename_i h1
        obtain ⟨t, ht, h⟩ := Option.bind_eq_some_iff.1 h
        refine .inr ⟨by simpa using h1, t, ht, ?_⟩
        split at h
        · rename_i h2
          exact .inl ⟨h2, (Option.some.inj h).symm⟩
        · rename_i h2
          exact .inr ⟨by simpa using h2, h⟩
    · rename_i h0
      exact .inl ⟨h0, Option.some.inj h⟩
theorem check_fin {k : Nat} {l : List S36} {i : Nat} {r : Int} (h : asset_Check.l0 k l i = some r) (hi : ¬ i < l.length) : r = 0 := by
  cases k with
  | zero => simp [asset_Check.l0] at h
  | succ k => rw [asset_Check.l0, if_neg hi] at h; exact (Option.some.inj h).symm
set_option maxHeartbeats 8000000 in
set_option maxRecDepth 100000 in
theorem asset_Check.calls (k : Nat) (A : Option Addr) (c : Nat) (l : List S36) (r : Int) (w : World) (hC : Kd.C k36 w A l.length l) (hc : l.length ≤ c) (h : asset_Check.f k l = some r) :
    Calls Tryz.prog 12 #[.slice A l.length c] w fun e w' => e = .returned (.int .i64 r) ∧ Below w.heap.size w w' := by
  have hu := Tryz.underlying36
  have HC := Aside0.mk hC
  have HCC := Aside0.mk hc
  obtain ⟨n, hn⟩ : ∃ n, l.length = n := ⟨_, rfl⟩
  unfold asset_Check.f at h
  rw [hn] at h hc ⊢
  have HN := Aside0.mk hn
  by_cases h64 : (n : Int) > 64
  · rw [if_pos h64] at h
    have hr := Option.some.inj h
    subst hr
    have b1 : decide ((n : Int) > 64) = true := decide_eq_true h64
    have b2 : decide (64 < n) = true := decide_eq_true (by omega)
    clear hC h h64 hn
    go_enter Tryz.func12, Tryz.ntmps12
    go_wp2
    go_ret
    exact ⟨rfl, Below.refl _ _⟩
  · rw [if_neg h64] at h
    have HK := Aside0.mk h
    have b1 : decide ((n : Int) > 64) = false := decide_eq_false h64
    have H64 : Aside0 (n ≤ 64) := ⟨by omega⟩
    clear hC h h64 hn hc
    go_enter Tryz.func12, Tryz.ntmps12
    go_upto_region 4 with (fail)
    clear b1
    go_loopg [12] k (fun gg v12 wr => ∃ i : Nat, v12 = .int .i64 (i : Int) ∧ Aside0 (asset_Check.l0 gg l i = some r ∧ i ≤ n) ∧ Aside0 (Below w.heap.size w wr))
    case atStart => exact ⟨0, rfl, ⟨HK.out, by omega⟩, ⟨Below.refl _ _⟩⟩
    case round =>
      clear HK
      obtain ⟨i, rfl, HI, HB⟩ := hrel
      by_cases hi : i < n
      · have b2 : decide ((i : Int) < (n : Int)) = true := decide_eq_true (by omega)
        have b2' : decide (i < n) = true := decide_eq_true hi
        obtain ⟨ad, Ab, cb, rfl, k0, k1, k2, k3, k4, k5, k6, k7, k8, k9, k10, k11, kl, kc⟩ := at_T36 HC.out (i : Int) (by omega) (by rw [HN.out]; omega)
        replace k0 := pw_cell_below HB.out k0
        replace k1 := pw_cell_below HB.out k1
        replace k2 := pw_cell_below HB.out k2
        replace k3 := pw_cell_below HB.out k3
        replace k4 := pw_cell_below HB.out k4
        replace k5 := pw_cell_below HB.out k5
        replace k6 := pw_cell_below HB.out k6
        replace k7 := pw_cell_below HB.out k7
        replace k8 := pw_cell_below HB.out k8
        replace k9 := pw_cell_below HB.out k9
        replace k10 := pw_cell_below HB.out k10
        replace k11 := pw_cell_below HB.out k11
        simp only [Int.toNat_natCast] at k0 k1 k2 k3 k4 k5 k6 k7 k8 k9 k10 k11
        obtain ⟨b, hb⟩ : ∃ b, rd_T36 l (i : Int) = b := ⟨_, rfl⟩
        obtain ⟨k', e, hk', hone, hcase⟩ := check_on HI.out.1 (by rw [HN.out]; exact hi) hb
        rw [hb] at k0 k1 k2 k3 k4 k5 k6 k7 k8 k9 k10 k11 kl kc
        subst hk'
        have HKL := Aside0.mk kl
        have HKC := Aside0.mk (Kd.C_below kc HB.out)
        have HONE := Aside0.mk hone
        have HCASE := Aside0.mk hcase
        have HII := Aside0.mk hi
        have HTK : Aside0 ((l.take i).length = i) := ⟨by rw [List.length_take, HN.out]; omega⟩
        have b3 : n ≤ 1000000 := by have := H64.out; omega
        clear kl kc hone hcase hb
        go_upto_region 6 with (fail)
        obtain ⟨ga, hga⟩ : ∃ x, wr.heap.size = x := ⟨_, rfl⟩
        have HA : Aside0 ((wr.alloc (.cells (asC b (.slice Ab b.f8.length cb)) 36)).heap[wr.heap.size]? = some (.cells (asC b (.slice Ab b.f8.length cb)) 36 (0, 0))) := ⟨heap_alloc_new _ _⟩
        rw [hga] at HA
        simp only [hga]
        clear hga k0 k1 k2 k3 k4 k5 k6 k7 k8 k9 k10 k11
        replace HKC := Aside0.mk (Kd.C_below HKC.out (below_alloc (Below.refl _ _) (.cells (asC b (.slice Ab b.f8.length cb)) 36)))
        replace HB := Aside0.mk (below_alloc HB.out (.cells (asC b (.slice Ab b.f8.length cb)) 36))
        change Code.wp _ _ _ _ (wr.alloc (.cells (asC b (.slice Ab b.f8.length cb)) 36))
        generalize wr.alloc (.cells (asC b (.slice Ab b.f8.length cb)) 36) = W1 at HA HKC HB ⊢
        obtain ⟨d0, d1, d2, d3, d4, d5, d6, d7, d8, d9, d10, d11⟩ := zc12 HA
        go_wp2_with fail
        refine (asset_checkOne.calls k' b.f0 b.f1.f0.f0 b.f1.f0.f1 b.f1.f0.f2 b.f1.f1 b.f2 b.f3 b.f4 b.f5 b.f6 b.f7 Ab cb b.f8 e W1 HKC.out HKL.out HONE.out).mono ?_
        rintro r2 w2 ⟨rfl, hb2⟩
        clear d0 d1 d2 d3 d4 d5 d6 d7 d8 d9 d10 d11
        replace HKC := Aside0.mk (Kd.C_below HKC.out hb2)
        replace HA := Aside0.mk (blk_below HA.out hb2)
        replace HB := Aside0.mk (HB.out.trans (hb2.mono HB.out.size))
        clear hb2
        rcases HCASE.out with ⟨h1, h2⟩ | ⟨h1, hcs⟩
        · have b5 : (e != 0) = true := bne_iff_ne.mpr h1
          have HE := Aside0.mk h2
          clear h1 h2
          go_wp2
          go_ret
          exact ⟨by rw [← HE.out]; rfl, HB.out⟩
        · have b5 : (e != 0) = false := by rw [h1]; rfl
          have HCS := Aside0.mk hcs
          clear h1 hcs HCASE
          have hcap : n ≤ c := by have := HCC.out; have := HN.out; omega
          have hin : i ≤ n := Nat.le_of_lt HII.out
          have HTC := Aside0.mk (Kd.C_take (m := i) (Kd.C_below HC.out HB.out) (by rw [HN.out]; exact hin))
          have HHAS := Aside0.mk (has_walk (l.take i) b (some ad) Ab c b.f8.length cb ga w2 HTC.out (by rw [HTK.out]; have := H64.out; omega) HA.out)
          rw [HTK.out] at HHAS
          go_wp2_with fail
          refine HHAS.out.mono ?_
          rintro r3 w3 ⟨rfl, hb3⟩
          replace HKC := Aside0.mk (Kd.C_below HKC.out hb3)
          replace HA := Aside0.mk (blk_below HA.out hb3)
          replace HB := Aside0.mk (HB.out.trans (hb3.mono HB.out.size))
          clear hb3 hcap hin HTC HHAS
          rcases HCS.out with ⟨h1, h2⟩ | ⟨h1, t, ht, hcs⟩
          · have HE := Aside0.mk h2
            rw [h1]
            clear h1 h2 HCS
            go_wp2
            go_ret
            exact ⟨by rw [HE.out]; rfl, HB.out⟩
          · have HT := Aside0.mk ht
            have HCT := Aside0.mk hcs
            rw [h1]
            clear h1 ht hcs HCS
            obtain ⟨d0, d1, d2, d3, d4, d5, d6, d7, d8, d9, d10, d11⟩ := zc12 HA
            go_wp2_with fail
            refine (asset_twice.calls k' Ab cb b.f8 t w3 HKC.out HKL.out HT.out).mono ?_
            rintro r4 w4 ⟨rfl, hb4⟩
            replace HB := Aside0.mk (HB.out.trans (hb4.mono HB.out.size))
            clear hb4 d0 d1 d2 d3 d4 d5 d6 d7 d8 d9 d10 d11
            rcases HCT.out with ⟨h1, h2⟩ | ⟨h1, h2⟩
            · subst h1
              have HE := Aside0.mk h2
              clear h2
              go_wp2
              go_ret
              exact ⟨by rw [HE.out]; rfl, HB.out⟩
            · subst h1
              have HE : Aside0 (asset_Check.l0 k' l (i + 1) = some r ∧ i + 1 ≤ n) := ⟨h2, HII.out⟩
              clear h2
              go_wp2
              go_roundg k'
              case measure => exact Nat.lt_succ_self k'
              case rel => exact ⟨i + 1, by go_num, HE, HB⟩
      · have HE : Aside0 (r = 0) := ⟨check_fin HI.out.1 (by rw [HN.out]; exact hi)⟩
        have b2 : decide ((i : Int) < (n : Int)) = false := decide_eq_false (by omega)
        have b2' : decide (i < n) = false := decide_eq_false hi
        go_wp2
        go_ret
        exact ⟨by rw [HE.out]; rfl, HB.out⟩
end Go.Proofs.YtnphnhkinjppjaaGreatDoor.Q
end

section
set_option linter.unusedVariables false
set_option linter.unusedSimpArgs false
namespace Go.Proofs.YtnphnhkinjppjaaGreatDoor.Q
open Go.RowKit Go.Proofs.YtnphnhkinjppjaaGreatDoorW.PrintWords Go.Proofs.YtnphnhkinjppjaaGreatDoorW.PrintLast Go.Proofs.YtnphnhkinjppjaaGreatDoorW.PrintMore
abbrev as0 : Array Value := #[.string ⟨#[]⟩, .bool false, .int .u64 0, .int .u64 0, .int .i64 0, .int .i64 0, .int .i64 0, .int .i64 0, .int .i64 0, .bool false, .int .i64 0, .slice none 0 0]
theorem put12 {w : World} {g : Nat} {t : TypeId} {u0 u1 u2 u3 u4 u5 u6 u7 u8 u9 u10 u11 v0 v1 v2 v3 v4 v5 v6 v7 v8 v9 v10 v11 : Value} (h : w.heap[g]? = some (.cells #[u0, u1, u2, u3, u4, u5, u6, u7, u8, u9, u10, u11] t (0, 0))) : ((((((((((((w.setCell ⟨g, 0, none⟩ v0).setCell ⟨g, 1, none⟩ v1).setCell ⟨g, 2, none⟩ v2).setCell ⟨g, 3, none⟩ v3).setCell ⟨g, 4, none⟩ v4).setCell ⟨g, 5, none⟩ v5).setCell ⟨g, 6, none⟩ v6).setCell ⟨g, 7, none⟩ v7).setCell ⟨g, 8, none⟩ v8).setCell ⟨g, 9, none⟩ v9).setCell ⟨g, 10, none⟩ v10).setCell ⟨g, 11, none⟩ v11).heap[g]? = some (.cells #[v0, v1, v2, v3, v4, v5, v6, v7, v8, v9, v10, v11] t (0, 0)) := by
  refine blk_put (cs := #[v0, v1, v2, v3, v4, v5, v6, v7, v8, v9, v10, u11]) ?_ 11 _ rfl
  refine blk_put (cs := #[v0, v1, v2, v3, v4, v5, v6, v7, v8, v9, u10, u11]) ?_ 10 _ rfl
  refine blk_put (cs := #[v0, v1, v2, v3, v4, v5, v6, v7, v8, u9, u10, u11]) ?_ 9 _ rfl
  refine blk_put (cs := #[v0, v1, v2, v3, v4, v5, v6, v7, u8, u9, u10, u11]) ?_ 8 _ rfl
  refine blk_put (cs := #[v0, v1, v2, v3, v4, v5, v6, u7, u8, u9, u10, u11]) ?_ 7 _ rfl
  refine blk_put (cs := #[v0, v1, v2, v3, v4, v5, u6, u7, u8, u9, u10, u11]) ?_ 6 _ rfl
  refine blk_put (cs := #[v0, v1, v2, v3, v4, u5, u6, u7, u8, u9, u10, u11]) ?_ 5 _ rfl
  refine blk_put (cs := #[v0, v1, v2, v3, u4, u5, u6, u7, u8, u9, u10, u11]) ?_ 4 _ rfl
  refine blk_put (cs := #[v0, v1, v2, u3, u4, u5, u6, u7, u8, u9, u10, u11]) ?_ 3 _ rfl
  refine blk_put (cs := #[v0, v1, u2, u3, u4, u5, u6, u7, u8, u9, u10, u11]) ?_ 2 _ rfl
  refine blk_put (cs := #[v0, u1, u2, u3, u4, u5, u6, u7, u8, u9, u10, u11]) ?_ 1 _ rfl
  refine blk_put (cs := #[u0, u1, u2, u3, u4, u5, u6, u7, u8, u9, u10, u11]) ?_ 0 _ rfl
  exact h
theorem below12 {w W : World} {g : Nat} {v0 v1 v2 v3 v4 v5 v6 v7 v8 v9 v10 v11 : Value} (h : Below w.heap.size w W) (hg : w.heap.size ≤ g) : Below w.heap.size w ((((((((((((W.setCell ⟨g, 0, none⟩ v0).setCell ⟨g, 1, none⟩ v1).setCell ⟨g, 2, none⟩ v2).setCell ⟨g, 3, none⟩ v3).setCell ⟨g, 4, none⟩ v4).setCell ⟨g, 5, none⟩ v5).setCell ⟨g, 6, none⟩ v6).setCell ⟨g, 7, none⟩ v7).setCell ⟨g, 8, none⟩ v8).setCell ⟨g, 9, none⟩ v9).setCell ⟨g, 10, none⟩ v10).setCell ⟨g, 11, none⟩ v11) := by
  repeat (refine below_set ?_ hg)
  exact h
theorem putR {w : World} {g B : Nat} {cs : Array Value} {p : Value} {l : List S74} {v0 v1 v2 v3 v4 v5 v6 v7 v8 v9 v10 v11 : Value} (h : w.heap[g]? = some (.cells cs 36 (0, 0))) (hR : Kd.R k74 74 w B (fun _ => True) p l) : Kd.R k74 74 ((((((((((((w.setCell ⟨g, 0, none⟩ v0).setCell ⟨g, 1, none⟩ v1).setCell ⟨g, 2, none⟩ v2).setCell ⟨g, 3, none⟩ v3).setCell ⟨g, 4, none⟩ v4).setCell ⟨g, 5, none⟩ v5).setCell ⟨g, 6, none⟩ v6).setCell ⟨g, 7, none⟩ v7).setCell ⟨g, 8, none⟩ v8).setCell ⟨g, 9, none⟩ v9).setCell ⟨g, 10, none⟩ v10).setCell ⟨g, 11, none⟩ v11) B (fun _ => True) p l := by
  have hd : ∀ q, q ∈ 74 :: (k74).E → q ≠ 36 := by decide
  have R1 := Kd.R_set hR h hd 0 v0
  have h1 := blk_set h 0 v0
  have R2 := Kd.R_set R1 h1 hd 1 v1
  have h2 := blk_set h1 1 v1
  have R3 := Kd.R_set R2 h2 hd 2 v2
  have h3 := blk_set h2 2 v2
  have R4 := Kd.R_set R3 h3 hd 3 v3
  have h4 := blk_set h3 3 v3
  have R5 := Kd.R_set R4 h4 hd 4 v4
  have h5 := blk_set h4 4 v4
  have R6 := Kd.R_set R5 h5 hd 5 v5
  have h6 := blk_set h5 5 v5
  have R7 := Kd.R_set R6 h6 hd 6 v6
  have h7 := blk_set h6 6 v6
  have R8 := Kd.R_set R7 h7 hd 7 v7
  have h8 := blk_set h7 7 v7
  have R9 := Kd.R_set R8 h8 hd 8 v8
  have h9 := blk_set h8 8 v8
  have R10 := Kd.R_set R9 h9 hd 9 v9
  have h10 := blk_set h9 9 v9
  have R11 := Kd.R_set R10 h10 hd 10 v10
  have h11 := blk_set h10 10 v10
  have R12 := Kd.R_set R11 h11 hd 11 v11
  have h12 := blk_set h11 11 v11
  exact R12
set_option maxHeartbeats 4000000 in
set_option maxRecDepth 100000 in
theorem clone_walk' (a : S36) (Ab : Option Addr) (cb : Nat) (w : World) (hC : Kd.C k74 w Ab a.f8.length a.f8) (hl : a.f8.length < 1000000) :
    Calls Tryz.prog 52 #[.agg (asC a (.slice Ab a.f8.length cb))] w fun e w' => ∃ g, e = .returned (.agg (asC a (.slice (some ⟨g, 0, none⟩) a.f8.length a.f8.length))) ∧ Kd.R k74 74 w' w.heap.size (fun _ => True) (.slice (some ⟨g, 0, none⟩) a.f8.length a.f8.length) a.f8 ∧ Below w.heap.size w w' := by
  have hu := Tryz.underlying36
  have hu2 := Tryz.underlying33
  have HX : Aside0 ((w.alloc (.cells (asC a (.slice Ab a.f8.length cb)) 36)).heap[w.heap.size]? = some (.cells (asC a (.slice Ab a.f8.length cb)) 36 (0, 0))) := ⟨heap_alloc_new _ _⟩
  have HB := Aside0.mk (below_alloc (Below.refl w.heap.size w) (.cells (asC a (.slice Ab a.f8.length cb)) 36))
  have HC := Aside0.mk (Kd.C_below hC HB.out)
  have HG : Aside0 (asset_given.f a.f8 = some a.f8) := ⟨if_pos hl⟩
  clear hC hl
  go_enter Tryz.func52, Tryz.ntmps52
  go_upto_region 1 with (fail)
  have hsz : (w.alloc (.cells (asC a (.slice Ab a.f8.length cb)) 36)).heap.size = w.heap.size + 1 := by show (w.heap.push _).size = _; rw [Array.size_push]
  have HY : Aside0 (((w.alloc (.cells (asC a (.slice Ab a.f8.length cb)) 36)).alloc (.cells as0 36)).heap[(w.alloc (.cells (asC a (.slice Ab a.f8.length cb)) 36)).heap.size]? = some (.cells as0 36 (0, 0))) := ⟨heap_alloc_new _ _⟩
  replace HX := Aside0.mk (blk_alloc HX.out (.cells as0 36))
  replace HC := Aside0.mk (Kd.C_below HC.out (below_alloc (Below.refl _ _) (.cells as0 36)))
  replace HB := Aside0.mk (below_alloc HB.out (.cells as0 36))
  rw [hsz] at HY
  clear hsz
  have HLT : Aside0 (w.heap.size ≤ w.heap.size ∧ w.heap.size ≤ w.heap.size + 1 ∧ w.heap.size ≠ w.heap.size + 1) := ⟨by omega⟩
  change Code.wp _ _ _ _ ((w.alloc (.cells (asC a (.slice Ab a.f8.length cb)) 36)).alloc (.cells as0 36))
  generalize (w.alloc (.cells (asC a (.slice Ab a.f8.length cb)) 36)).alloc (.cells as0 36) = W1 at HX HY HC HB ⊢
  obtain ⟨B, hBB⟩ : ∃ x, w.heap.size = x := ⟨_, rfl⟩
  obtain ⟨ga, hga⟩ : ∃ x, w.heap.size = x := ⟨_, rfl⟩
  obtain ⟨gr, hgr⟩ : ∃ x, w.heap.size + 1 = x := ⟨_, rfl⟩
  rw [hgr] at HY HLT
  replace HLT : Aside0 (B ≤ ga ∧ B ≤ gr ∧ ga ≠ gr) := ⟨by rw [← hBB, ← hga]; exact HLT.out⟩
  simp only [hgr]
  simp only [hga] at HX HB ⊢
  have HGA := Aside0.mk hga
  have HBR : Aside0 (gr = w.heap.size + 1) := ⟨hgr.symm⟩
  clear hgr hga hBB
  obtain ⟨d0, d1, d2, d3, d4, d5, d6, d7, d8, d9, d10, d11⟩ := zc12 HX
  go_upto_region 3 with (first
    | ((with_reducible refine gate_ (op := Op.makeSlice 34 (.tmp 6) (.tmp 6)) rfl ?_); refine given_make (w0 := W1) (l := a.f8) rfl rfl rfl HG.out (Below.refl _ _) ?_; intro g w3 HG3; have HX3 := Aside0.mk (blk_below HX.out HG3.out.bel); obtain ⟨e0, e1, e2, e3, e4, e5, e6, e7, e8, e9, e10, e11⟩ := zc12 HX3)
    | ((with_reducible refine gate_builtin (b := .copy) (xs := #[.tmp 8, .tmp 10]) rfl ?_); refine given_copy (w0 := W1) (l := a.f8) (A0 := Ab) (c0 := cb) rfl rfl rfl rfl HG.out HG3.out HC.out ?_; intro w4 ho hb; have HO := Aside0.mk ho; have HB4 := Aside0.mk hb; clear ho hb))
  replace HX := Aside0.mk (blk_below HX.out HB4.out)
  replace HY := Aside0.mk (blk_below HY.out HB4.out)
  clear d0 d1 d2 d3 d4 d5 d6 d7 d8 d9 d10 d11 e0 e1 e2 e3 e4 e5 e6 e7 e8 e9 e10 e11 HX3
  obtain ⟨d0, d1, d2, d3, d4, d5, d6, d7, d8, d9, d10, d11⟩ := zc12 HX
  obtain ⟨f0, f1, f2, f3, f4, f5, f6, f7, f8, f9, f10, f11⟩ := zf12 HX
  go_upto_region 4 with (fail)
  have HX5 : Aside0 ((w4.setCell ⟨ga, 11, none⟩ (.slice (some ⟨g, 0, none⟩) a.f8.length a.f8.length)).heap[ga]? = some (.cells (asC a (.slice (some ⟨g, 0, none⟩) a.f8.length a.f8.length)) 36 (0, 0))) := ⟨blk_put HX.out 11 _ rfl⟩
  have HY5 : Aside0 ((w4.setCell ⟨ga, 11, none⟩ (.slice (some ⟨g, 0, none⟩) a.f8.length a.f8.length)).heap[gr]? = some (.cells as0 36 (0, 0))) := ⟨blk_far HY.out (Ne.symm HLT.out.2.2) _⟩
  have HO5 := Aside0.mk (Kd.R_set HO.out HX.out (by decide) 11 (.slice (some ⟨g, 0, none⟩) a.f8.length a.f8.length))
  have HBw : Aside0 (Below w.heap.size w W1) := ⟨by rw [HGA.out]; exact HB.out⟩
  have HG1 : Aside0 (w.heap.size ≤ ga ∧ w.heap.size ≤ gr) := ⟨by have := HGA.out; have := HLT.out; omega, by have := HBR.out; omega⟩
  have HB5 : Aside0 (Below w.heap.size w (w4.setCell ⟨ga, 11, none⟩ (.slice (some ⟨g, 0, none⟩) a.f8.length a.f8.length))) := ⟨below_set (below_then HBw.out HBw.out.size HB4.out) HG1.out.1⟩
  have HSZ := Aside0.mk HBw.out.size
  clear d0 d1 d2 d3 d4 d5 d6 d7 d8 d9 d10 d11 f0 f1 f2 f3 f4 f5 f6 f7 f8 f9 f10 f11 HX HY HO HB4
  generalize w4.setCell ⟨ga, 11, none⟩ (.slice (some ⟨g, 0, none⟩) a.f8.length a.f8.length) = w5 at HX5 HY5 HO5 HB5 ⊢
  obtain ⟨d0, d1, d2, d3, d4, d5, d6, d7, d8, d9, d10, d11⟩ := zc12 HX5
  obtain ⟨f0, f1, f2, f3, f4, f5, f6, f7, f8, f9, f10, f11⟩ := zf12 HY5
  obtain ⟨x0, x1, x2, x3, x4, x5, x6, x7, x8, x9, x10, x11⟩ := zc12 HY5
  go_wp2
  refine bodyPost_ret (results_cell_row rfl _ _ gr 36 (asC a (.slice (some ⟨g, 0, none⟩) a.f8.length a.f8.length)) (0, 0) _ rfl (put12 HY5.out) Tryz.underlying36 rfl (by kernel_rfl)) rfl ?_
  exact ⟨g, rfl, putR HY5.out (Kd.R_lower HO5.out HSZ.out), below12 HB5.out HG1.out.2⟩
end Go.Proofs.YtnphnhkinjppjaaGreatDoor.Q
end

section
set_option linter.unusedVariables false
set_option linter.unusedSimpArgs false
namespace Go.Proofs.YtnphnhkinjppjaaGreatDoor.Q
open Go.RowKit Go.Proofs.YtnphnhkinjppjaaGreatDoorW.PrintWords Go.Proofs.YtnphnhkinjppjaaGreatDoorW.PrintLast Go.Proofs.YtnphnhkinjppjaaGreatDoorW.PrintMore
def IsCur (w0 W : World) (g : Nat) (L : List (S84)) (i : Int) : Prop := ∃ A0 c0, W.heap[g]? = some (.cells #[.slice A0 L.length c0, .int .i64 i] 105 (0, 0)) ∧ w0.heap.size ≤ g ∧ Kd.C k84 w0 A0 L.length L
theorem IsCur.blk_ {w0 W W1 : World} {g : Nat} {L : List (S84)} {i : Int} (h : IsCur w0 W g L i) (hb : W1.heap[g]? = W.heap[g]?) : IsCur w0 W1 g L i := by
  obtain ⟨A0, c0, h1, h2, h3⟩ := h
  exact ⟨A0, c0, hb.trans h1, h2, h3⟩
theorem IsCur.lt {w0 W : World} {g : Nat} {L : List (S84)} {i : Int} (h : IsCur w0 W g L i) : g < W.heap.size := by
  obtain ⟨A0, c0, h1, h2, h3⟩ := h
  exact blk_lt h1
theorem IsCur.ge {w0 W : World} {g : Nat} {L : List (S84)} {i : Int} (h : IsCur w0 W g L i) : w0.heap.size ≤ g := by
  obtain ⟨A0, c0, h1, h2, h3⟩ := h
  exact h2
theorem IsCur.below {w0 W W1 : World} {g : Nat} {L : List (S84)} {i : Int} (h : IsCur w0 W g L i) (hb : Below W.heap.size W W1) : IsCur w0 W1 g L i := h.blk_ (hb.block g h.lt)
theorem IsCur.alloc {w0 W : World} {g : Nat} {L : List (S84)} {i : Int} (h : IsCur w0 W g L i) (o : Obj) : IsCur w0 (W.alloc o) g L i := h.below (below_alloc (Below.refl _ _) o)
theorem IsCur.far {w0 W : World} {g : Nat} {L : List (S84)} {i : Int} (h : IsCur w0 W g L i) {p : Addr} (hp : p.block ≠ g) (v : Value) : IsCur w0 (W.setCell p v) g L i := h.blk_ (Below.heap_setCell W p v g (Ne.symm hp))
theorem IsCur.set {w0 W : World} {g : Nat} {L : List (S84)} {i : Int} (h : IsCur w0 W g L i) (j : Int) : IsCur w0 (W.setCell ⟨g, 1, none⟩ (.int .i64 j)) g L j := by
  obtain ⟨A0, c0, h1, h2, h3⟩ := h
  exact ⟨A0, c0, by simpa using blk_set h1 1 (.int .i64 j), h2, h3⟩
def tokAt (L : List (S84)) (i : Int) : S84 := rd_T84 L i
abbrev tokV (t : S84) : Value := .agg #[.int .i64 t.f0, .string t.f1, .int .i64 t.f2]
theorem blk3 {w : World} {g : Nat} {L : List (S84)} {i : Int} {w0 : World} (hI : IsCur w0 w g L i) (hB : Below w0.heap.size w0 w) (h0 : 0 ≤ i) (h1 : i < L.length) : ∃ (ad : Addr) (c0 : Nat), ad.block ≠ g ∧ w.cell? ⟨g, 0, none⟩ = some (.slice (some ad) L.length c0) ∧ w.cell? ⟨g, 1, none⟩ = some (.int .i64 i) ∧ w.cell? (ad.add (i.toNat * 3)) = some (.int .i64 (tokAt L i).f0) ∧ w.cell? ⟨(ad.add (i.toNat * 3)).block, (ad.add (i.toNat * 3)).off + 1, none⟩ = some (.string (tokAt L i).f1) ∧ w.cell? ⟨(ad.add (i.toNat * 3)).block, (ad.add (i.toNat * 3)).off + 2, none⟩ = some (.int .i64 (tokAt L i).f2) := by
  obtain ⟨A0, c0, hb, hg, hc⟩ := hI
  obtain ⟨ad, rfl, k0, k1, k2⟩ := at_T84 hc i h0 h1
  refine ⟨ad, c0, ?_, (blk_cell hb 0).trans rfl, (blk_cell hb 1).trans rfl, pw_cell_below hB k0, pw_cell_below hB k1, pw_cell_below hB k2⟩
  have h := World.block_lt_of_cell? w0 _ k0
  rw [add_block] at h
  omega
set_option maxHeartbeats 4000000 in
set_option maxRecDepth 100000 in
theorem peek_walk (w0 w : World) (g : Nat) (L : List (S84)) (i : Int) (hI : IsCur w0 w g L i) (hB : Below w0.heap.size w0 w) (h0 : 0 ≤ i) (h1 : i < L.length) :
    Calls Tryz.prog 48 #[.pointer (some ⟨g, 0, none⟩)] w fun e w' => e = .returned (tokV (tokAt L i)) ∧ Below w.heap.size w w' := by
  have hu := Tryz.underlying84
  have hI1 := hI.alloc (.cells #[.int .i64 0, .string ⟨#[]⟩, .int .i64 0] 84)
  obtain ⟨ad, c0, hne0, hc0, hc1, k0, k1, k2⟩ := blk3 hI1 (hB.alloc hB.size _) h0 h1
  have HX : Aside0 ((w.alloc (.cells #[.int .i64 0, .string ⟨#[]⟩, .int .i64 0] 84)).heap[w.heap.size]? = some (.cells #[.int .i64 0, .string ⟨#[]⟩, .int .i64 0] 84 (0, 0))) := ⟨heap_alloc_new _ _⟩
  have HL : Aside0 (Below w.heap.size w (w.alloc (.cells #[.int .i64 0, .string ⟨#[]⟩, .int .i64 0] 84))) := ⟨below_alloc (Below.refl _ _) _⟩
  obtain ⟨n, hn⟩ : ∃ n, L.length = n := ⟨_, rfl⟩
  rw [hn] at hc0 h1
  have hlen : ((n : Int) == 0) = false := beq_eq_false_iff_ne.mpr (by omega)
  have hne : (n = 0) = False := eq_false (by omega)
  have g1 : decide (i < (n : Int)) = true := decide_eq_true h1
  have g0 : decide (0 ≤ i) = true := decide_eq_true h0
  clear hI hB hn hI1
  generalize tokAt L i = t at k0 k1 k2 ⊢
  go_enter Tryz.func48, Tryz.ntmps48
  go_upto_region 1 with (fail)
  obtain ⟨gb, hgb⟩ : ∃ gb, w.heap.size = gb := ⟨_, rfl⟩
  rw [hgb] at HX
  simp only [hgb]
  generalize w.alloc (.cells #[.int .i64 0, .string ⟨#[]⟩, .int .i64 0] 84) = W at HX HL hc0 hc1 k0 k1 k2 ⊢
  go_upto_region 3 with (fail)
  go_still_tail 10, (by kernel_rfl)
  change wpList _ _ _ _ _ W.drew
  have HX2 := Aside0.mk (blk_drew HX.out)
  have HL2 := Aside0.mk (below_drew1 HL.out)
  generalize W.drew = W2 at HX2 HL2 ⊢
  obtain ⟨d0, d1, d2⟩ := zc3 HX2
  obtain ⟨f0, f1, f2⟩ := zf3 HX2
  have hz2 := blk_lt HX2.out
  go_wp2
  have HG : Aside0 (w.heap.size ≤ gb) := ⟨Nat.le_of_eq hgb⟩
  exact bodyPost_ret (v := tokV t) (by simp [results, Tryz.results48, go_sem, d0, d1, d2, hz2]) rfl ⟨rfl, ((HL2.out.setCell HG.out _).setCell HG.out _).setCell HG.out _⟩
theorem keep_below {w W W1 : World} {g : Nat} (h : KeepBut w W g none) (hb : Below W.heap.size W W1) : KeepBut w W1 g none := h.trans (KeepBut.of_below hb g none) (.inl rfl)
theorem keep_new {w W : World} {g : Nat} {p : Addr} (h : KeepBut w W g none) (hp : w.heap.size ≤ p.block) (v : Value) : KeepBut w (W.setCell p v) g none :=
  ⟨by simpa [World.setCell] using h.1, fun k hk hg hr => (Below.heap_setCell W p v k (by omega)).trans (h.2 k hk hg hr)⟩
def nxt (L : List (S84)) (i : Int) : Int := if i < (L.length : Int) - 1 then i + 1 else i
set_option maxHeartbeats 4000000 in
set_option maxRecDepth 100000 in
theorem next_walk (w0 w : World) (g : Nat) (L : List (S84)) (i : Int) (hI : IsCur w0 w g L i) (hB : Below w0.heap.size w0 w) (h0 : 0 ≤ i) (h1 : i < L.length) (hL : L.length ≤ 1000000) :
    Calls Tryz.prog 103 #[.pointer (some ⟨g, 0, none⟩)] w fun e w' => e = .returned (tokV (tokAt L i)) ∧ IsCur w0 w' g L (nxt L i) ∧ Below w0.heap.size w0 w' ∧ KeepBut w w' g none := by
  have hu := Tryz.underlying84
  have HI := Aside0.mk (hI.alloc (.cells #[.int .i64 0, .string ⟨#[]⟩, .int .i64 0] 84))
  have HB := Aside0.mk (hB.alloc hB.size (.cells #[.int .i64 0, .string ⟨#[]⟩, .int .i64 0] 84))
  have HK := Aside0.mk (keep_alloc (KeepBut.refl w g none) (.cells #[.int .i64 0, .string ⟨#[]⟩, .int .i64 0] 84))
  have HX : Aside0 ((w.alloc (.cells #[.int .i64 0, .string ⟨#[]⟩, .int .i64 0] 84)).heap[w.heap.size]? = some (.cells #[.int .i64 0, .string ⟨#[]⟩, .int .i64 0] 84 (0, 0))) := ⟨heap_alloc_new _ _⟩
  have HW0 := Aside0.mk hB.size
  have H0 := Aside0.mk h0
  have H1 := Aside0.mk h1
  have HL := Aside0.mk hL
  clear hI hB h0 h1 hL
  go_enter Tryz.func103, Tryz.ntmps103
  go_upto_region 1 with (fail)
  obtain ⟨gb, hgb⟩ : ∃ gb, w.heap.size = gb := ⟨_, rfl⟩
  rw [hgb] at HX
  simp only [hgb]
  generalize w.alloc (.cells #[.int .i64 0, .string ⟨#[]⟩, .int .i64 0] 84) = W at HX HB HI HK ⊢
  go_wp2_with fail
  refine (peek_walk w0 W g L i HI.out HB.out H0.out H1.out).mono ?_
  rintro e w2 ⟨rfl, hb⟩
  replace HI := Aside0.mk (HI.out.below hb)
  replace HX := Aside0.mk (blk_below HX.out hb)
  replace HB := Aside0.mk (below_then HB.out HB.out.size hb)
  replace HK := Aside0.mk (keep_below HK.out hb)
  clear hb
  obtain ⟨t, ht⟩ : ∃ t, tokAt L i = t := ⟨_, rfl⟩
  rw [ht]
  have HV := Aside0.mk ht
  clear ht
  go_upto_region 2 with (fail)
  obtain ⟨gt, hgt⟩ : ∃ gt, w2.heap.size = gt := ⟨_, rfl⟩
  have HT : Aside0 ((w2.alloc (.cells #[.int .i64 t.f0, .string t.f1, .int .i64 t.f2] 84)).heap[w2.heap.size]? = some (.cells #[.int .i64 t.f0, .string t.f1, .int .i64 t.f2] 84 (0, 0))) := ⟨heap_alloc_new _ _⟩
  rw [hgt] at HT
  simp only [hgt]
  have HG : Aside0 (gt ≠ gb) := ⟨by have := blk_lt HX.out; omega⟩
  have HGg : Aside0 (gt ≠ g) := ⟨by have := HI.out.lt; omega⟩
  have HKb : Aside0 (w.heap.size ≤ gb) := ⟨Nat.le_of_eq hgb⟩
  have HGb : Aside0 (w0.heap.size ≤ gb) := ⟨by have := HW0.out; omega⟩
  have HKg : Aside0 (w.heap.size ≤ gt) := ⟨by have := HK.out.1; omega⟩
  replace HI := Aside0.mk (HI.out.alloc (.cells #[.int .i64 t.f0, .string t.f1, .int .i64 t.f2] 84))
  replace HX := Aside0.mk (blk_alloc HX.out (.cells #[.int .i64 t.f0, .string t.f1, .int .i64 t.f2] 84))
  replace HB := Aside0.mk (HB.out.alloc HB.out.size (.cells #[.int .i64 t.f0, .string t.f1, .int .i64 t.f2] 84))
  replace HK := Aside0.mk (keep_alloc HK.out (.cells #[.int .i64 t.f0, .string t.f1, .int .i64 t.f2] 84))
  clear hgt
  generalize w2.alloc (.cells #[.int .i64 t.f0, .string t.f1, .int .i64 t.f2] 84) = W3 at HI HX HB HK HT ⊢
  obtain ⟨ad, c0, hne0, hc0, hc1, _, _, _⟩ := blk3 HI.out HB.out H0.out H1.out
  obtain ⟨n, hn⟩ : ∃ n, L.length = n := ⟨_, rfl⟩
  rw [hn] at hc0
  by_cases hlt : i < (n : Int) - 1
  · have HN : Aside0 (nxt L i = i + 1) := ⟨by unfold nxt; rw [hn, if_pos hlt]⟩
    have g1 : decide (i < (n : Int) - 1) = true := decide_eq_true hlt
    have HL2 : Aside0 (i + 1 ≤ 1000000) := ⟨by have := HL.out; omega⟩
    have b1 : n ≤ 1000000 := by have := HL.out; omega
    have b2 : 1 ≤ n := by have := H0.out; omega
    clear hlt
    go_quiet (fail)
    replace HI : Aside0 (IsCur w0 (W3.drewN nq) g L i) := ⟨HI.out.blk_ rfl⟩
    replace HX : Aside0 ((W3.drewN nq).heap[gb]? = _) := ⟨HX.out⟩
    replace HT : Aside0 ((W3.drewN nq).heap[gt]? = _) := ⟨HT.out⟩
    replace HB : Aside0 (Below w0.heap.size w0 (W3.drewN nq)) := ⟨pw_below_drewN HB.out nq⟩
    replace HK : Aside0 (KeepBut w (W3.drewN nq) g none) := ⟨HK.out⟩
    replace hc1 : (W3.drewN nq).cell? ⟨g, 1, none⟩ = some (.int .i64 i) := hc1
    clear hc0
    generalize W3.drewN nq = W4 at HI HX HT HB HK hc1 ⊢
    have hfz : W4.frozen? ⟨g, 1, none⟩ = false := by obtain ⟨A1, c1, hb, _, _⟩ := HI.out; exact blk_frozen hb 1
    have h0 : 0 ≤ i := H0.out
    have h2 : i + 1 ≤ 1000000 := HL2.out
    have hg0 : (gb = g) = False := eq_false (by have := HI.out.ge; have h3 := HX.out; intro e; subst e; obtain ⟨A1, c1, hb, _, _⟩ := HI.out; rw [hb] at h3; injection h3 with h3; injection h3 with _ h3 _; exact absurd h3 (by decide))
    have hg1 : (gt = g) = False := eq_false HGg.out
    have hg2 : (gt = gb) = False := eq_false HG.out
    have hg3 : (g = gb) = False := eq_false (fun e => absurd e.symm (of_eq_false hg0))
    have hg4 : (g = gt) = False := eq_false (fun e => HGg.out e.symm)
    have hg5 : (gb = gt) = False := eq_false (fun e => HG.out e.symm)
    obtain ⟨d0, d1, d2⟩ := zc3 HX
    obtain ⟨f0, f1, f2⟩ := zf3 HX
    obtain ⟨e0, e1, e2⟩ := zc3 HT
    have hz2 := blk_lt HX.out
    go_wp2
    refine bodyPost_ret (v := tokV t) (by simp [results, Tryz.results103, go_sem, d0, d1, d2, hz2, hg0, hg3]) rfl ⟨by rw [HV.out], by rw [HN.out]; exact (((HI.out.set _).far (of_eq_false hg0) _).far (of_eq_false hg0) _).far (of_eq_false hg0) _, (((HB.out.setCell HI.out.ge _).setCell HGb.out _).setCell HGb.out _).setCell HGb.out _, keep_new (keep_new (keep_new (KeepBut.set_ HK.out 1 _) HKb.out _) HKb.out _) HKb.out _⟩
  · have HN : Aside0 (nxt L i = i) := ⟨by unfold nxt; rw [hn, if_neg hlt]⟩
    have g1 : decide (i < (n : Int) - 1) = false := decide_eq_false hlt
    have HL2 : Aside0 (i + 1 ≤ 1000000) := ⟨by have := HL.out; have := H1.out; omega⟩
    have b1 : n ≤ 1000000 := by have := HL.out; omega
    have b2 : 1 ≤ n := by have := H0.out; have := H1.out; omega
    clear hlt
    go_quiet (fail)
    replace HI : Aside0 (IsCur w0 (W3.drewN nq) g L i) := ⟨HI.out.blk_ rfl⟩
    replace HX : Aside0 ((W3.drewN nq).heap[gb]? = _) := ⟨HX.out⟩
    replace HT : Aside0 ((W3.drewN nq).heap[gt]? = _) := ⟨HT.out⟩
    replace HB : Aside0 (Below w0.heap.size w0 (W3.drewN nq)) := ⟨pw_below_drewN HB.out nq⟩
    replace HK : Aside0 (KeepBut w (W3.drewN nq) g none) := ⟨HK.out⟩
    replace hc1 : (W3.drewN nq).cell? ⟨g, 1, none⟩ = some (.int .i64 i) := hc1
    clear hc0
    generalize W3.drewN nq = W4 at HI HX HT HB HK hc1 ⊢
    have hfz : W4.frozen? ⟨g, 1, none⟩ = false := by obtain ⟨A1, c1, hb, _, _⟩ := HI.out; exact blk_frozen hb 1
    have h0 : 0 ≤ i := H0.out
    have h2 : i + 1 ≤ 1000000 := HL2.out
    have hg0 : (gb = g) = False := eq_false (by have := HI.out.ge; have h3 := HX.out; intro e; subst e; obtain ⟨A1, c1, hb, _, _⟩ := HI.out; rw [hb] at h3; injection h3 with h3; injection h3 with _ h3 _; exact absurd h3 (by decide))
    have hg1 : (gt = g) = False := eq_false HGg.out
    have hg2 : (gt = gb) = False := eq_false HG.out
    have hg3 : (g = gb) = False := eq_false (fun e => absurd e.symm (of_eq_false hg0))
    have hg4 : (g = gt) = False := eq_false (fun e => HGg.out e.symm)
    have hg5 : (gb = gt) = False := eq_false (fun e => HG.out e.symm)
    obtain ⟨d0, d1, d2⟩ := zc3 HX
    obtain ⟨f0, f1, f2⟩ := zf3 HX
    obtain ⟨e0, e1, e2⟩ := zc3 HT
    have hz2 := blk_lt HX.out
    go_wp2
    refine bodyPost_ret (v := tokV t) (by simp [results, Tryz.results103, go_sem, d0, d1, d2, hz2, hg0, hg3]) rfl ⟨by rw [HV.out], by rw [HN.out]; exact ((HI.out.far (of_eq_false hg0) _).far (of_eq_false hg0) _).far (of_eq_false hg0) _, ((HB.out.setCell HGb.out _).setCell HGb.out _).setCell HGb.out _, keep_new (keep_new (keep_new HK.out HKb.out _) HKb.out _) HKb.out _⟩
def isTok (L : List (S84)) (i k : Int) (s : ByteArray) : Bool := (tokAt L i).f0 == k && (tokAt L i).f1.toList == s.toList
def isNx (L : List (S84)) (i k : Int) (s : ByteArray) : Int := if isTok L i k s then nxt L i else i
set_option maxHeartbeats 4000000 in
set_option maxRecDepth 100000 in
theorem is_walk (w0 w : World) (g : Nat) (L : List (S84)) (i k : Int) (s : ByteArray) (hI : IsCur w0 w g L i) (hB : Below w0.heap.size w0 w) (h0 : 0 ≤ i) (h1 : i < L.length) (hL : L.length ≤ 1000000) :
    Calls Tryz.prog 107 #[.pointer (some ⟨g, 0, none⟩), .int .i64 k, .string s] w fun e w' => e = .returned (.bool (isTok L i k s)) ∧ IsCur w0 w' g L (isNx L i k s) ∧ Below w0.heap.size w0 w' ∧ KeepBut w w' g none := by
  have hu := Tryz.underlying84
  have HI := Aside0.mk hI
  have HB := Aside0.mk hB
  have HK := Aside0.mk (KeepBut.refl w g none)
  have HW0 := Aside0.mk hB.size
  have H0 := Aside0.mk h0
  have H1 := Aside0.mk h1
  have HL := Aside0.mk hL
  clear hI hB h0 h1 hL
  go_enter Tryz.func107, Tryz.ntmps107
  go_wp2_with fail
  refine (peek_walk w0 w g L i HI.out HB.out H0.out H1.out).mono ?_
  rintro e w2 ⟨rfl, hb⟩
  replace HI := Aside0.mk (HI.out.below hb)
  replace HB := Aside0.mk (below_then HB.out HB.out.size hb)
  replace HK := Aside0.mk (keep_below HK.out hb)
  clear hb
  obtain ⟨t, ht⟩ : ∃ t, tokAt L i = t := ⟨_, rfl⟩
  rw [ht]
  have HV := Aside0.mk ht
  clear ht
  go_upto_region 2 with (fail)
  obtain ⟨gt, hgt⟩ : ∃ gt, w2.heap.size = gt := ⟨_, rfl⟩
  have HT : Aside0 ((w2.alloc (.cells #[.int .i64 t.f0, .string t.f1, .int .i64 t.f2] 84)).heap[w2.heap.size]? = some (.cells #[.int .i64 t.f0, .string t.f1, .int .i64 t.f2] 84 (0, 0))) := ⟨heap_alloc_new _ _⟩
  rw [hgt] at HT
  simp only [hgt]
  replace HI := Aside0.mk (HI.out.alloc (.cells #[.int .i64 t.f0, .string t.f1, .int .i64 t.f2] 84))
  replace HB := Aside0.mk (HB.out.alloc HB.out.size (.cells #[.int .i64 t.f0, .string t.f1, .int .i64 t.f2] 84))
  replace HK := Aside0.mk (keep_alloc HK.out (.cells #[.int .i64 t.f0, .string t.f1, .int .i64 t.f2] 84))
  clear hgt
  generalize w2.alloc (.cells #[.int .i64 t.f0, .string t.f1, .int .i64 t.f2] 84) = W3 at HI HB HK HT ⊢
  obtain ⟨e0, e1, e2⟩ := zc3 HT
  by_cases hk : t.f0 = k
  · by_cases hs : t.f1.toList = s.toList
    · have HN : Aside0 (isTok L i k s = true) := ⟨by unfold isTok; rw [HV.out, hk, hs]; simp⟩
      have HM : Aside0 (isNx L i k s = nxt L i) := ⟨by unfold isNx; rw [HN.out, if_pos rfl]⟩
      have c1 : (t.f0 != k) = false := by rw [hk]; simp
      have c2 : (t.f1.toList == s.toList) = true := beq_iff_eq.mpr hs
      clear hk hs
      go_wp2_with fail
      refine (next_walk w0 W3 g L i HI.out HB.out H0.out H1.out HL.out).mono ?_
      rintro e w4 ⟨rfl, hi4, hb4, hk4⟩
      have HI4 := Aside0.mk hi4
      have HB4 := Aside0.mk hb4
      have HK4 := Aside0.mk (HK.out.trans hk4 (.inl rfl))
      clear hi4 hb4 hk4
      go_wp2
      go_ret
      exact ⟨by rw [HN.out]; rfl, by rw [HM.out]; exact HI4.out, HB4.out, HK4.out⟩
    · have HN : Aside0 (isTok L i k s = false) := ⟨by unfold isTok; rw [HV.out]; simp [hs]⟩
      have HM : Aside0 (isNx L i k s = i) := ⟨by unfold isNx; rw [HN.out]; rfl⟩
      have c1 : (t.f0 != k) = false := by rw [hk]; simp
      have c2 : (t.f1.toList == s.toList) = false := beq_eq_false_iff_ne.mpr hs
      clear hk hs
      go_wp2
      go_ret
      exact ⟨by rw [HN.out]; rfl, by rw [HM.out]; exact HI.out, HB.out, HK.out⟩
  · have HN : Aside0 (isTok L i k s = false) := ⟨by unfold isTok; rw [HV.out]; simp [hk]⟩
    have HM : Aside0 (isNx L i k s = i) := ⟨by unfold isNx; rw [HN.out]; rfl⟩
    have c1 : (t.f0 != k) = true := bne_iff_ne.mpr hk
    clear hk
    go_wp2
    go_ret
    exact ⟨by rw [HN.out]; rfl, by rw [HM.out]; exact HI.out, HB.out, HK.out⟩
set_option maxHeartbeats 4000000 in
set_option maxRecDepth 100000 in
theorem mark_walk (w0 w : World) (g : Nat) (L : List (S84)) (i : Int) (s : ByteArray) (hI : IsCur w0 w g L i) (hB : Below w0.heap.size w0 w) (h0 : 0 ≤ i) (h1 : i < L.length) (hL : L.length ≤ 1000000) :
    Calls Tryz.prog 73 #[.pointer (some ⟨g, 0, none⟩), .string s] w fun e w' => e = .returned (.bool (isTok L i 4 s)) ∧ IsCur w0 w' g L (isNx L i 4 s) ∧ Below w0.heap.size w0 w' ∧ KeepBut w w' g none := by
  have HI := Aside0.mk hI
  have HB := Aside0.mk hB
  have H0 := Aside0.mk h0
  have H1 := Aside0.mk h1
  have HL := Aside0.mk hL
  clear hI hB h0 h1 hL
  go_enter Tryz.func73, Tryz.ntmps73
  go_wp2_with fail
  refine (is_walk w0 w g L i 4 s HI.out HB.out H0.out H1.out HL.out).mono ?_
  rintro e w4 ⟨rfl, hi4, hb4, hk4⟩
  have HI4 := Aside0.mk hi4
  have HB4 := Aside0.mk hb4
  have HK4 := Aside0.mk hk4
  clear hi4 hb4 hk4
  go_wp2
  go_ret
  exact ⟨rfl, HI4.out, HB4.out, HK4.out⟩
end Go.Proofs.YtnphnhkinjppjaaGreatDoor.Q
end

section
namespace Go.Proofs.YtnphnhkinjppjaaGreatDoor.Q
open Go.RowKit Go.Proofs.YtnphnhkinjppjaaGreatDoorW.PrintWords Go.Proofs.YtnphnhkinjppjaaGreatDoorW.PrintLast Go.Proofs.YtnphnhkinjppjaaGreatDoorW.PrintMore
attribute [local go_sem] max2_int min2_int max_two min_two max_three min_three max_four min_four
set_option linter.unusedVariables false
set_option linter.unusedSimpArgs false
mutual
def lexer_Number.j0 : Nat → ByteArray → Bool → Option (Int × Bool)
  | 0, _, _ => none
  | k + 1, x0, x21 => if x21 = true then (some (0, false)) else (lexer_Number.l0 k x0 0 (x0.size : Int) 0)
def lexer_Number.l0 : Nat → ByteArray → Int → Int → Int → Option (Int × Bool)
  | 0, _, _, _, _ => none
  | k + 1, x0, x4, x23, x24 => if x24 < x23 then (if 0 ≤ x24 then (if x24 < (x0.size : Int) then ((lexer_class.f k (bt x0 x24)).bind fun t257 => (if t257 = 3 then (lexer_Number.l0 k x0 (wrap64 ((wrap64 (x4 * 10)) + (((bt x0 x24) - 48) % 256))) x23 (wrap64 (x24 + 1))) else (some (0, false)))) else (none)) else (none)) else (if x4 ≥ 1099511627776 then (some (0, false)) else (some (x4, true)))
end
def lexer_Number.f (k : Nat) (a0 : ByteArray) : Option (Int × Bool) := if a0.toList = ([] : List UInt8) then (lexer_Number.j0 k a0 true) else (if (a0.size : Int) > 13 then (lexer_Number.j0 k a0 true) else (if 0 < (a0.size : Int) then (if (bt a0 0) = 48 then (lexer_Number.j0 k a0 (a0.toList != ([48] : List UInt8))) else (lexer_Number.j0 k a0 false)) else (none)))
theorem lexer_Number.mono_l : ∀ k, (∀ y0 y1, LeO (lexer_Number.j0 k y0 y1) (lexer_Number.j0 (k + 1) y0 y1)) ∧ (∀ y0 y1 y2 y3, LeO (lexer_Number.l0 k y0 y1 y2 y3) (lexer_Number.l0 (k + 1) y0 y1 y2 y3))
  | 0 => ⟨fun _ _ r h => by simp [lexer_Number.j0] at h, fun _ _ _ _ r h => by simp [lexer_Number.l0] at h⟩
  | k + 1 => by
    obtain ⟨ih0, ih1⟩ := lexer_Number.mono_l k
    refine ⟨?_, ?_⟩
    · intro y0 y1
      unfold lexer_Number.j0
      repeat' first
      | (with_reducible exact ih0 _ _)
      | (with_reducible exact ih1 _ _ _ _)
      | (with_reducible exact lexer_class.mono _ _)
      | (with_reducible exact LeO.refl _)
      | (with_reducible exact LeO.none _)
      | (with_reducible refine LeO.ite ?_ ?_)
      | (with_reducible refine LeO.bind ?_ (fun _ => ?_))
      | exact ih0 _ _
      | exact ih1 _ _ _ _
      | exact lexer_class.mono _ _
      | exact LeO.none _
      | refine LeO.ite ?_ ?_
      | refine LeO.bind ?_ (fun _ => ?_)
    · intro y0 y1 y2 y3
      unfold lexer_Number.l0
      repeat' first
      | (with_reducible exact ih0 _ _)
      | (with_reducible exact ih1 _ _ _ _)
      | (with_reducible exact lexer_class.mono _ _)
      | (with_reducible exact LeO.refl _)
      | (with_reducible exact LeO.none _)
      | (with_reducible refine LeO.ite ?_ ?_)
      | (with_reducible refine LeO.bind ?_ (fun _ => ?_))
      | exact ih0 _ _
      | exact ih1 _ _ _ _
      | exact lexer_class.mono _ _
      | exact LeO.none _
      | refine LeO.ite ?_ ?_
      | refine LeO.bind ?_ (fun _ => ?_)
theorem lexer_Number.mono : ∀ a0 k, LeO (lexer_Number.f k a0) (lexer_Number.f (k + 1) a0) := by
  intro a0 k
  obtain ⟨ih0, ih1⟩ := lexer_Number.mono_l k
  unfold lexer_Number.f
  repeat' first
      | (with_reducible exact ih0 _ _)
      | (with_reducible exact ih1 _ _ _ _)
      | (with_reducible exact lexer_class.mono _ _)
      | (with_reducible exact LeO.refl _)
      | (with_reducible exact LeO.none _)
      | (with_reducible refine LeO.ite ?_ ?_)
      | (with_reducible refine LeO.bind ?_ (fun _ => ?_))
      | exact ih0 _ _
      | exact ih1 _ _ _ _
      | exact lexer_class.mono _ _
      | exact LeO.none _
      | refine LeO.ite ?_ ?_
      | refine LeO.bind ?_ (fun _ => ?_)
set_option maxHeartbeats 8000000 in
set_option maxRecDepth 100000 in
theorem lexer_Number.calls (k : Nat) (a0 : ByteArray) (r1 : Int) (r2 : Bool) (w : World) (h : lexer_Number.f k a0 = some (r1, r2)) :
 Calls Tryz.prog 108 #[.string a0] w fun e w' => e = .returned (.tuple #[.int .i64 r1, .bool r2]) ∧ Drawn0 w w' := by
 unfold lexer_Number.f at h; have H := h
 clear h
 have HC2 := Aside0.mk H
 clear H
 go_enter Tryz.func108, Tryz.ntmps108
 go_upto_region 1 with (fail)
 go_cut [21] (fun v21 wc => ∃ (kq : Nat) (x21_1 : Bool), v21 = .bool x21_1 ∧ Aside0 (lexer_Number.j0 kq a0 x21_1 = some (r1, r2)) ∧ Aside0 (kq ≤ k) ∧ Drawn0 w wc)
 case first =>
  have H := HC2.out
  clear HC2
  by_cases c3 : a0.toList = ([] : List UInt8)
  · rw [if_pos c3] at H
    have c3b0 : (a0.toList == ([] : List UInt8)) = true := beq_iff_eq.mpr c3
    have c3b1 : (a0.toList != ([] : List UInt8)) = false := bne_eq_false_iff_eq.mpr c3
    clear c3
    (first | rw [c3b0] | (simp only [i64_w, i32_w]; rw [c3b0]) | skip)
    have H' := Aside0.mk H
    clear H
    go_wp2
    go_meet
    case rel => exact ⟨_, (true), (by first | rfl | (simp; done) | (simp [*]; done)), H', ⟨by first | omega | exact Nat.le_refl _⟩, by repeat (first | exact Drawn0.refl _ | apply Drawn0.step)⟩
  · rw [if_neg c3] at H
    have c3b0 : (a0.toList == ([] : List UInt8)) = false := beq_eq_false_iff_ne.mpr c3
    have c3b1 : (a0.toList != ([] : List UInt8)) = true := bne_iff_ne.mpr c3
    (first | rw [c3b0] | (simp only [i64_w, i32_w]; rw [c3b0]) | skip)
    by_cases c4 : (a0.size : Int) > 13
    · rw [if_pos c4] at H
      have c4b0 : decide (13 < (a0.size : Int)) = true := decide_eq_true c4
      have c4b1 : decide (13 < a0.size) = true := decide_eq_true (by omega)
      clear c4
      have H' := Aside0.mk H
      clear H
      go_wp2
      go_meet
      case rel => exact ⟨_, (true), (by first | rfl | (simp; done) | (simp [*]; done)), H', ⟨by first | omega | exact Nat.le_refl _⟩, by repeat (first | exact Drawn0.refl _ | apply Drawn0.step)⟩
    · rw [if_neg c4] at H
      have c4b0 : decide (13 < (a0.size : Int)) = false := decide_eq_false c4
      have c4b1 : decide (13 < a0.size) = false := decide_eq_false (by omega)
      clear c4
      by_cases c5 : 0 < (a0.size : Int)
      · rw [if_pos c5] at H
        have c5b0 : decide (0 < (a0.size : Int)) = true := decide_eq_true c5
        have c5b1 : decide (0 < a0.size) = true := decide_eq_true (by omega)
        clear c5
        by_cases c7 : (bt a0 0) = 48
        · rw [if_pos c7] at H
          have c7b0 : ((bt a0 0) == 48) = true := beq_iff_eq.mpr c7
          have c7b1 : ((bt a0 0) != 48) = false := bne_eq_false_iff_eq.mpr c7
          clear c7
          have H' := Aside0.mk H
          clear H
          have p6 : 0 ≤ (0 : Int) := (by omega)
          have q6 : 0 < a0.size := (by have : (0 : Int) < (a0.size : Int) := za; omega)
          have hx6 : ∀ h : 0 < a0.size, ((a0[0]'h).toNat : Int) = bt a0 0 := bt_at a0 0
          clear p6
          have qi6 : (0 < (a0.size : Int)) = True := eq_true (of_decide_eq_true (by first | (with_reducible assumption) | assumption))
          replace q6 := eq_true q6
          go_wp2
          go_meet
          case rel => exact ⟨_, ((a0.toList != ([48] : List UInt8))), (by first | rfl | (simp; done) | (simp [*]; done)), H', ⟨by first | omega | exact Nat.le_refl _⟩, by repeat (first | exact Drawn0.refl _ | apply Drawn0.step)⟩
        · rw [if_neg c7] at H
          have c7b0 : ((bt a0 0) == 48) = false := beq_eq_false_iff_ne.mpr c7
          have c7b1 : ((bt a0 0) != 48) = true := bne_iff_ne.mpr c7
          have H' := Aside0.mk H
          clear H
          have p6 : 0 ≤ (0 : Int) := (by omega)
          have q6 : 0 < a0.size := (by have : (0 : Int) < (a0.size : Int) := za; omega)
          have hx6 : ∀ h : 0 < a0.size, ((a0[0]'h).toNat : Int) = bt a0 0 := bt_at a0 0
          clear p6
          have qi6 : (0 < (a0.size : Int)) = True := eq_true (of_decide_eq_true (by first | (with_reducible assumption) | assumption))
          replace q6 := eq_true q6
          go_wp2
          go_meet
          case rel => exact ⟨_, (false), (by first | rfl | (simp; done) | (simp [*]; done)), H', ⟨by first | omega | exact Nat.le_refl _⟩, by repeat (first | exact Drawn0.refl _ | apply Drawn0.step)⟩
      · rw [if_neg c5] at H
        exact absurd H (by simp)
 case rest =>
  clear HC2
  try clear c1
  try clear p2
  try clear c3
  try clear c3b0
  try clear c3b1
  try clear c4
  try clear c4b0
  try clear c4b1
  try clear c5
  try clear c5b0
  try clear c5b1
  try clear p6
  try clear q6
  try clear hx6
  try clear qi6
  try clear c7
  try clear c7b0
  try clear c7b1
  try clear p6
  try clear q6
  obtain ⟨kq, x21_1, rfl, HA, HJ1, ⟨mc1, rfl⟩⟩ := hcut
  cases kq with
  | zero => exact absurd HA.out (by simp [lexer_Number.j0])
  | succ kj1 =>
   have H := HA.out
   clear HA
   simp only [lexer_Number.j0] at H
   by_cases c8 : x21_1 = true
   · subst c8
     rw [if_pos rfl] at H
     simp only [Option.some.injEq, Prod.mk.injEq] at H
     obtain ⟨rfl, rfl⟩ := H
     go_wp2
     go_ret2
     exact ⟨by first | rfl | (simp; done) | (simp [*]; done), by repeat (first | exact Drawn0.refl _ | apply Drawn0.step)⟩
   · replace c8 := Bool.eq_false_iff.mpr c8
     subst c8
     rw [if_neg zF] at H
     have H' := Aside0.mk H
     clear H
     go_wp2
     go_loopg [4, 24] kj1 (fun kq v4 v24 w' => ∃ (x4_2 : Int) (x24_2 : Int), v4 = .int .i64 x4_2 ∧ v24 = .int .i64 x24_2 ∧ Aside0 (lexer_Number.l0 kq a0 x4_2 (a0.size : Int) x24_2 = some (r1, r2)) ∧ Aside0 (kq ≤ kj1) ∧ Drawn0 w w')
     case atStart => exact ⟨(0), (0), (by first | rfl | (simp; done) | (simp [*]; done)), (by first | rfl | (simp; done) | (simp [*]; done)), H', ⟨Nat.le_refl _⟩, by repeat (first | exact Drawn0.refl _ | apply Drawn0.step)⟩
     case round =>
      clear H'
      try clear c1
      try clear p2
      try clear c3
      try clear c3b0
      try clear c3b1
      try clear c4
      try clear c4b0
      try clear c4b1
      try clear c5
      try clear c5b0
      try clear c5b1
      try clear p6
      try clear q6
      try clear hx6
      try clear qi6
      try clear c7
      try clear c7b0
      try clear c7b1
      try clear c8
      try clear p2
      try clear p6
      try clear q6
      obtain ⟨x4_2, x24_2, rfl, rfl, HA, HK2, ⟨m2, rfl⟩⟩ := hrel
      cases gk with
      | zero => exact absurd HA.out (by simp [lexer_Number.l0])
      | succ k2 =>
       have H := HA.out
       clear HA
       simp only [lexer_Number.l0] at H
       by_cases c9 : x24_2 < (a0.size : Int)
       · rw [if_pos c9] at H
         have c9b0 : decide (x24_2 < (a0.size : Int)) = true := decide_eq_true c9
         clear c9
         by_cases c10 : 0 ≤ x24_2
         · rw [if_pos c10] at H
           have c10b0 : decide (0 ≤ x24_2) = true := decide_eq_true c10
           clear c10
           by_cases c11 : x24_2 < (a0.size : Int)
           · rw [if_pos c11] at H
             have c11b0 : decide (x24_2 < (a0.size : Int)) = true := decide_eq_true c11
             clear c11
             replace H := Option.bind_eq_some_iff.mp H
             obtain ⟨t257, A130, H⟩ := H
             replace H : (if t257 = 3 then (lexer_Number.l0 k2 a0 (wrap64 ((wrap64 (x4_2 * 10)) + (((bt a0 x24_2) - 48) % 256))) (a0.size : Int) (wrap64 (x24_2 + 1))) else (some (0, false))) = some (r1, r2) := H
             have A13 := Aside0.mk A130
             clear A130
             by_cases c14 : t257 = 3
             · rw [if_pos c14] at H
               have c14b0 : (t257 == 3) = true := beq_iff_eq.mpr c14
               have c14b1 : (t257 != 3) = false := bne_eq_false_iff_eq.mpr c14
               clear c14
               have H' := Aside0.mk H
               clear H
               have p12 : 0 ≤ (x24_2 : Int) := za
               have q12 : x24_2 < (a0.size : Int) := za
               have hx12 := bt_at a0 x24_2
               replace p12 := eq_true p12
               replace q12 := eq_true q12
               go_wp2_with (first | ((with_reducible refine gate_callee (f := 88) rfl ?_); refine goesL_ (some 30) rfl rfl Tryz.func88 (by kernel_rfl) rfl #[.int .u8 (bt a0 x24_2)] rfl (by (try simp only [List.map_toArray, List.map_cons, List.map_nil]); first | done | rfl | (simp only [List.length_drop, List.length_take]; rfl)) ?_; (with_reducible refine (lexer_class.calls k2 (bt a0 x24_2) t257 _ A13.out).mono ?_); rintro e w' ⟨rfl, ⟨nd, rfl⟩⟩; refine ⟨_, rfl, ?_⟩; have p15 : 0 ≤ (x24_2 : Int) := za; have q15 : x24_2 < (a0.size : Int) := za; have hx15 := bt_at a0 x24_2; replace p15 := eq_true p15; replace q15 := eq_true q15))
               go_roundg k2
               case measure => have := HJ1.out; have := HK2.out; omega
               case rel => exact ⟨(wrap64 ((wrap64 (x4_2 * 10)) + (((bt a0 x24_2) - 48) % 256))), (wrap64 (x24_2 + 1)), (by first | rfl | (simp; done) | (simp [*]; done)), (by first | rfl | (simp; done) | (simp [*]; done)), H', ⟨by have := HJ1.out; have := HK2.out; omega⟩, by repeat (first | exact Drawn0.refl _ | apply Drawn0.step)⟩
             · rw [if_neg c14] at H
               have c14b0 : (t257 == 3) = false := beq_eq_false_iff_ne.mpr c14
               have c14b1 : (t257 != 3) = true := bne_iff_ne.mpr c14
               simp only [Option.some.injEq, Prod.mk.injEq] at H
               obtain ⟨rfl, rfl⟩ := H
               have p12 : 0 ≤ (x24_2 : Int) := za
               have q12 : x24_2 < (a0.size : Int) := za
               have hx12 := bt_at a0 x24_2
               replace p12 := eq_true p12
               replace q12 := eq_true q12
               go_wp2_with (first | ((with_reducible refine gate_callee (f := 88) rfl ?_); refine goesL_ (some 30) rfl rfl Tryz.func88 (by kernel_rfl) rfl #[.int .u8 (bt a0 x24_2)] rfl (by (try simp only [List.map_toArray, List.map_cons, List.map_nil]); first | done | rfl | (simp only [List.length_drop, List.length_take]; rfl)) ?_; (with_reducible refine (lexer_class.calls k2 (bt a0 x24_2) t257 _ A13.out).mono ?_); rintro e w' ⟨rfl, ⟨nd, rfl⟩⟩; refine ⟨_, rfl, ?_⟩))
               go_ret2
               exact ⟨by first | rfl | (simp; done) | (simp [*]; done), by repeat (first | exact Drawn0.refl _ | apply Drawn0.step)⟩
           · rw [if_neg c11] at H
             exact absurd H (by simp)
         · rw [if_neg c10] at H
           exact absurd H (by simp)
       · rw [if_neg c9] at H
         have c9b0 : decide (x24_2 < (a0.size : Int)) = false := decide_eq_false c9
         clear c9
         by_cases c16 : x4_2 ≥ 1099511627776
         · rw [if_pos c16] at H
           have c16b0 : decide (1099511627776 ≤ x4_2) = true := decide_eq_true c16
           clear c16
           simp only [Option.some.injEq, Prod.mk.injEq] at H
           obtain ⟨rfl, rfl⟩ := H
           go_wp2
           go_ret2
           exact ⟨by first | rfl | (simp; done) | (simp [*]; done), by repeat (first | exact Drawn0.refl _ | apply Drawn0.step)⟩
         · rw [if_neg c16] at H
           have c16b0 : decide (1099511627776 ≤ x4_2) = false := decide_eq_false c16
           clear c16
           simp only [Option.some.injEq, Prod.mk.injEq] at H
           obtain ⟨rfl, rfl⟩ := H
           go_wp2
           go_ret2
           exact ⟨by first | rfl | (simp; done) | (simp [*]; done), by repeat (first | exact Drawn0.refl _ | apply Drawn0.step)⟩
end Go.Proofs.YtnphnhkinjppjaaGreatDoor.Q
end

section
namespace Go.Proofs.YtnphnhkinjppjaaGreatDoor.Q
open Go.RowKit Go.Proofs.YtnphnhkinjppjaaGreatDoorW.PrintWords Go.Proofs.YtnphnhkinjppjaaGreatDoorW.PrintLast Go.Proofs.YtnphnhkinjppjaaGreatDoorW.PrintMore
attribute [local go_sem] max2_int min2_int max_two min_two max_three min_three max_four min_four
set_option linter.unusedVariables false
set_option linter.unusedSimpArgs false
def slices_Index_string.l0 : Nat → List ByteArray → ByteArray → Int → Int → Option (Int)
  | 0, _, _, _, _ => none
  | k + 1, x0, x1, x7, x8 => if x8 < x7 then (if 0 ≤ x8 then (if x8 < (x0.length : Int) then (if x1.toList = (rdOf ByteArray.empty x0 x8).toList then (some x8) else (slices_Index_string.l0 k x0 x1 x7 (wrap64 (x8 + 1)))) else (none)) else (none)) else (some (-1))
def slices_Index_string.f (k : Nat) (l0 : List ByteArray) (a1 : ByteArray) : Option (Int) := slices_Index_string.l0 k l0 a1 (l0.length : Int) 0
theorem slices_Index_string.mono_l : ∀ k, (∀ y0 y1 y2 y3, LeO (slices_Index_string.l0 k y0 y1 y2 y3) (slices_Index_string.l0 (k + 1) y0 y1 y2 y3))
  | 0 => fun _ _ _ _ r h => by simp [slices_Index_string.l0] at h
  | k + 1 => by
    have ih0 := slices_Index_string.mono_l k
    · intro y0 y1 y2 y3
      unfold slices_Index_string.l0
      repeat' first
      | (with_reducible exact ih0 _ _ _ _)
      | (with_reducible exact LeO.refl _)
      | (with_reducible exact LeO.none _)
      | (with_reducible refine LeO.ite ?_ ?_)
      | (with_reducible refine LeO.bind ?_ (fun _ => ?_))
      | exact ih0 _ _ _ _
      | exact LeO.none _
      | refine LeO.ite ?_ ?_
      | refine LeO.bind ?_ (fun _ => ?_)
theorem slices_Index_string.mono : ∀ a0 a1 k, LeO (slices_Index_string.f k a0 a1) (slices_Index_string.f (k + 1) a0 a1) := by
  intro a0 a1 k
  have ih0 := slices_Index_string.mono_l k
  unfold slices_Index_string.f
  repeat' first
      | (with_reducible exact ih0 _ _ _ _)
      | (with_reducible exact LeO.refl _)
      | (with_reducible exact LeO.none _)
      | (with_reducible refine LeO.ite ?_ ?_)
      | (with_reducible refine LeO.bind ?_ (fun _ => ?_))
      | exact ih0 _ _ _ _
      | exact LeO.none _
      | refine LeO.ite ?_ ?_
      | refine LeO.bind ?_ (fun _ => ?_)
set_option maxHeartbeats 8000000 in
set_option maxRecDepth 100000 in
theorem slices_Index_string.calls (k : Nat) (A0 : Option Addr) (c0 : Nat) (l0 : List ByteArray) (a1 : ByteArray) (r : Int) (w : World) (hr0 : Kd.C Kd.string w A0 l0.length l0) (hc0 : l0.length ≤ c0) (h : slices_Index_string.f k l0 a1 = some r) :
 Calls Tryz.prog 74 #[.slice A0 l0.length c0, .string a1] w fun e w' => e = .returned (.int .i64 r) ∧ Drawn0 w w' := by
 have HR0 := Aside0.mk hr0
 have HC0 := Aside0.mk hc0
 clear hr0 hc0
 unfold slices_Index_string.f at h; have H := h
 clear h
 have H' := Aside0.mk H
 clear H
 go_enter Tryz.func74, Tryz.ntmps74
 go_wp2
 go_loopg [8] k (fun kq v8 w' => ∃ (x8_1 : Int), v8 = .int .i64 x8_1 ∧ Aside0 (slices_Index_string.l0 kq l0 a1 (l0.length : Int) x8_1 = some r) ∧ Aside0 (kq ≤ k) ∧ Drawn0 w w')
 case atStart => exact ⟨(0), (by first | rfl | (simp; done) | (simp [*]; done)), H', ⟨Nat.le_refl _⟩, by repeat (first | exact Drawn0.refl _ | apply Drawn0.step)⟩
 case round =>
  clear H'
  try clear p2
  obtain ⟨x8_1, rfl, HA, HK1, ⟨m1, rfl⟩⟩ := hrel
  cases gk with
  | zero => exact absurd HA.out (by simp [slices_Index_string.l0])
  | succ k1 =>
   have H := HA.out
   clear HA
   simp only [slices_Index_string.l0] at H
   by_cases c3 : x8_1 < (l0.length : Int)
   · rw [if_pos c3] at H
     have c3b0 : decide (x8_1 < (l0.length : Int)) = true := decide_eq_true c3
     clear c3
     by_cases c4 : 0 ≤ x8_1
     · rw [if_pos c4] at H
       have c4b0 : decide (0 ≤ x8_1) = true := decide_eq_true c4
       clear c4
       by_cases c5 : x8_1 < (l0.length : Int)
       · rw [if_pos c5] at H
         have c5b0 : decide (x8_1 < (l0.length : Int)) = true := decide_eq_true c5
         clear c5
         by_cases c6 : a1.toList = (rdOf ByteArray.empty l0 x8_1).toList
         · rw [if_pos c6] at H
           have c6b0 : (a1.toList == (rdOf ByteArray.empty l0 x8_1).toList) = true := beq_iff_eq.mpr c6
           have c6b1 : (a1.toList != (rdOf ByteArray.empty l0 x8_1).toList) = false := bne_eq_false_iff_eq.mpr c6
           clear c6
           obtain rfl := Option.some.inj H
           have p256 : 0 ≤ (x8_1 : Int) := za
           have q256 : x8_1 < (l0.length : Int) := za
           obtain ⟨ad256, e256, hx256_0⟩ := Kd.at_string HR0.out x8_1 p256 q256
           cases e256
           replace p256 := eq_true p256
           replace q256 := eq_true q256
           go_wp2
           go_ret
           exact ⟨by first | rfl | (simp; done) | (simp [*]; done), by repeat (first | exact Drawn0.refl _ | apply Drawn0.step)⟩
         · rw [if_neg c6] at H
           have c6b0 : (a1.toList == (rdOf ByteArray.empty l0 x8_1).toList) = false := beq_eq_false_iff_ne.mpr c6
           have c6b1 : (a1.toList != (rdOf ByteArray.empty l0 x8_1).toList) = true := bne_iff_ne.mpr c6
           have H' := Aside0.mk H
           clear H
           have p256 : 0 ≤ (x8_1 : Int) := za
           have q256 : x8_1 < (l0.length : Int) := za
           obtain ⟨ad256, e256, hx256_0⟩ := Kd.at_string HR0.out x8_1 p256 q256
           cases e256
           replace p256 := eq_true p256
           replace q256 := eq_true q256
           go_wp2
           go_roundg k1
           case measure => have := HK1.out; omega
           case rel => exact ⟨(wrap64 (x8_1 + 1)), (by first | rfl | (simp; done) | (simp [*]; done)), H', ⟨by have := HK1.out; omega⟩, by repeat (first | exact Drawn0.refl _ | apply Drawn0.step)⟩
       · rw [if_neg c5] at H
         exact absurd H (by simp)
     · rw [if_neg c4] at H
       exact absurd H (by simp)
   · rw [if_neg c3] at H
     have c3b0 : decide (x8_1 < (l0.length : Int)) = false := decide_eq_false c3
     clear c3
     obtain rfl := Option.some.inj H
     go_wp2
     go_ret
     exact ⟨by first | rfl | (simp; done) | (simp [*]; done), by repeat (first | exact Drawn0.refl _ | apply Drawn0.step)⟩
end Go.Proofs.YtnphnhkinjppjaaGreatDoor.Q
end

section
set_option linter.unusedVariables false
set_option linter.unusedSimpArgs false
namespace Go.Proofs.YtnphnhkinjppjaaGreatDoor.Q
open Go.RowKit Go.Proofs.YtnphnhkinjppjaaGreatDoorW.PrintWords Go.Proofs.YtnphnhkinjppjaaGreatDoorW.PrintLast Go.Proofs.YtnphnhkinjppjaaGreatDoorW.PrintMore
structure IsPar (w0 W : World) (p c : Nat) (L : List (S84)) (i e a : Int) : Prop where
  blk : W.heap[p]? = some (.cells #[.pointer (some ⟨c, 0, none⟩), .int .i64 e, .int .i64 a] 82 (0, 0))
  ge : w0.heap.size ≤ p
  cur : IsCur w0 W c L i
section
variable {w0 W W1 : World} {p c : Nat} {L : List (S84)} {i e a : Int}
theorem IsPar.ne (h : IsPar w0 W p c L i e a) : p ≠ c := by
  obtain ⟨A0, c0, h1, h2, h3⟩ := h.cur
  rintro rfl
  have := h.blk
  rw [h1] at this
  injection this with this
  injection this with _ ht _
  exact absurd ht (by decide)
theorem IsPar.lt (h : IsPar w0 W p c L i e a) : p < W.heap.size := blk_lt h.blk
theorem IsPar.below (h : IsPar w0 W p c L i e a) (hb : Below W.heap.size W W1) : IsPar w0 W1 p c L i e a := ⟨blk_below h.blk hb, h.ge, h.cur.below hb⟩
theorem IsPar.drew (h : IsPar w0 W p c L i e a) : IsPar w0 W.drew p c L i e a := ⟨h.blk, h.ge, h.cur.blk_ rfl⟩
theorem IsPar.alloc (h : IsPar w0 W p c L i e a) (o : Obj) : IsPar w0 (W.alloc o) p c L i e a := h.below (below_alloc (Below.refl _ _) o)
theorem IsPar.keep (h : IsPar w0 W p c L i e a) (hk : KeepBut W W1 c none) {j : Int} (hc : IsCur w0 W1 c L j) : IsPar w0 W1 p c L j e a := ⟨hk.blk h.blk h.ne (by simp), h.ge, hc⟩
theorem IsPar.far (h : IsPar w0 W p c L i e a) {q : Addr} (h1 : q.block ≠ p) (h2 : q.block ≠ c) (v : Value) : IsPar w0 (W.setCell q v) p c L i e a := ⟨(Below.heap_setCell W q v p (Ne.symm h1)).trans h.blk, h.ge, h.cur.far h2 v⟩
theorem IsPar.set (h : IsPar w0 W p c L i e a) (x y : Int) : IsPar w0 ((W.setCell ⟨p, 1, none⟩ (.int .i64 x)).setCell ⟨p, 2, none⟩ (.int .i64 y)) p c L i x y :=
  ⟨by simpa using blk_set (blk_set h.blk 1 (.int .i64 x)) 2 (.int .i64 y), h.ge, (h.cur.far h.ne _).far h.ne _⟩
theorem IsPar.cells (h : IsPar w0 W p c L i e a) : W.cell? ⟨p, 0, none⟩ = some (.pointer (some ⟨c, 0, none⟩)) ∧ W.cell? ⟨p, 1, none⟩ = some (.int .i64 e) ∧ W.cell? ⟨p, 2, none⟩ = some (.int .i64 a) := ⟨(blk_cell h.blk 0).trans rfl, (blk_cell h.blk 1).trans rfl, (blk_cell h.blk 2).trans rfl⟩
end
abbrev KeepPC (w W : World) (p c : Nat) : Prop := Kept w W (fun k => k = p ∨ k = c)
def failE (e ec : Int) : Int := if e = 0 then ec else e
def failA (e a x : Int) : Int := if e = 0 then x else a
set_option maxHeartbeats 4000000 in
set_option maxRecDepth 100000 in
theorem fail_walk (w0 w : World) (p c : Nat) (L : List (S84)) (i e a ec : Int) (t : S84) (hI : IsPar w0 w p c L i e a) (hB : Below w0.heap.size w0 w) :
    Calls Tryz.prog 71 #[.pointer (some ⟨p, 0, none⟩), .int .i64 ec, tokV t] w fun r w' => r = .returned (.tuple #[]) ∧ IsPar w0 w' p c L i (failE e ec) (failA e a t.f2) ∧ Below w0.heap.size w0 w' ∧ KeepPC w w' p c := by
  have hu := Tryz.underlying84
  have HI := Aside0.mk (hI.alloc (.cells #[.int .i64 t.f0, .string t.f1, .int .i64 t.f2] 84))
  have HB := Aside0.mk (hB.alloc hB.size (.cells #[.int .i64 t.f0, .string t.f1, .int .i64 t.f2] 84))
  have HK := Aside0.mk ((Kept.refl w (fun k => k = p ∨ k = c)).alloc (.cells #[.int .i64 t.f0, .string t.f1, .int .i64 t.f2] 84))
  have HX : Aside0 ((w.alloc (.cells #[.int .i64 t.f0, .string t.f1, .int .i64 t.f2] 84)).heap[w.heap.size]? = some (.cells #[.int .i64 t.f0, .string t.f1, .int .i64 t.f2] 84 (0, 0))) := ⟨heap_alloc_new _ _⟩
  have HN : Aside0 (p ≠ w.heap.size) := ⟨Nat.ne_of_lt hI.lt⟩
  clear hI hB
  go_enter Tryz.func71, Tryz.ntmps71
  go_upto_region 1 with (fail)
  obtain ⟨gb, hgb⟩ : ∃ gb, w.heap.size = gb := ⟨_, rfl⟩
  rw [hgb] at HX HN
  simp only [hgb]
  generalize w.alloc (.cells #[.int .i64 t.f0, .string t.f1, .int .i64 t.f2] 84) = W at HX HB HI HK ⊢
  obtain ⟨c0, c1, c2⟩ := HI.out.cells
  obtain ⟨f0, f1, f2⟩ := zf3 ⟨HI.out.blk⟩
  obtain ⟨d0, d1, d2⟩ := zc3 HX
  have hg0 : (gb = p) = False := eq_false (fun h => HN.out h.symm)
  have hg1 : (p = gb) = False := eq_false HN.out
  by_cases he : e = 0
  · have b1 : (e == 0) = true := beq_iff_eq.mpr he
    have HE : Aside0 (failE e ec = ec ∧ failA e a t.f2 = t.f2) := ⟨if_pos he, if_pos he⟩
    clear he
    go_wp2
    go_region
    go_end0
    refine ⟨rfl, by rw [HE.out.1, HE.out.2]; exact (HI.out.set _ _).drew, below_drew ((HB.out.setCell (p := ⟨p, 1, none⟩) HI.out.ge _).setCell (p := ⟨p, 2, none⟩) HI.out.ge _), ((HK.out.setCell (p := ⟨p, 1, none⟩) (.inl (.inl rfl)) _).setCell (p := ⟨p, 2, none⟩) (.inl (.inl rfl)) _).drew⟩
  · have b1 : (e == 0) = false := beq_eq_false_iff_ne.mpr he
    have HE : Aside0 (failE e ec = e ∧ failA e a t.f2 = a) := ⟨if_neg he, if_neg he⟩
    clear he
    go_wp2
    go_end0
    exact ⟨rfl, by rw [HE.out.1, HE.out.2]; exact HI.out, HB.out, HK.out⟩
def pword (L : List (S84)) (i e a : Int) : S84 × Int × Int × Int :=
  if e = 0 then (if (tokAt L i).f0 = 1 then (tokAt L i, nxt L i, e, a) else (z84, i, 14, (tokAt L i).f2)) else (z84, i, e, a)
structure PosIn (L : List (S84)) (i : Int) : Prop where
  ge : 0 ≤ i
  lt : i < L.length
  le : L.length ≤ 1000000
theorem PosIn.nxt {L : List (S84)} {i : Int} (h : PosIn L i) : PosIn L (nxt L i) := by
  obtain ⟨h0, h1, h2⟩ := h
  unfold Q.nxt
  split
  · exact ⟨by omega, by omega, h2⟩
  · exact ⟨h0, h1, h2⟩
theorem PosIn.word {L : List (S84)} {i e a : Int} (h : PosIn L i) : PosIn L (pword L i e a).2.1 := by
  unfold pword
  split
  · split
    · exact h.nxt
    · exact h
  · exact h
set_option maxHeartbeats 4000000 in
set_option maxRecDepth 100000 in
theorem word_walk (w0 w : World) (p c : Nat) (L : List (S84)) (i e a : Int) (hI : IsPar w0 w p c L i e a) (hB : Below w0.heap.size w0 w) (hP : PosIn L i) :
    Calls Tryz.prog 70 #[.pointer (some ⟨p, 0, none⟩)] w fun r w' => r = .returned (tokV (pword L i e a).1) ∧ IsPar w0 w' p c L (pword L i e a).2.1 (pword L i e a).2.2.1 (pword L i e a).2.2.2 ∧ Below w0.heap.size w0 w' ∧ KeepPC w w' p c := by
  have hu := Tryz.underlying84
  have HI := Aside0.mk (hI.alloc (.cells #[.int .i64 0, .string ⟨#[]⟩, .int .i64 0] 84))
  have HB := Aside0.mk (hB.alloc hB.size (.cells #[.int .i64 0, .string ⟨#[]⟩, .int .i64 0] 84))
  have HK := Aside0.mk ((Kept.refl w (fun k => k = p ∨ k = c)).alloc (.cells #[.int .i64 0, .string ⟨#[]⟩, .int .i64 0] 84))
  have HX : Aside0 ((w.alloc (.cells #[.int .i64 0, .string ⟨#[]⟩, .int .i64 0] 84)).heap[w.heap.size]? = some (.cells #[.int .i64 0, .string ⟨#[]⟩, .int .i64 0] 84 (0, 0))) := ⟨heap_alloc_new _ _⟩
  have HP := Aside0.mk hP
  have HN : Aside0 (p ≠ w.heap.size ∧ c ≠ w.heap.size ∧ w0.heap.size ≤ w.heap.size) := ⟨Nat.ne_of_lt hI.lt, Nat.ne_of_lt hI.cur.lt, hB.size⟩
  clear hI hB hP
  go_enter Tryz.func70, Tryz.ntmps70
  go_upto_region 1 with (fail)
  obtain ⟨gb, hgb⟩ : ∃ gb, w.heap.size = gb := ⟨_, rfl⟩
  rw [hgb] at HX HN
  have HS : Aside0 (w.heap.size ≤ gb) := ⟨Nat.le_of_eq hgb⟩
  simp only [hgb]
  clear hgb
  generalize w.alloc (.cells #[.int .i64 0, .string ⟨#[]⟩, .int .i64 0] 84) = W at HX HB HI HK ⊢
  obtain ⟨c0, c1, c2⟩ := HI.out.cells
  go_wp2_with fail
  refine (peek_walk w0 W c L i HI.out.cur HB.out HP.out.ge HP.out.lt).mono ?_
  rintro r w2 ⟨rfl, hb⟩
  replace HI := Aside0.mk (HI.out.below hb)
  replace HX := Aside0.mk (blk_below HX.out hb)
  replace HB := Aside0.mk (below_then HB.out HB.out.size hb)
  replace HK := Aside0.mk (HK.out.below hb)
  clear hb c0 c1 c2
  obtain ⟨t, ht⟩ : ∃ t, tokAt L i = t := ⟨_, rfl⟩
  rw [ht]
  have HV := Aside0.mk ht
  clear ht
  go_upto_region 2 with (fail)
  obtain ⟨gt, hgt⟩ : ∃ gt, w2.heap.size = gt := ⟨_, rfl⟩
  have HT : Aside0 ((w2.alloc (.cells #[.int .i64 t.f0, .string t.f1, .int .i64 t.f2] 84)).heap[w2.heap.size]? = some (.cells #[.int .i64 t.f0, .string t.f1, .int .i64 t.f2] 84 (0, 0))) := ⟨heap_alloc_new _ _⟩
  rw [hgt] at HT
  simp only [hgt]
  have HG : Aside0 (gt ≠ gb ∧ gt ≠ p ∧ gt ≠ c) := ⟨by have := blk_lt HX.out; omega, by have := HI.out.lt; omega, by have := HI.out.cur.lt; omega⟩
  replace HI := Aside0.mk (HI.out.alloc (.cells #[.int .i64 t.f0, .string t.f1, .int .i64 t.f2] 84))
  replace HX := Aside0.mk (blk_alloc HX.out (.cells #[.int .i64 t.f0, .string t.f1, .int .i64 t.f2] 84))
  replace HB := Aside0.mk (HB.out.alloc HB.out.size (.cells #[.int .i64 t.f0, .string t.f1, .int .i64 t.f2] 84))
  replace HK := Aside0.mk (HK.out.alloc (.cells #[.int .i64 t.f0, .string t.f1, .int .i64 t.f2] 84))
  clear hgt
  generalize w2.alloc (.cells #[.int .i64 t.f0, .string t.f1, .int .i64 t.f2] 84) = W3 at HI HX HB HK HT ⊢
  obtain ⟨c0, c1, c2⟩ := HI.out.cells
  obtain ⟨d0, d1, d2⟩ := zc3 HX
  obtain ⟨f0, f1, f2⟩ := zf3 HX
  obtain ⟨e0, e1, e2⟩ := zc3 HT
  have hz2 := blk_lt HX.out
  by_cases he : e = 0
  · have b1 : (e != 0) = false := by rw [he]; rfl
    by_cases hk : t.f0 = 1
    · have b2 : (t.f0 != 1) = false := by rw [hk]; rfl
      have HE : Aside0 (pword L i e a = (t, nxt L i, e, a)) := ⟨by unfold pword; rw [HV.out, if_pos he, if_pos hk]⟩
      clear he hk
      go_wp2_with fail
      refine (next_walk w0 W3 c L i HI.out.cur HB.out HP.out.ge HP.out.lt HP.out.le).mono ?_
      rintro r w4 ⟨rfl, hi, hb, hk⟩
      rw [HV.out]
      clear c0 c1 c2 d0 d1 d2 f0 f1 f2 e0 e1 e2 hz2
      have HI4 := Aside0.mk (HI.out.keep hk hi)
      have HX4 := Aside0.mk (hk.blk HX.out (Ne.symm HN.out.2.1) (by simp))
      have HB4 := Aside0.mk hb
      have HK4 := Aside0.mk (HK.out.of_keep hk (.inl (.inr rfl)))
      clear hi hb hk
      obtain ⟨d0, d1, d2⟩ := zc3 HX4
      obtain ⟨f0, f1, f2⟩ := zf3 HX4
      have hz2 := blk_lt HX4.out
      go_wp2
      refine bodyPost_ret (v := tokV t) (by simp [results, Tryz.results70, go_sem, d0, d1, d2, hz2]) rfl ⟨by rw [HE.out], ?_, ?_, ?_⟩
      · rw [HE.out]
        exact ((HI4.out.far (Ne.symm HN.out.1) (Ne.symm HN.out.2.1) _).far (Ne.symm HN.out.1) (Ne.symm HN.out.2.1) _).far (Ne.symm HN.out.1) (Ne.symm HN.out.2.1) _
      · exact ((HB4.out.setCell HN.out.2.2 _).setCell HN.out.2.2 _).setCell HN.out.2.2 _
      · exact ((HK4.out.setCell (.inr HS.out) _).setCell (.inr HS.out) _).setCell (.inr HS.out) _
    · have b2 : (t.f0 != 1) = true := bne_iff_ne.mpr hk
      have HE : Aside0 (pword L i e a = (z84, i, 14, t.f2)) := ⟨by unfold pword; rw [HV.out, if_pos he, if_neg hk]⟩
      have HE0 := Aside0.mk he
      clear he hk
      go_wp2_with fail
      refine (fail_walk w0 W3 p c L i e a 14 t HI.out HB.out).mono ?_
      rintro r w4 ⟨rfl, hi, hb, hk⟩
      rw [show failE e 14 = 14 from if_pos HE0.out, show failA e a t.f2 = t.f2 from if_pos HE0.out] at hi
      clear c0 c1 c2 d0 d1 d2 f0 f1 f2 e0 e1 e2 hz2
      have HI4 := Aside0.mk hi
      have HX4 := Aside0.mk (blk_kept HX.out hk (by rintro (h | h); exact HN.out.1 h.symm; exact HN.out.2.1 h.symm))
      have HB4 := Aside0.mk hb
      have HK4 := Aside0.mk (HK.out.then_ hk (fun _ h => .inl h))
      clear hi hb hk
      obtain ⟨d0, d1, d2⟩ := zc3 HX4
      obtain ⟨f0, f1, f2⟩ := zf3 HX4
      have hz2 := blk_lt HX4.out
      go_wp2
      refine bodyPost_ret (v := tokV z84) (by simp [results, Tryz.results70, go_sem, d0, d1, d2, hz2, z84]) rfl ⟨by rw [HE.out], ?_, ?_, ?_⟩
      · rw [HE.out]
        exact ((HI4.out.far (Ne.symm HN.out.1) (Ne.symm HN.out.2.1) _).far (Ne.symm HN.out.1) (Ne.symm HN.out.2.1) _).far (Ne.symm HN.out.1) (Ne.symm HN.out.2.1) _
      · exact ((HB4.out.setCell HN.out.2.2 _).setCell HN.out.2.2 _).setCell HN.out.2.2 _
      · exact ((HK4.out.setCell (.inr HS.out) _).setCell (.inr HS.out) _).setCell (.inr HS.out) _
  · have b1 : (e != 0) = true := bne_iff_ne.mpr he
    have HE : Aside0 (pword L i e a = (z84, i, e, a)) := ⟨by unfold pword; rw [if_neg he]⟩
    clear he
    go_wp2
    refine bodyPost_ret (v := tokV z84) (by simp [results, Tryz.results70, go_sem, d0, d1, d2, hz2, z84]) rfl ⟨by rw [HE.out], ?_, ?_, ?_⟩
    · rw [HE.out]
      exact ((HI.out.far (Ne.symm HN.out.1) (Ne.symm HN.out.2.1) _).far (Ne.symm HN.out.1) (Ne.symm HN.out.2.1) _).far (Ne.symm HN.out.1) (Ne.symm HN.out.2.1) _
    · exact ((HB.out.setCell HN.out.2.2 _).setCell HN.out.2.2 _).setCell HN.out.2.2 _
    · exact ((HK.out.setCell (.inr HS.out) _).setCell (.inr HS.out) _).setCell (.inr HS.out) _
def asset_parser_number.f (k : Nat) (L : List (S84)) (i e a : Int) : Option (Int × Int × Int × Int) :=
  (lexer_Number.f k (pword L i e a).1.f1).bind fun r => if r.2 = true then some (r.1, (pword L i e a).2.1, (pword L i e a).2.2.1, (pword L i e a).2.2.2) else some (r.1, (pword L i e a).2.1, failE (pword L i e a).2.2.1 4, failA (pword L i e a).2.2.1 (pword L i e a).2.2.2 (pword L i e a).1.f2)
set_option maxHeartbeats 4000000 in
set_option maxRecDepth 100000 in
theorem number_walk' (k : Nat) (w0 w : World) (p c : Nat) (L : List (S84)) (i e a n i' e' a' : Int) (hI : IsPar w0 w p c L i e a) (hB : Below w0.heap.size w0 w) (hP : PosIn L i) (h : asset_parser_number.f k L i e a = some (n, i', e', a')) :
    Calls Tryz.prog 76 #[.pointer (some ⟨p, 0, none⟩)] w fun r w' => r = .returned (.int .i64 n) ∧ IsPar w0 w' p c L i' e' a' ∧ Below w0.heap.size w0 w' ∧ KeepPC w w' p c := by
  have hu := Tryz.underlying84
  unfold asset_parser_number.f at h
  obtain ⟨⟨n1, ok⟩, h1, h2⟩ := Option.bind_eq_some_iff.1 h
  have H1 := Aside0.mk h1
  have H2 := Aside0.mk h2
  have HI := Aside0.mk hI
  have HB := Aside0.mk hB
  have HP := Aside0.mk hP
  clear hI hB hP h h1 h2
  go_enter Tryz.func76, Tryz.ntmps76
  go_wp2_with fail
  refine (word_walk w0 w p c L i e a HI.out HB.out HP.out).mono ?_
  rintro r w2 ⟨rfl, hi, hb, hk⟩
  replace HI := Aside0.mk hi
  replace HB := Aside0.mk hb
  have HK := Aside0.mk hk
  clear hi hb hk
  obtain ⟨⟨t, i2, e2, a2⟩, hq⟩ : ∃ q, pword L i e a = q := ⟨_, rfl⟩
  rw [hq] at HI H1 H2 ⊢
  have HQ := Aside0.mk hq
  clear hq
  go_upto_region 2 with (fail)
  obtain ⟨gt, hgt⟩ : ∃ gt, w2.heap.size = gt := ⟨_, rfl⟩
  have HT : Aside0 ((w2.alloc (.cells #[.int .i64 t.f0, .string t.f1, .int .i64 t.f2] 84)).heap[w2.heap.size]? = some (.cells #[.int .i64 t.f0, .string t.f1, .int .i64 t.f2] 84 (0, 0))) := ⟨heap_alloc_new _ _⟩
  rw [hgt] at HT
  simp only [hgt]
  have HN : Aside0 (p ≠ gt ∧ c ≠ gt) := ⟨by have := HI.out.lt; omega, by have := HI.out.cur.lt; omega⟩
  replace HI := Aside0.mk (HI.out.alloc (.cells #[.int .i64 t.f0, .string t.f1, .int .i64 t.f2] 84))
  replace HB := Aside0.mk (HB.out.alloc HB.out.size (.cells #[.int .i64 t.f0, .string t.f1, .int .i64 t.f2] 84))
  replace HK := Aside0.mk (HK.out.alloc (.cells #[.int .i64 t.f0, .string t.f1, .int .i64 t.f2] 84))
  clear hgt
  generalize w2.alloc (.cells #[.int .i64 t.f0, .string t.f1, .int .i64 t.f2] 84) = W3 at HI HB HK HT ⊢
  obtain ⟨d0, d1, d2⟩ := zc3 HT
  go_wp2_with fail
  refine (lexer_Number.calls k t.f1 n1 ok W3 H1.out).mono ?_
  rintro r w4 ⟨rfl, hb⟩
  clear d0 d1 d2
  replace hb : Below W3.heap.size W3 w4 := by first | exact hb | exact hb.below
  replace HI := Aside0.mk (HI.out.below hb)
  replace HT := Aside0.mk (blk_below HT.out hb)
  replace HB := Aside0.mk (below_then HB.out HB.out.size hb)
  replace HK := Aside0.mk (HK.out.below hb)
  clear hb
  obtain ⟨d0, d1, d2⟩ := zc3 HT
  cases ok with
  | true =>
    have HR := Aside0.mk (Option.some.inj H2.out)
    go_wp2
    go_ret
    have h := HR.out
    simp only [if_true, Prod.mk.injEq] at h
    obtain ⟨rfl, rfl, rfl, rfl⟩ := h
    exact ⟨rfl, HI.out, HB.out, HK.out⟩
  | false =>
    have HR := Aside0.mk (Option.some.inj H2.out)
    go_wp2_with fail
    refine (fail_walk w0 w4 p c L i2 e2 a2 4 t HI.out HB.out).mono ?_
    rintro r w5 ⟨rfl, hi, hb, hk⟩
    clear d0 d1 d2
    have HI5 := Aside0.mk hi
    have HB5 := Aside0.mk hb
    have HK5 := Aside0.mk (HK.out.then_ hk (fun _ h => .inl h))
    clear hi hb hk
    go_wp2
    go_ret
    have h := HR.out
    simp only [Bool.false_eq_true, if_false, Prod.mk.injEq] at h
    obtain ⟨rfl, rfl, rfl, rfl⟩ := h
    exact ⟨rfl, HI5.out, HB5.out, HK5.out⟩
def asset_parser_choice.f (k : Nat) (L : List (S84)) (i e a : Int) (l : List ByteArray) : Option (Int × Int × Int × Int) :=
  (slices_Index_string.f k l (pword L i e a).1.f1).bind fun n => if n < 0 then some (n, (pword L i e a).2.1, failE (pword L i e a).2.2.1 15, failA (pword L i e a).2.2.1 (pword L i e a).2.2.2 (pword L i e a).1.f2) else some (n, (pword L i e a).2.1, (pword L i e a).2.2.1, (pword L i e a).2.2.2)
set_option maxHeartbeats 4000000 in
set_option maxRecDepth 100000 in
theorem choice_walk (k : Nat) (w0 w : World) (p c : Nat) (L : List (S84)) (i e a n i' e' a' : Int) (A : Option Addr) (c0 : Nat) (l : List ByteArray) (hI : IsPar w0 w p c L i e a) (hB : Below w0.heap.size w0 w) (hP : PosIn L i)
    (hl : ∀ W', KeepPC w W' p c → Kd.C Kd.string W' A l.length l) (hc : l.length ≤ c0) (h : asset_parser_choice.f k L i e a l = some (n, i', e', a')) :
    Calls Tryz.prog 75 #[.pointer (some ⟨p, 0, none⟩), .slice A l.length c0] w fun r w' => r = .returned (.int .i64 n) ∧ IsPar w0 w' p c L i' e' a' ∧ Below w0.heap.size w0 w' ∧ KeepPC w w' p c := by
  have hu := Tryz.underlying84
  unfold asset_parser_choice.f at h
  obtain ⟨n1, h1, h2⟩ := Option.bind_eq_some_iff.1 h
  have H1 := Aside0.mk h1
  have H2 := Aside0.mk h2
  have HI := Aside0.mk hI
  have HB := Aside0.mk hB
  have HP := Aside0.mk hP
  have HL := Aside0.mk hl
  have HC := Aside0.mk hc
  clear hI hB hP h h1 h2 hl hc
  go_enter Tryz.func75, Tryz.ntmps75
  go_wp2_with fail
  refine (word_walk w0 w p c L i e a HI.out HB.out HP.out).mono ?_
  rintro r w2 ⟨rfl, hi, hb, hk⟩
  replace HI := Aside0.mk hi
  replace HB := Aside0.mk hb
  have HK := Aside0.mk hk
  clear hi hb hk
  obtain ⟨⟨t, i2, e2, a2⟩, hq⟩ : ∃ q, pword L i e a = q := ⟨_, rfl⟩
  rw [hq] at HI H1 H2 ⊢
  clear hq
  go_upto_region 2 with (fail)
  obtain ⟨gt, hgt⟩ : ∃ gt, w2.heap.size = gt := ⟨_, rfl⟩
  have HT : Aside0 ((w2.alloc (.cells #[.int .i64 t.f0, .string t.f1, .int .i64 t.f2] 84)).heap[w2.heap.size]? = some (.cells #[.int .i64 t.f0, .string t.f1, .int .i64 t.f2] 84 (0, 0))) := ⟨heap_alloc_new _ _⟩
  rw [hgt] at HT
  simp only [hgt]
  replace HI := Aside0.mk (HI.out.alloc (.cells #[.int .i64 t.f0, .string t.f1, .int .i64 t.f2] 84))
  replace HB := Aside0.mk (HB.out.alloc HB.out.size (.cells #[.int .i64 t.f0, .string t.f1, .int .i64 t.f2] 84))
  replace HK := Aside0.mk (HK.out.alloc (.cells #[.int .i64 t.f0, .string t.f1, .int .i64 t.f2] 84))
  clear hgt
  generalize w2.alloc (.cells #[.int .i64 t.f0, .string t.f1, .int .i64 t.f2] 84) = W3 at HI HB HK HT ⊢
  obtain ⟨d0, d1, d2⟩ := zc3 HT
  go_wp2_with fail
  refine (slices_Index_string.calls k A c0 l t.f1 n1 W3 (HL.out _ HK.out) HC.out H1.out).mono ?_
  rintro r w4 ⟨rfl, hb⟩
  clear d0 d1 d2
  replace hb : Below W3.heap.size W3 w4 := by first | exact hb | exact hb.below
  replace HI := Aside0.mk (HI.out.below hb)
  replace HT := Aside0.mk (blk_below HT.out hb)
  replace HB := Aside0.mk (below_then HB.out HB.out.size hb)
  replace HK := Aside0.mk (HK.out.below hb)
  clear hb
  obtain ⟨d0, d1, d2⟩ := zc3 HT
  by_cases hn : n1 < 0
  · have HR := Aside0.mk (Option.some.inj ((if_pos hn).symm.trans H2.out))
    have b1 : decide (n1 < 0) = true := decide_eq_true hn
    clear hn
    go_wp2_with fail
    refine (fail_walk w0 w4 p c L i2 e2 a2 15 t HI.out HB.out).mono ?_
    rintro r w5 ⟨rfl, hi, hb, hk⟩
    clear d0 d1 d2
    have HI5 := Aside0.mk hi
    have HB5 := Aside0.mk hb
    have HK5 := Aside0.mk (HK.out.then_ hk (fun _ h => .inl h))
    clear hi hb hk
    go_wp2
    go_ret
    have h := HR.out
    simp only [Prod.mk.injEq] at h
    obtain ⟨rfl, rfl, rfl, rfl⟩ := h
    exact ⟨rfl, HI5.out, HB5.out, HK5.out⟩
  · have HR := Aside0.mk (Option.some.inj ((if_neg hn).symm.trans H2.out))
    have b1 : decide (n1 < 0) = false := decide_eq_false hn
    clear hn
    go_wp2
    go_ret
    have h := HR.out
    simp only [Prod.mk.injEq] at h
    obtain ⟨rfl, rfl, rfl, rfl⟩ := h
    exact ⟨rfl, HI.out, HB.out, HK.out⟩
end Go.Proofs.YtnphnhkinjppjaaGreatDoor.Q
end

section
namespace Go.Proofs.YtnphnhkinjppjaaGreatDoor.Q
open Go.RowKit Go.Proofs.YtnphnhkinjppjaaGreatDoorW.PrintWords Go.Proofs.YtnphnhkinjppjaaGreatDoorW.PrintLast Go.Proofs.YtnphnhkinjppjaaGreatDoorW.PrintMore
attribute [local go_sem] max2_int min2_int max_two min_two max_three min_three max_four min_four
set_option linter.unusedVariables false
set_option linter.unusedSimpArgs false
def asset_Default.f  : Option (ByteArray × Bool × Int × Int × Int × Int × Int × Int × Int × Bool × Int × (List (S74))) := some ((⟨#[100, 101, 102, 97, 117, 108, 116]⟩ : ByteArray), false, 0, 0, 0, 1, 1, 0, 8192, false, 1, ([] : List (S74)))
set_option maxHeartbeats 8000000 in
set_option maxRecDepth 100000 in
theorem asset_Default.calls  (r1 : ByteArray) (r2 : Bool) (r3 : Int) (r4 : Int) (r5 : Int) (r6 : Int) (r7 : Int) (r8 : Int) (r9 : Int) (r10 : Bool) (r11 : Int) (r12 : List (S74)) (w : World) (h : asset_Default.f  = some (r1, r2, r3, r4, r5, r6, r7, r8, r9, r10, r11, r12)) :
 Calls Tryz.prog 17 #[] w fun e w' => ∃ v11_ : Value, e = .returned (.agg #[.string r1, .bool r2, .int .u64 r3, .int .u64 r4, .int .i64 r5, .int .i64 r6, .int .i64 r7, .int .i64 r8, .int .i64 r9, .bool r10, .int .i64 r11, v11_]) ∧ Kd.R k74 74 w' w.heap.size (fun _ => True) v11_ r12 ∧ Below w.heap.size w w' := by
 have hu36 := Tryz.underlying36
 have HB := Aside0.mk (Below.refl w.heap.size w)
 unfold asset_Default.f at h; have H := h
 clear h
 simp only [Option.some.injEq, Prod.mk.injEq] at H
 obtain ⟨rfl, rfl, rfl, rfl, rfl, rfl, rfl, rfl, rfl, rfl, rfl, rfl⟩ := H
 go_enter Tryz.func17, Tryz.ntmps17
 go_wp2_with (first | ((with_reducible refine gate_dst (N := 0) rfl ?_); refine zx 0 #[.string (⟨#[]⟩ : ByteArray), .bool false, .int .u64 0, .int .u64 0, .int .i64 0, .int .i64 0, .int .i64 0, .int .i64 0, .int .i64 0, .bool false, .int .i64 0, .slice none 0 0] 36 ?_; intro gb190 hg w1 hbox hb; have BK190 := Aside0.mk (hbox); have GW190 := Aside0.mk ((by rw [hg]; exact (below_size (zB HB)) : w.heap.size ≤ gb190)); have GE190 := Aside0.mk ((by rw [hg]; exact (below_size (zB HB)) : w.heap.size ≤ gb190)); replace HB := Aside0.mk (below_step (zB HB) hb); clear hb hbox hg; obtain ⟨hcz2_0, hcz2_1, hcz2_2, hcz2_3, hcz2_4, hcz2_5, hcz2_6, hcz2_7, hcz2_8, hcz2_9, hcz2_10, hcz2_11⟩ := zc12 BK190; obtain ⟨hfz2_0, hfz2_1, hfz2_2, hfz2_3, hfz2_4, hfz2_5, hfz2_6, hfz2_7, hfz2_8, hfz2_9, hfz2_10, hfz2_11⟩ := zf12 BK190))
 refine bodyPost_ret (results_cell_row rfl _ _ gb190 36 #[.string (⟨#[100, 101, 102, 97, 117, 108, 116]⟩ : ByteArray), .bool false, .int .u64 0, .int .u64 0, .int .i64 0, .int .i64 1, .int .i64 1, .int .i64 0, .int .i64 8192, .bool false, .int .i64 1, .slice none 0 0] (0, 0) _ rfl (by refine zL ?_; refine blk_put (cs := #[.string (⟨#[100, 101, 102, 97, 117, 108, 116]⟩ : ByteArray), .bool false, .int .u64 0, .int .u64 0, .int .i64 0, .int .i64 1, .int .i64 1, .int .i64 0, .int .i64 8192, .bool false, .int .i64 1, .slice none 0 0]) ?_ 11 _ rfl; refine zL ?_; refine blk_put (cs := #[.string (⟨#[100, 101, 102, 97, 117, 108, 116]⟩ : ByteArray), .bool false, .int .u64 0, .int .u64 0, .int .i64 0, .int .i64 1, .int .i64 1, .int .i64 0, .int .i64 8192, .bool false, .int .i64 0, .slice none 0 0]) ?_ 10 _ rfl; refine zL ?_; refine blk_put (cs := #[.string (⟨#[100, 101, 102, 97, 117, 108, 116]⟩ : ByteArray), .bool false, .int .u64 0, .int .u64 0, .int .i64 0, .int .i64 1, .int .i64 1, .int .i64 0, .int .i64 8192, .bool false, .int .i64 0, .slice none 0 0]) ?_ 9 _ rfl; refine zL ?_; refine blk_put (cs := #[.string (⟨#[100, 101, 102, 97, 117, 108, 116]⟩ : ByteArray), .bool false, .int .u64 0, .int .u64 0, .int .i64 0, .int .i64 1, .int .i64 1, .int .i64 0, .int .i64 0, .bool false, .int .i64 0, .slice none 0 0]) ?_ 8 _ rfl; refine zL ?_; refine blk_put (cs := #[.string (⟨#[100, 101, 102, 97, 117, 108, 116]⟩ : ByteArray), .bool false, .int .u64 0, .int .u64 0, .int .i64 0, .int .i64 1, .int .i64 1, .int .i64 0, .int .i64 0, .bool false, .int .i64 0, .slice none 0 0]) ?_ 7 _ rfl; refine zL ?_; refine blk_put (cs := #[.string (⟨#[100, 101, 102, 97, 117, 108, 116]⟩ : ByteArray), .bool false, .int .u64 0, .int .u64 0, .int .i64 0, .int .i64 1, .int .i64 0, .int .i64 0, .int .i64 0, .bool false, .int .i64 0, .slice none 0 0]) ?_ 6 _ rfl; refine zL ?_; refine blk_put (cs := #[.string (⟨#[100, 101, 102, 97, 117, 108, 116]⟩ : ByteArray), .bool false, .int .u64 0, .int .u64 0, .int .i64 0, .int .i64 0, .int .i64 0, .int .i64 0, .int .i64 0, .bool false, .int .i64 0, .slice none 0 0]) ?_ 5 _ rfl; refine zL ?_; refine blk_put (cs := #[.string (⟨#[100, 101, 102, 97, 117, 108, 116]⟩ : ByteArray), .bool false, .int .u64 0, .int .u64 0, .int .i64 0, .int .i64 0, .int .i64 0, .int .i64 0, .int .i64 0, .bool false, .int .i64 0, .slice none 0 0]) ?_ 4 _ rfl; refine zL ?_; refine blk_put (cs := #[.string (⟨#[100, 101, 102, 97, 117, 108, 116]⟩ : ByteArray), .bool false, .int .u64 0, .int .u64 0, .int .i64 0, .int .i64 0, .int .i64 0, .int .i64 0, .int .i64 0, .bool false, .int .i64 0, .slice none 0 0]) ?_ 3 _ rfl; refine zL ?_; refine blk_put (cs := #[.string (⟨#[100, 101, 102, 97, 117, 108, 116]⟩ : ByteArray), .bool false, .int .u64 0, .int .u64 0, .int .i64 0, .int .i64 0, .int .i64 0, .int .i64 0, .int .i64 0, .bool false, .int .i64 0, .slice none 0 0]) ?_ 2 _ rfl; refine zL ?_; refine blk_put (cs := #[.string (⟨#[100, 101, 102, 97, 117, 108, 116]⟩ : ByteArray), .bool false, .int .u64 0, .int .u64 0, .int .i64 0, .int .i64 0, .int .i64 0, .int .i64 0, .int .i64 0, .bool false, .int .i64 0, .slice none 0 0]) ?_ 1 _ rfl; refine zL ?_; refine blk_put (cs := #[.string (⟨#[]⟩ : ByteArray), .bool false, .int .u64 0, .int .u64 0, .int .i64 0, .int .i64 0, .int .i64 0, .int .i64 0, .int .i64 0, .bool false, .int .i64 0, .slice none 0 0]) ?_ 0 _ rfl; refine zL ?_; exact BK190.out) Tryz.underlying36 rfl (by kernel_rfl)) rfl ?_
 exact ⟨_, by first | rfl | (simp [errW_none, errW_some] <;> rfl) | (simp [*, errW_none, errW_some] <;> rfl), by first | exact Kd.R_nil _ _ _ _ _ | exact Kd.N_nil _ _ _ _ _ | exact Kd.V_nil _ _ _ _ _ | exact Kd.Q_nil _ _ _ _ _ | exact Kd.S_nil _ _ _ _ _, by repeat (first | (with_reducible first | exact HB.out | apply below_alloc | apply pw_below_drewN | apply below_drew1 | refine below_set ?_ GE190.out) | exact HB.out)⟩
end Go.Proofs.YtnphnhkinjppjaaGreatDoor.Q
end

section
namespace Go.Proofs.YtnphnhkinjppjaaGreatDoor.Q
open Go.RowKit Go.Proofs.YtnphnhkinjppjaaGreatDoorW.PrintWords Go.Proofs.YtnphnhkinjppjaaGreatDoorW.PrintLast Go.Proofs.YtnphnhkinjppjaaGreatDoorW.PrintMore
attribute [local go_sem] max2_int min2_int max_two min_two max_three min_three max_four min_four
set_option linter.unusedVariables false
set_option linter.unusedSimpArgs false
mutual
def address_number.j0 : Nat → ByteArray → Int → Bool → Option (Int × Bool)
  | 0, _, _, _ => none
  | k + 1, x0, x1, x24 => if x24 = true then (some (0, false)) else (address_number.l0 k x0 x1 0 (x0.size : Int) 0)
def address_number.l0 : Nat → ByteArray → Int → Int → Int → Int → Option (Int × Bool)
  | 0, _, _, _, _, _ => none
  | k + 1, x0, x1, x6, x26, x27 => if x27 < x26 then (if 0 ≤ x27 then (if x27 < (x0.size : Int) then (if (bt x0 x27) < 48 then (some (0, false)) else (if (bt x0 x27) > 57 then (some (0, false)) else (address_number.l0 k x0 x1 (wrap64 ((wrap64 (x6 * 10)) + (((bt x0 x27) - 48) % 256))) x26 (wrap64 (x27 + 1))))) else (none)) else (none)) else (some (x6, decide (x6 ≤ x1)))
end
def address_number.f (k : Nat) (a0 : ByteArray) (a1 : Int) : Option (Int × Bool) := if a0.toList = ([] : List UInt8) then (address_number.j0 k a0 a1 true) else (if (a0.size : Int) > 9 then (address_number.j0 k a0 a1 true) else (if 0 < (a0.size : Int) then (if (bt a0 0) = 48 then (address_number.j0 k a0 a1 (decide ((a0.size : Int) > 1))) else (address_number.j0 k a0 a1 false)) else (none)))
theorem address_number.mono_l : ∀ k, (∀ y0 y1 y2, LeO (address_number.j0 k y0 y1 y2) (address_number.j0 (k + 1) y0 y1 y2)) ∧ (∀ y0 y1 y2 y3 y4, LeO (address_number.l0 k y0 y1 y2 y3 y4) (address_number.l0 (k + 1) y0 y1 y2 y3 y4))
  | 0 => ⟨fun _ _ _ r h => by simp [address_number.j0] at h, fun _ _ _ _ _ r h => by simp [address_number.l0] at h⟩
  | k + 1 => by
    obtain ⟨ih0, ih1⟩ := address_number.mono_l k
    refine ⟨?_, ?_⟩
    · intro y0 y1 y2
      unfold address_number.j0
      repeat' first
      | (with_reducible exact ih0 _ _ _)
      | (with_reducible exact ih1 _ _ _ _ _)
      | (with_reducible exact LeO.refl _)
      | (with_reducible exact LeO.none _)
      | (with_reducible refine LeO.ite ?_ ?_)
      | (with_reducible refine LeO.bind ?_ (fun _ => ?_))
      | exact ih0 _ _ _
      | exact ih1 _ _ _ _ _
      | exact LeO.none _
      | refine LeO.ite ?_ ?_
      | refine LeO.bind ?_ (fun _ => ?_)
    · intro y0 y1 y2 y3 y4
      unfold address_number.l0
      repeat' first
      | (with_reducible exact ih0 _ _ _)
      | (with_reducible exact ih1 _ _ _ _ _)
      | (with_reducible exact LeO.refl _)
      | (with_reducible exact LeO.none _)
      | (with_reducible refine LeO.ite ?_ ?_)
      | (with_reducible refine LeO.bind ?_ (fun _ => ?_))
      | exact ih0 _ _ _
      | exact ih1 _ _ _ _ _
      | exact LeO.none _
      | refine LeO.ite ?_ ?_
      | refine LeO.bind ?_ (fun _ => ?_)
theorem address_number.mono : ∀ a0 a1 k, LeO (address_number.f k a0 a1) (address_number.f (k + 1) a0 a1) := by
  intro a0 a1 k
  obtain ⟨ih0, ih1⟩ := address_number.mono_l k
  unfold address_number.f
  repeat' first
      | (with_reducible exact ih0 _ _ _)
      | (with_reducible exact ih1 _ _ _ _ _)
      | (with_reducible exact LeO.refl _)
      | (with_reducible exact LeO.none _)
      | (with_reducible refine LeO.ite ?_ ?_)
      | (with_reducible refine LeO.bind ?_ (fun _ => ?_))
      | exact ih0 _ _ _
      | exact ih1 _ _ _ _ _
      | exact LeO.none _
      | refine LeO.ite ?_ ?_
      | refine LeO.bind ?_ (fun _ => ?_)
set_option maxHeartbeats 8000000 in
set_option maxRecDepth 100000 in
theorem address_number.calls (k : Nat) (a0 : ByteArray) (a1 : Int) (r1 : Int) (r2 : Bool) (w : World) (h : address_number.f k a0 a1 = some (r1, r2)) :
 Calls Tryz.prog 152 #[.string a0, .int .i64 a1] w fun e w' => e = .returned (.tuple #[.int .i64 r1, .bool r2]) ∧ Drawn0 w w' := by
 unfold address_number.f at h; have H := h
 clear h
 have HC3 := Aside0.mk H
 clear H
 go_enter Tryz.func152, Tryz.ntmps152
 go_upto_region 1 with (fail)
 go_cut [24] (fun v24 wc => ∃ (kq : Nat) (x24_2 : Bool), v24 = .bool x24_2 ∧ Aside0 (address_number.j0 kq a0 a1 x24_2 = some (r1, r2)) ∧ Aside0 (kq ≤ k) ∧ Drawn0 w wc)
 case first =>
  have H := HC3.out
  clear HC3
  by_cases c4 : a0.toList = ([] : List UInt8)
  · rw [if_pos c4] at H
    have c4b0 : (a0.toList == ([] : List UInt8)) = true := beq_iff_eq.mpr c4
    have c4b1 : (a0.toList != ([] : List UInt8)) = false := bne_eq_false_iff_eq.mpr c4
    clear c4
    (first | rw [c4b0] | (simp only [i64_w, i32_w]; rw [c4b0]) | skip)
    have H' := Aside0.mk H
    clear H
    go_wp2
    go_meet
    case rel => exact ⟨_, (true), (by first | rfl | (simp; done) | (simp [*]; done)), H', ⟨by first | omega | exact Nat.le_refl _⟩, by repeat (first | exact Drawn0.refl _ | apply Drawn0.step)⟩
  · rw [if_neg c4] at H
    have c4b0 : (a0.toList == ([] : List UInt8)) = false := beq_eq_false_iff_ne.mpr c4
    have c4b1 : (a0.toList != ([] : List UInt8)) = true := bne_iff_ne.mpr c4
    (first | rw [c4b0] | (simp only [i64_w, i32_w]; rw [c4b0]) | skip)
    by_cases c5 : (a0.size : Int) > 9
    · rw [if_pos c5] at H
      have c5b0 : decide (9 < (a0.size : Int)) = true := decide_eq_true c5
      have c5b1 : decide (9 < a0.size) = true := decide_eq_true (by omega)
      clear c5
      have H' := Aside0.mk H
      clear H
      go_wp2
      go_meet
      case rel => exact ⟨_, (true), (by first | rfl | (simp; done) | (simp [*]; done)), H', ⟨by first | omega | exact Nat.le_refl _⟩, by repeat (first | exact Drawn0.refl _ | apply Drawn0.step)⟩
    · rw [if_neg c5] at H
      have c5b0 : decide (9 < (a0.size : Int)) = false := decide_eq_false c5
      have c5b1 : decide (9 < a0.size) = false := decide_eq_false (by omega)
      clear c5
      by_cases c6 : 0 < (a0.size : Int)
      · rw [if_pos c6] at H
        have c6b0 : decide (0 < (a0.size : Int)) = true := decide_eq_true c6
        have c6b1 : decide (0 < a0.size) = true := decide_eq_true (by omega)
        clear c6
        by_cases c8 : (bt a0 0) = 48
        · rw [if_pos c8] at H
          have c8b0 : ((bt a0 0) == 48) = true := beq_iff_eq.mpr c8
          have c8b1 : ((bt a0 0) != 48) = false := bne_eq_false_iff_eq.mpr c8
          clear c8
          have H' := Aside0.mk H
          clear H
          have p7 : 0 ≤ (0 : Int) := (by omega)
          have q7 : 0 < a0.size := (by have : (0 : Int) < (a0.size : Int) := za; omega)
          have hx7 : ∀ h : 0 < a0.size, ((a0[0]'h).toNat : Int) = bt a0 0 := bt_at a0 0
          clear p7
          have qi7 : (0 < (a0.size : Int)) = True := eq_true (of_decide_eq_true (by first | (with_reducible assumption) | assumption))
          replace q7 := eq_true q7
          go_wp2
          go_meet
          case rel => exact ⟨_, (decide ((a0.size : Int) > 1)), (by first | rfl | (simp; done) | (simp [*]; done)), H', ⟨by first | omega | exact Nat.le_refl _⟩, by repeat (first | exact Drawn0.refl _ | apply Drawn0.step)⟩
        · rw [if_neg c8] at H
          have c8b0 : ((bt a0 0) == 48) = false := beq_eq_false_iff_ne.mpr c8
          have c8b1 : ((bt a0 0) != 48) = true := bne_iff_ne.mpr c8
          have H' := Aside0.mk H
          clear H
          have p7 : 0 ≤ (0 : Int) := (by omega)
          have q7 : 0 < a0.size := (by have : (0 : Int) < (a0.size : Int) := za; omega)
          have hx7 : ∀ h : 0 < a0.size, ((a0[0]'h).toNat : Int) = bt a0 0 := bt_at a0 0
          clear p7
          have qi7 : (0 < (a0.size : Int)) = True := eq_true (of_decide_eq_true (by first | (with_reducible assumption) | assumption))
          replace q7 := eq_true q7
          go_wp2
          go_meet
          case rel => exact ⟨_, (false), (by first | rfl | (simp; done) | (simp [*]; done)), H', ⟨by first | omega | exact Nat.le_refl _⟩, by repeat (first | exact Drawn0.refl _ | apply Drawn0.step)⟩
      · rw [if_neg c6] at H
        exact absurd H (by simp)
 case rest =>
  clear HC3
  try clear c1
  try clear p2
  try clear c4
  try clear c4b0
  try clear c4b1
  try clear c5
  try clear c5b0
  try clear c5b1
  try clear c6
  try clear c6b0
  try clear c6b1
  try clear p7
  try clear q7
  try clear hx7
  try clear qi7
  try clear c8
  try clear c8b0
  try clear c8b1
  try clear p7
  try clear q7
  obtain ⟨kq, x24_2, rfl, HA, HJ2, ⟨mc2, rfl⟩⟩ := hcut
  cases kq with
  | zero => exact absurd HA.out (by simp [address_number.j0])
  | succ kj2 =>
   have H := HA.out
   clear HA
   simp only [address_number.j0] at H
   by_cases c9 : x24_2 = true
   · subst c9
     rw [if_pos rfl] at H
     simp only [Option.some.injEq, Prod.mk.injEq] at H
     obtain ⟨rfl, rfl⟩ := H
     go_wp2
     go_ret2
     exact ⟨by first | rfl | (simp; done) | (simp [*]; done), by repeat (first | exact Drawn0.refl _ | apply Drawn0.step)⟩
   · replace c9 := Bool.eq_false_iff.mpr c9
     subst c9
     rw [if_neg zF] at H
     have H' := Aside0.mk H
     clear H
     go_wp2
     go_loopg [6, 27] kj2 (fun kq v6 v27 w' => ∃ (x6_2 : Int) (x27_2 : Int), v6 = .int .i64 x6_2 ∧ v27 = .int .i64 x27_2 ∧ Aside0 (address_number.l0 kq a0 a1 x6_2 (a0.size : Int) x27_2 = some (r1, r2)) ∧ Aside0 (kq ≤ kj2) ∧ Drawn0 w w')
     case atStart => exact ⟨(0), (0), (by first | rfl | (simp; done) | (simp [*]; done)), (by first | rfl | (simp; done) | (simp [*]; done)), H', ⟨Nat.le_refl _⟩, by repeat (first | exact Drawn0.refl _ | apply Drawn0.step)⟩
     case round =>
      clear H'
      try clear c1
      try clear c2
      try clear p2
      try clear c4
      try clear c4b0
      try clear c4b1
      try clear c5
      try clear c5b0
      try clear c5b1
      try clear c6
      try clear c6b0
      try clear c6b1
      try clear p7
      try clear q7
      try clear hx7
      try clear qi7
      try clear c8
      try clear c8b0
      try clear c8b1
      try clear c9
      try clear p2
      try clear p7
      try clear q7
      obtain ⟨x6_2, x27_2, rfl, rfl, HA, HK2, ⟨m2, rfl⟩⟩ := hrel
      cases gk with
      | zero => exact absurd HA.out (by simp [address_number.l0])
      | succ k2 =>
       have H := HA.out
       clear HA
       simp only [address_number.l0] at H
       by_cases c10 : x27_2 < (a0.size : Int)
       · rw [if_pos c10] at H
         have c10b0 : decide (x27_2 < (a0.size : Int)) = true := decide_eq_true c10
         clear c10
         by_cases c11 : 0 ≤ x27_2
         · rw [if_pos c11] at H
           have c11b0 : decide (0 ≤ x27_2) = true := decide_eq_true c11
           clear c11
           by_cases c12 : x27_2 < (a0.size : Int)
           · rw [if_pos c12] at H
             have c12b0 : decide (x27_2 < (a0.size : Int)) = true := decide_eq_true c12
             clear c12
             by_cases c14 : (bt a0 x27_2) < 48
             · rw [if_pos c14] at H
               have c14b0 : decide ((bt a0 x27_2) < 48) = true := decide_eq_true c14
               clear c14
               simp only [Option.some.injEq, Prod.mk.injEq] at H
               obtain ⟨rfl, rfl⟩ := H
               have p13 : 0 ≤ (x27_2 : Int) := za
               have q13 : x27_2 < (a0.size : Int) := za
               have hx13 := bt_at a0 x27_2
               replace p13 := eq_true p13
               replace q13 := eq_true q13
               go_wp2
               go_ret2
               exact ⟨by first | rfl | (simp; done) | (simp [*]; done), by repeat (first | exact Drawn0.refl _ | apply Drawn0.step)⟩
             · rw [if_neg c14] at H
               have c14b0 : decide ((bt a0 x27_2) < 48) = false := decide_eq_false c14
               clear c14
               by_cases c16 : (bt a0 x27_2) > 57
               · rw [if_pos c16] at H
                 have c16b0 : decide (57 < (bt a0 x27_2)) = true := decide_eq_true c16
                 clear c16
                 simp only [Option.some.injEq, Prod.mk.injEq] at H
                 obtain ⟨rfl, rfl⟩ := H
                 have p13 : 0 ≤ (x27_2 : Int) := za
                 have q13 : x27_2 < (a0.size : Int) := za
                 have hx13 := bt_at a0 x27_2
                 replace p13 := eq_true p13
                 replace q13 := eq_true q13
                 have p15 : 0 ≤ (x27_2 : Int) := za
                 have q15 : x27_2 < (a0.size : Int) := za
                 have hx15 := bt_at a0 x27_2
                 replace p15 := eq_true p15
                 replace q15 := eq_true q15
                 go_wp2
                 go_ret2
                 exact ⟨by first | rfl | (simp; done) | (simp [*]; done), by repeat (first | exact Drawn0.refl _ | apply Drawn0.step)⟩
               · rw [if_neg c16] at H
                 have c16b0 : decide (57 < (bt a0 x27_2)) = false := decide_eq_false c16
                 clear c16
                 have H' := Aside0.mk H
                 clear H
                 have p13 : 0 ≤ (x27_2 : Int) := za
                 have q13 : x27_2 < (a0.size : Int) := za
                 have hx13 := bt_at a0 x27_2
                 replace p13 := eq_true p13
                 replace q13 := eq_true q13
                 have p15 : 0 ≤ (x27_2 : Int) := za
                 have q15 : x27_2 < (a0.size : Int) := za
                 have hx15 := bt_at a0 x27_2
                 replace p15 := eq_true p15
                 replace q15 := eq_true q15
                 have p17 : 0 ≤ (x27_2 : Int) := za
                 have q17 : x27_2 < (a0.size : Int) := za
                 have hx17 := bt_at a0 x27_2
                 replace p17 := eq_true p17
                 replace q17 := eq_true q17
                 go_wp2
                 go_roundg k2
                 case measure => have := HJ2.out; have := HK2.out; omega
                 case rel => exact ⟨(wrap64 ((wrap64 (x6_2 * 10)) + (((bt a0 x27_2) - 48) % 256))), (wrap64 (x27_2 + 1)), (by first | rfl | (simp; done) | (simp [*]; done)), (by first | rfl | (simp; done) | (simp [*]; done)), H', ⟨by have := HJ2.out; have := HK2.out; omega⟩, by repeat (first | exact Drawn0.refl _ | apply Drawn0.step)⟩
           · rw [if_neg c12] at H
             exact absurd H (by simp)
         · rw [if_neg c11] at H
           exact absurd H (by simp)
       · rw [if_neg c10] at H
         have c10b0 : decide (x27_2 < (a0.size : Int)) = false := decide_eq_false c10
         clear c10
         simp only [Option.some.injEq, Prod.mk.injEq] at H
         obtain ⟨rfl, rfl⟩ := H
         go_wp2
         go_ret2
         exact ⟨by first | rfl | (simp; done) | (simp [*]; done), by repeat (first | exact Drawn0.refl _ | apply Drawn0.step)⟩
end Go.Proofs.YtnphnhkinjppjaaGreatDoor.Q
end

section
namespace Go.Proofs.YtnphnhkinjppjaaGreatDoor.Q
open Go.RowKit Go.Proofs.YtnphnhkinjppjaaGreatDoorW.PrintWords Go.Proofs.YtnphnhkinjppjaaGreatDoorW.PrintLast Go.Proofs.YtnphnhkinjppjaaGreatDoorW.PrintMore
attribute [local go_sem] max2_int min2_int max_two min_two max_three min_three max_four min_four
set_option linter.unusedVariables false
set_option linter.unusedSimpArgs false
def address_parse4.l0 : Nat → List ByteArray → Int → Int → Bool → Int → Int → Option (Bool × Int × Int × Bool)
  | 0, _, _, _, _, _, _ => none
  | k + 1, x16, x17, x18, x197000, x197001, x197002 => if x18 < x17 then (if 0 ≤ x18 then (if x18 < (x16.length : Int) then ((address_number.f k (rdOf ByteArray.empty x16 x18) 255).bind fun bt198 => (if bt198.2 = true then (address_parse4.l0 k x16 x17 (wrap64 (x18 + 1)) x197000 x197001 (Go.bits .or .u64 (IntKind.u64.wrap (x197002 * 256)) (IntKind.u64.wrap (bt198.1)))) else (some (false, 0, 0, false)))) else (none)) else (none)) else (some (x197000, x197001, x197002, true))
def address_parse4.f (k : Nat) (a0 : ByteArray) : Option (Bool × Int × Int × Bool) := (strings_Split.f a0 (⟨#[46]⟩ : ByteArray)).bind fun t193 => (if (t193.length : Int) = 4 then (address_parse4.l0 k t193 (t193.length : Int) 0 false 0 0) else (some (false, 0, 0, false)))
theorem address_parse4.mono_l : ∀ k, (∀ y0 y1 y2 y3 y4 y5, LeO (address_parse4.l0 k y0 y1 y2 y3 y4 y5) (address_parse4.l0 (k + 1) y0 y1 y2 y3 y4 y5))
  | 0 => fun _ _ _ _ _ _ r h => by simp [address_parse4.l0] at h
  | k + 1 => by
    have ih0 := address_parse4.mono_l k
    · intro y0 y1 y2 y3 y4 y5
      unfold address_parse4.l0
      repeat' first
      | (with_reducible exact ih0 _ _ _ _ _ _)
      | (with_reducible exact address_number.mono _ _ _)
      | (with_reducible exact LeO.refl _)
      | (with_reducible exact LeO.none _)
      | (with_reducible refine LeO.ite ?_ ?_)
      | (with_reducible refine LeO.bind ?_ (fun _ => ?_))
      | exact ih0 _ _ _ _ _ _
      | exact address_number.mono _ _ _
      | exact LeO.none _
      | refine LeO.ite ?_ ?_
      | refine LeO.bind ?_ (fun _ => ?_)
theorem address_parse4.mono : ∀ a0 k, LeO (address_parse4.f k a0) (address_parse4.f (k + 1) a0) := by
  intro a0 k
  have ih0 := address_parse4.mono_l k
  unfold address_parse4.f
  repeat' first
      | (with_reducible exact ih0 _ _ _ _ _ _)
      | (with_reducible exact address_number.mono _ _ _)
      | (with_reducible exact LeO.refl _)
      | (with_reducible exact LeO.none _)
      | (with_reducible refine LeO.ite ?_ ?_)
      | (with_reducible refine LeO.bind ?_ (fun _ => ?_))
      | exact ih0 _ _ _ _ _ _
      | exact address_number.mono _ _ _
      | exact LeO.none _
      | refine LeO.ite ?_ ?_
      | refine LeO.bind ?_ (fun _ => ?_)
set_option maxHeartbeats 8000000 in
set_option maxRecDepth 100000 in
theorem address_parse4.calls (k : Nat) (a0 : ByteArray) (r1 : Bool) (r2 : Int) (r3 : Int) (r4 : Bool) (w : World) (h : address_parse4.f k a0 = some (r1, r2, r3, r4)) (hW_ : WOK w) :
 Calls Tryz.prog 133 #[.string a0] w fun e w' => e = .returned (.tuple #[.agg #[.bool r1, .int .u64 r2, .int .u64 r3], .bool r4]) ∧ Below w.heap.size w w' := by
 have hu31 := Tryz.underlying31
 have HB := Aside0.mk (Below.refl w.heap.size w)
 unfold address_parse4.f at h; have H := h
 clear h
 replace H := Option.bind_eq_some_iff.mp H
 obtain ⟨t193, A20, H⟩ := H
 replace H : (if (t193.length : Int) = 4 then (address_parse4.l0 k t193 (t193.length : Int) 0 false 0 0) else (some (false, 0, 0, false))) = some (r1, r2, r3, r4) := H
 have A2 := Aside0.mk A20
 clear A20
 by_cases c3 : (t193.length : Int) = 4
 · rw [if_pos c3] at H
   have c3b0 : ((t193.length : Int) == 4) = true := beq_iff_eq.mpr c3
   have c3b1 : ((t193.length : Int) != 4) = false := bne_eq_false_iff_eq.mpr c3
   clear c3
   have H' := Aside0.mk H
   clear H
   go_enter Tryz.func133, Tryz.ntmps133
   go_wp2_with (first | ((with_reducible refine gate_dst (N := 2) rfl ?_); refine zx 2 #[.bool false, .int .u64 0, .int .u64 0] 31 ?_; intro gb192 hg w4 hbox hb; have BK192 := Aside0.mk (hbox); have GW192 := Aside0.mk ((by rw [hg]; exact (below_size (zB HB)) : w.heap.size ≤ gb192)); have GE192 := Aside0.mk ((by rw [hg]; exact (below_size (zB HB)) : w.heap.size ≤ gb192)); replace HB := Aside0.mk (below_step (zB HB) hb); clear hb hbox hg) | ((with_reducible refine gate_callee (f := 151) rfl ?_); refine goesL_ (some 11) rfl rfl Tryz.func151 (by kernel_rfl) rfl #[.string a0, .string (⟨#[46]⟩ : ByteArray)] rfl (by (try simp only [List.map_toArray, List.map_cons, List.map_nil]); first | done | rfl | (simp only [List.length_drop, List.length_take]; rfl)) ?_; (with_reducible refine (strings_Split.calls a0 (⟨#[46]⟩ : ByteArray) t193 _ A2.out (WOK.below hW_ (zB HB))).mono ?_); rintro e w5 ⟨v194, rfl, ho0, hb⟩; refine ⟨_, rfl, ?_⟩; have HO195 := Aside0.mk (Kd.R_lower ho0 (below_size (zB HB))); replace BK192 := Aside0.mk (blk_below (g := gb192) (o := .cells #[.bool false, .int .u64 0, .int .u64 0] 31 (0, 0)) (zK BK192) hb); replace HB := Aside0.mk (below_step (zB HB) hb); (try clear hb); (try clear ho0); obtain ⟨Ao6, co6, eo6⟩ := Kd.R_slice HO195.out; subst eo6) | ((with_reducible refine gate_dst (N := 5) rfl ?_); refine zx 5 #[.bool false, .int .u64 0, .int .u64 0] 31 ?_; intro gb196 hg w7 hbox hb; replace HO195 := Aside0.mk (Kd.R_below (zR HO195) hb); have BK196 := Aside0.mk (hbox); have GW196 := Aside0.mk ((by rw [hg]; exact (below_size (zB HB)) : w.heap.size ≤ gb196)); have GE196 := Aside0.mk ((by rw [hg]; exact (below_size (zB HB)) : w.heap.size ≤ gb196)); replace HB := Aside0.mk (below_step (zB HB) hb); have NB192_196 := Aside0.mk ((by rw [hg]; exact Nat.ne_of_lt (blk_lt (g := gb192) (o := .cells #[.bool false, .int .u64 0, .int .u64 0] 31 (0, 0)) (zK BK192)) : gb192 ≠ gb196)); have NB196_192 := Aside0.mk ((by rw [hg]; exact Nat.ne_of_gt (blk_lt (g := gb192) (o := .cells #[.bool false, .int .u64 0, .int .u64 0] 31 (0, 0)) (zK BK192)) : gb196 ≠ gb192)); replace BK192 := Aside0.mk (blk_below (g := gb192) (o := .cells #[.bool false, .int .u64 0, .int .u64 0] 31 (0, 0)) (zK BK192) hb); clear hb hbox hg))
   go_loopg [18] k (fun kq v18 w' => ∃ (x18_1 : Int) (x193000_1 : Bool) (x193001_1 : Int) (x193002_1 : Int) (x197002_1 : Int), v18 = .int .i64 x18_1 ∧ Aside0 (address_parse4.l0 kq t193 (t193.length : Int) x18_1 false 0 x197002_1 = some (r1, r2, r3, r4)) ∧ Aside0 (kq ≤ k) ∧ Aside0 (Kd.R Kd.string 9 w' w.heap.size (fun _ => True) (.slice Ao6 t193.length co6) t193) ∧ Aside0 (w'.heap[gb192]? = some (.cells #[.bool x193000_1, .int .u64 x193001_1, .int .u64 x193002_1] 31 (0, 0))) ∧ Aside0 (w'.heap[gb196]? = some (.cells #[.bool false, .int .u64 0, .int .u64 x197002_1] 31 (0, 0))) ∧ Aside0 (Below w.heap.size w w'))
   case atStart => exact ⟨(0), (false), (0), (0), (0), (by first | rfl | (simp; done) | (simp [*]; done)), H', ⟨Nat.le_refl _⟩, ⟨zR HO195⟩, ⟨zK BK192⟩, ⟨zK BK196⟩, ⟨zB HB⟩⟩
   case round =>
    clear H'
    try clear c1
    try clear p2
    try clear c3
    try clear c3b0
    try clear c3b1
    obtain ⟨x18_1, x193000_1, x193001_1, x193002_1, x197002_1, rfl, HA, HK1, HO_16, BK192, BK196, HB⟩ := hrel
    cases gk with
    | zero => exact absurd HA.out (by simp [address_parse4.l0])
    | succ k1 =>
     have H := HA.out
     clear HA
     simp only [address_parse4.l0] at H
     by_cases c8 : x18_1 < (t193.length : Int)
     · rw [if_pos c8] at H
       have c8b0 : decide (x18_1 < (t193.length : Int)) = true := decide_eq_true c8
       clear c8
       by_cases c9 : 0 ≤ x18_1
       · rw [if_pos c9] at H
         have c9b0 : decide (0 ≤ x18_1) = true := decide_eq_true c9
         clear c9
         by_cases c10 : x18_1 < (t193.length : Int)
         · rw [if_pos c10] at H
           have c10b0 : decide (x18_1 < (t193.length : Int)) = true := decide_eq_true c10
           clear c10
           replace H := Option.bind_eq_some_iff.mp H
           obtain ⟨⟨t198, t199⟩, A110, H⟩ := H
           replace H : (if t199 = true then (address_parse4.l0 k1 t193 (t193.length : Int) (wrap64 (x18_1 + 1)) false 0 (Go.bits .or .u64 (IntKind.u64.wrap (x197002_1 * 256)) (IntKind.u64.wrap (t198)))) else (some (false, 0, 0, false))) = some (r1, r2, r3, r4) := H
           have A11 := Aside0.mk A110
           clear A110
           by_cases c12 : t199 = true
           · subst c12
             rw [if_pos rfl] at H
             have H' := Aside0.mk H
             clear H
             have p197 : 0 ≤ (x18_1 : Int) := za
             have q197 : x18_1 < (t193.length : Int) := za
             obtain ⟨ad197, e197, hx197_0⟩ := Kd.at_string (Kd.R_reads' HO_16.out).2.2 x18_1 p197 q197
             cases e197
             replace p197 := eq_true p197
             replace q197 := eq_true q197
             go_wp2_with (first | ((with_reducible refine gate_callee (f := 152) rfl ?_); refine goesL_ (some 24) rfl rfl Tryz.func152 (by kernel_rfl) rfl #[.string (rdOf ByteArray.empty t193 x18_1), .int .i64 255] rfl (by (try simp only [List.map_toArray, List.map_cons, List.map_nil]); first | done | rfl | (simp only [List.length_drop, List.length_take]; rfl)) ?_; (with_reducible refine (address_number.calls k1 (rdOf ByteArray.empty t193 x18_1) 255 t198 true _ A11.out).mono ?_); rintro e w' ⟨rfl, ⟨nd, rfl⟩⟩; refine ⟨_, rfl, ?_⟩; (try (rw [drewN_self wr]; generalize hq_ : World.drewN wr _ = wr; have n0_ : Aside0 (Kd.R Kd.string 9 wr w.heap.size (fun _ => True) (.slice (some ad197) t193.length co6) t193) := ⟨by rw [← hq_]; exact (zR HO_16)⟩; have n1_ : Aside0 (wr.heap[gb192]? = some (.cells #[.bool x193000_1, .int .u64 x193001_1, .int .u64 x193002_1] 31 (0, 0))) := ⟨by rw [← hq_]; exact (zK BK192)⟩; have n2_ : Aside0 (wr.heap[gb196]? = some (.cells #[.bool false, .int .u64 0, .int .u64 x197002_1] 31 (0, 0))) := ⟨by rw [← hq_]; exact (zK BK196)⟩; have n3_ : Aside0 (Below w.heap.size w wr) := ⟨by rw [← hq_]; exact (zB HB)⟩; clear HO_16 BK192 BK196 HB hq_; have HO_16 := n0_; have BK192 := n1_; have BK196 := n2_; have HB := n3_; clear n0_ n1_ n2_ n3_)); have hnb13 := NB196_192.out; have hnc13 := NB192_196.out; obtain ⟨hcz14_0, hcz14_1, hcz14_2⟩ := zc3 BK196; obtain ⟨hfz14_0, hfz14_1, hfz14_2⟩ := zf3 BK196))
             go_roundg k1
             case measure => have := HK1.out; omega
             case rel => exact ⟨(wrap64 (x18_1 + 1)), (x193000_1), (x193001_1), (x193002_1), (Go.bits .or .u64 (IntKind.u64.wrap (x197002_1 * 256)) (IntKind.u64.wrap (t198))), (by first | rfl | (simp; done) | (simp [*]; done)), H', ⟨by have := HK1.out; omega⟩, ⟨by (with_reducible repeat (first | apply Kd.R_alloc | apply Kd.R_drewN | apply Kd.R_drew)); exact Kd.R_mono (Kd.R_far (p := ⟨gb196, 2, none⟩) (Kd.R_types HO_16.out BK196.out (by decide)) (fun _ hk => hk.2) (.int .u64 (Go.bits .or .u64 (IntKind.u64.wrap (x197002_1 * 256)) (IntKind.u64.wrap (t198))))) (fun _ hk => trivial)⟩, ⟨by refine zL ?_; refine blk_far ?_ NB192_196.out _; refine zL ?_; exact BK192.out⟩, ⟨by refine zL ?_; refine blk_put (cs := #[.bool false, .int .u64 0, .int .u64 x197002_1]) ?_ 2 _ rfl; refine zL ?_; exact BK196.out⟩, ⟨zB HB⟩⟩
           · replace c12 := Bool.eq_false_iff.mpr c12
             subst c12
             rw [if_neg zF] at H
             simp only [Option.some.injEq, Prod.mk.injEq] at H
             obtain ⟨rfl, rfl, rfl, rfl⟩ := H
             have p197 : 0 ≤ (x18_1 : Int) := za
             have q197 : x18_1 < (t193.length : Int) := za
             obtain ⟨ad197, e197, hx197_0⟩ := Kd.at_string (Kd.R_reads' HO_16.out).2.2 x18_1 p197 q197
             cases e197
             replace p197 := eq_true p197
             replace q197 := eq_true q197
             go_wp2_with (first | ((with_reducible refine gate_callee (f := 152) rfl ?_); refine goesL_ (some 24) rfl rfl Tryz.func152 (by kernel_rfl) rfl #[.string (rdOf ByteArray.empty t193 x18_1), .int .i64 255] rfl (by (try simp only [List.map_toArray, List.map_cons, List.map_nil]); first | done | rfl | (simp only [List.length_drop, List.length_take]; rfl)) ?_; (with_reducible refine (address_number.calls k1 (rdOf ByteArray.empty t193 x18_1) 255 t198 false _ A11.out).mono ?_); rintro e w' ⟨rfl, ⟨nd, rfl⟩⟩; refine ⟨_, rfl, ?_⟩; (try (rw [drewN_self wr]; generalize hq_ : World.drewN wr _ = wr; have n0_ : Aside0 (Kd.R Kd.string 9 wr w.heap.size (fun _ => True) (.slice (some ad197) t193.length co6) t193) := ⟨by rw [← hq_]; exact (zR HO_16)⟩; have n1_ : Aside0 (wr.heap[gb192]? = some (.cells #[.bool x193000_1, .int .u64 x193001_1, .int .u64 x193002_1] 31 (0, 0))) := ⟨by rw [← hq_]; exact (zK BK192)⟩; have n2_ : Aside0 (wr.heap[gb196]? = some (.cells #[.bool false, .int .u64 0, .int .u64 x197002_1] 31 (0, 0))) := ⟨by rw [← hq_]; exact (zK BK196)⟩; have n3_ : Aside0 (Below w.heap.size w wr) := ⟨by rw [← hq_]; exact (zB HB)⟩; clear HO_16 BK192 BK196 HB hq_; have HO_16 := n0_; have BK192 := n1_; have BK196 := n2_; have HB := n3_; clear n0_ n1_ n2_ n3_)); have hnb15 := NB192_196.out; have hnc15 := NB196_192.out; obtain ⟨hcz16_0, hcz16_1, hcz16_2⟩ := zc3 BK192; obtain ⟨hfz16_0, hfz16_1, hfz16_2⟩ := zf3 BK192))
             refine bodyPost_ret (results_ct rfl _ _ gb192 31 #[.bool false, .int .u64 0, .int .u64 0] (0, 0) _ rfl (by refine zL ?_; refine blk_put (cs := #[.bool false, .int .u64 0, .int .u64 x193002_1]) ?_ 2 _ rfl; refine zL ?_; refine blk_put (cs := #[.bool false, .int .u64 x193001_1, .int .u64 x193002_1]) ?_ 1 _ rfl; refine zL ?_; refine blk_put (cs := #[.bool x193000_1, .int .u64 x193001_1, .int .u64 x193002_1]) ?_ 0 _ rfl; refine zL ?_; exact BK192.out) Tryz.underlying31 rfl (by kernel_rfl)) rfl ?_
             exact ⟨by first | rfl | (simp [errW_none, errW_some] <;> rfl) | (simp [*, errW_none, errW_some] <;> rfl), by repeat (first | (with_reducible first | exact HB.out | apply below_alloc | apply pw_below_drewN | apply below_drew1 | refine below_set ?_ GE192.out | refine below_set ?_ GE196.out) | exact HB.out)⟩
         · rw [if_neg c10] at H
           exact absurd H (by simp)
       · rw [if_neg c9] at H
         exact absurd H (by simp)
     · rw [if_neg c8] at H
       have c8b0 : decide (x18_1 < (t193.length : Int)) = false := decide_eq_false c8
       clear c8
       simp only [Option.some.injEq, Prod.mk.injEq] at H
       obtain ⟨rfl, rfl, rfl, rfl⟩ := H
       have hnb17 := NB196_192.out
       have hnc17 := NB192_196.out
       obtain ⟨hcz18_0, hcz18_1, hcz18_2⟩ := zc3 BK196
       obtain ⟨hfz18_0, hfz18_1, hfz18_2⟩ := zf3 BK196
       obtain ⟨hcz19_0, hcz19_1, hcz19_2⟩ := zc3 BK192
       obtain ⟨hfz19_0, hfz19_1, hfz19_2⟩ := zf3 BK192
       go_wp2
       refine bodyPost_ret (results_ct rfl _ _ gb192 31 #[.bool false, .int .u64 0, .int .u64 x197002_1] (0, 0) _ rfl (by refine zL ?_; refine blk_put (cs := #[.bool false, .int .u64 0, .int .u64 x193002_1]) ?_ 2 _ rfl; refine zL ?_; refine blk_put (cs := #[.bool false, .int .u64 x193001_1, .int .u64 x193002_1]) ?_ 1 _ rfl; refine zL ?_; refine blk_put (cs := #[.bool x193000_1, .int .u64 x193001_1, .int .u64 x193002_1]) ?_ 0 _ rfl; refine zL ?_; exact BK192.out) Tryz.underlying31 rfl (by kernel_rfl)) rfl ?_
       exact ⟨by first | rfl | (simp [errW_none, errW_some] <;> rfl) | (simp [*, errW_none, errW_some] <;> rfl), by repeat (first | (with_reducible first | exact HB.out | apply below_alloc | apply pw_below_drewN | apply below_drew1 | refine below_set ?_ GE192.out | refine below_set ?_ GE196.out) | exact HB.out)⟩
 · rw [if_neg c3] at H
   have c3b0 : ((t193.length : Int) == 4) = false := beq_eq_false_iff_ne.mpr c3
   have c3b1 : ((t193.length : Int) != 4) = true := bne_iff_ne.mpr c3
   simp only [Option.some.injEq, Prod.mk.injEq] at H
   obtain ⟨rfl, rfl, rfl, rfl⟩ := H
   go_enter Tryz.func133, Tryz.ntmps133
   go_wp2_with (first | ((with_reducible refine gate_dst (N := 2) rfl ?_); refine zx 2 #[.bool false, .int .u64 0, .int .u64 0] 31 ?_; intro gb192 hg w20 hbox hb; have BK192 := Aside0.mk (hbox); have GW192 := Aside0.mk ((by rw [hg]; exact (below_size (zB HB)) : w.heap.size ≤ gb192)); have GE192 := Aside0.mk ((by rw [hg]; exact (below_size (zB HB)) : w.heap.size ≤ gb192)); replace HB := Aside0.mk (below_step (zB HB) hb); clear hb hbox hg) | ((with_reducible refine gate_callee (f := 151) rfl ?_); refine goesL_ (some 11) rfl rfl Tryz.func151 (by kernel_rfl) rfl #[.string a0, .string (⟨#[46]⟩ : ByteArray)] rfl (by (try simp only [List.map_toArray, List.map_cons, List.map_nil]); first | done | rfl | (simp only [List.length_drop, List.length_take]; rfl)) ?_; (with_reducible refine (strings_Split.calls a0 (⟨#[46]⟩ : ByteArray) t193 _ A2.out (WOK.below hW_ (zB HB))).mono ?_); rintro e w21 ⟨v194, rfl, ho0, hb⟩; refine ⟨_, rfl, ?_⟩; have HO195 := Aside0.mk (Kd.R_lower ho0 (below_size (zB HB))); replace BK192 := Aside0.mk (blk_below (g := gb192) (o := .cells #[.bool false, .int .u64 0, .int .u64 0] 31 (0, 0)) (zK BK192) hb); replace HB := Aside0.mk (below_step (zB HB) hb); (try clear hb); (try clear ho0); obtain ⟨Ao22, co22, eo22⟩ := Kd.R_slice HO195.out; subst eo22; obtain ⟨hcz23_0, hcz23_1, hcz23_2⟩ := zc3 BK192; obtain ⟨hfz23_0, hfz23_1, hfz23_2⟩ := zf3 BK192))
   refine bodyPost_ret (results_ct rfl _ _ gb192 31 #[.bool false, .int .u64 0, .int .u64 0] (0, 0) _ rfl (by refine zL ?_; refine blk_put (cs := #[.bool false, .int .u64 0, .int .u64 0]) ?_ 2 _ rfl; refine zL ?_; refine blk_put (cs := #[.bool false, .int .u64 0, .int .u64 0]) ?_ 1 _ rfl; refine zL ?_; refine blk_put (cs := #[.bool false, .int .u64 0, .int .u64 0]) ?_ 0 _ rfl; refine zL ?_; exact BK192.out) Tryz.underlying31 rfl (by kernel_rfl)) rfl ?_
   exact ⟨by first | rfl | (simp [errW_none, errW_some] <;> rfl) | (simp [*, errW_none, errW_some] <;> rfl), by repeat (first | (with_reducible first | exact HB.out | apply below_alloc | apply pw_below_drewN | apply below_drew1 | refine below_set ?_ GE192.out) | exact HB.out)⟩
end Go.Proofs.YtnphnhkinjppjaaGreatDoor.Q
end

section
namespace Go.Proofs.YtnphnhkinjppjaaGreatDoor.Q
open Go.RowKit Go.Proofs.YtnphnhkinjppjaaGreatDoorW.PrintWords Go.Proofs.YtnphnhkinjppjaaGreatDoorW.PrintLast Go.Proofs.YtnphnhkinjppjaaGreatDoorW.PrintMore
attribute [local go_sem] max2_int min2_int max_two min_two max_three min_three max_four min_four
set_option linter.unusedVariables false
set_option linter.unusedSimpArgs false
mutual
def address_group.j0 : Nat → ByteArray → Bool → Option (Int × Bool)
  | 0, _, _ => none
  | k + 1, x0, x13 => if x13 = true then (some (0, false)) else (address_group.l0 k x0 0 (x0.size : Int) 0)
def address_group.l0 : Nat → ByteArray → Int → Int → Int → Option (Int × Bool)
  | 0, _, _, _, _ => none
  | k + 1, x0, x4, x15, x16 => if x16 < x15 then (if 0 ≤ x16 then (if x16 < (x0.size : Int) then (if (bt x0 x16) ≥ 48 then (address_group.j2 k x0 x4 (bt x0 x16) x15 x16 (decide ((bt x0 x16) ≤ 57))) else (address_group.j2 k x0 x4 (bt x0 x16) x15 x16 false)) else (none)) else (none)) else (some (x4, true))
def address_group.j2 : Nat → ByteArray → Int → Int → Int → Int → Bool → Option (Int × Bool)
  | 0, _, _, _, _, _, _ => none
  | k + 1, x0, x4, x6, x15, x16, x22 => if x22 = true then (address_group.l0 k x0 (Go.bits .or .u64 (IntKind.u64.wrap (x4 * 16)) ((x6 - 48) % 256)) x15 (wrap64 (x16 + 1))) else (if x6 ≥ 65 then (address_group.j3 k x0 x4 x6 x15 x16 (decide (x6 ≤ 70))) else (address_group.j3 k x0 x4 x6 x15 x16 false))
def address_group.j3 : Nat → ByteArray → Int → Int → Int → Int → Bool → Option (Int × Bool)
  | 0, _, _, _, _, _, _ => none
  | k + 1, x0, x4, x6, x15, x16, x29 => if x29 = true then (address_group.l0 k x0 (Go.bits .or .u64 (IntKind.u64.wrap (x4 * 16)) ((((((x6 + 32) % 256) - 97) % 256) + 10) % 256)) x15 (wrap64 (x16 + 1))) else (if x6 ≥ 97 then (if x6 ≤ 102 then (address_group.l0 k x0 (Go.bits .or .u64 (IntKind.u64.wrap (x4 * 16)) ((((x6 - 97) % 256) + 10) % 256)) x15 (wrap64 (x16 + 1))) else (some (0, false))) else (some (0, false)))
end
def address_group.f (k : Nat) (a0 : ByteArray) : Option (Int × Bool) := if a0.toList = ([] : List UInt8) then (address_group.j0 k a0 true) else (address_group.j0 k a0 (decide ((a0.size : Int) > 4)))
theorem address_group.mono_l : ∀ k, (∀ y0 y1, LeO (address_group.j0 k y0 y1) (address_group.j0 (k + 1) y0 y1)) ∧ (∀ y0 y1 y2 y3, LeO (address_group.l0 k y0 y1 y2 y3) (address_group.l0 (k + 1) y0 y1 y2 y3)) ∧ (∀ y0 y1 y2 y3 y4 y5, LeO (address_group.j2 k y0 y1 y2 y3 y4 y5) (address_group.j2 (k + 1) y0 y1 y2 y3 y4 y5)) ∧ (∀ y0 y1 y2 y3 y4 y5, LeO (address_group.j3 k y0 y1 y2 y3 y4 y5) (address_group.j3 (k + 1) y0 y1 y2 y3 y4 y5))
  | 0 => ⟨fun _ _ r h => by simp [address_group.j0] at h, fun _ _ _ _ r h => by simp [address_group.l0] at h, fun _ _ _ _ _ _ r h => by simp [address_group.j2] at h, fun _ _ _ _ _ _ r h => by simp [address_group.j3] at h⟩
  | k + 1 => by
    obtain ⟨ih0, ih1, ih2, ih3⟩ := address_group.mono_l k
    refine ⟨?_, ?_, ?_, ?_⟩
    · intro y0 y1
      unfold address_group.j0
      repeat' first
      | (with_reducible exact ih0 _ _)
      | (with_reducible exact ih1 _ _ _ _)
      | (with_reducible exact ih2 _ _ _ _ _ _)
      | (with_reducible exact ih3 _ _ _ _ _ _)
      | (with_reducible exact LeO.refl _)
      | (with_reducible exact LeO.none _)
      | (with_reducible refine LeO.ite ?_ ?_)
      | (with_reducible refine LeO.bind ?_ (fun _ => ?_))
      | exact ih0 _ _
      | exact ih1 _ _ _ _
      | exact ih2 _ _ _ _ _ _
      | exact ih3 _ _ _ _ _ _
      | exact LeO.none _
      | refine LeO.ite ?_ ?_
      | refine LeO.bind ?_ (fun _ => ?_)
    · intro y0 y1 y2 y3
      unfold address_group.l0
      repeat' first
      | (with_reducible exact ih0 _ _)
      | (with_reducible exact ih1 _ _ _ _)
      | (with_reducible exact ih2 _ _ _ _ _ _)
      | (with_reducible exact ih3 _ _ _ _ _ _)
      | (with_reducible exact LeO.refl _)
      | (with_reducible exact LeO.none _)
      | (with_reducible refine LeO.ite ?_ ?_)
      | (with_reducible refine LeO.bind ?_ (fun _ => ?_))
      | exact ih0 _ _
      | exact ih1 _ _ _ _
      | exact ih2 _ _ _ _ _ _
      | exact ih3 _ _ _ _ _ _
      | exact LeO.none _
      | refine LeO.ite ?_ ?_
      | refine LeO.bind ?_ (fun _ => ?_)
    · intro y0 y1 y2 y3 y4 y5
      unfold address_group.j2
      repeat' first
      | (with_reducible exact ih0 _ _)
      | (with_reducible exact ih1 _ _ _ _)
      | (with_reducible exact ih2 _ _ _ _ _ _)
      | (with_reducible exact ih3 _ _ _ _ _ _)
      | (with_reducible exact LeO.refl _)
      | (with_reducible exact LeO.none _)
      | (with_reducible refine LeO.ite ?_ ?_)
      | (with_reducible refine LeO.bind ?_ (fun _ => ?_))
      | exact ih0 _ _
      | exact ih1 _ _ _ _
      | exact ih2 _ _ _ _ _ _
      | exact ih3 _ _ _ _ _ _
      | exact LeO.none _
      | refine LeO.ite ?_ ?_
      | refine LeO.bind ?_ (fun _ => ?_)
    · intro y0 y1 y2 y3 y4 y5
      unfold address_group.j3
      repeat' first
      | (with_reducible exact ih0 _ _)
      | (with_reducible exact ih1 _ _ _ _)
      | (with_reducible exact ih2 _ _ _ _ _ _)
      | (with_reducible exact ih3 _ _ _ _ _ _)
      | (with_reducible exact LeO.refl _)
      | (with_reducible exact LeO.none _)
      | (with_reducible refine LeO.ite ?_ ?_)
      | (with_reducible refine LeO.bind ?_ (fun _ => ?_))
      | exact ih0 _ _
      | exact ih1 _ _ _ _
      | exact ih2 _ _ _ _ _ _
      | exact ih3 _ _ _ _ _ _
      | exact LeO.none _
      | refine LeO.ite ?_ ?_
      | refine LeO.bind ?_ (fun _ => ?_)
theorem address_group.mono : ∀ a0 k, LeO (address_group.f k a0) (address_group.f (k + 1) a0) := by
  intro a0 k
  obtain ⟨ih0, ih1, ih2, ih3⟩ := address_group.mono_l k
  unfold address_group.f
  repeat' first
      | (with_reducible exact ih0 _ _)
      | (with_reducible exact ih1 _ _ _ _)
      | (with_reducible exact ih2 _ _ _ _ _ _)
      | (with_reducible exact ih3 _ _ _ _ _ _)
      | (with_reducible exact LeO.refl _)
      | (with_reducible exact LeO.none _)
      | (with_reducible refine LeO.ite ?_ ?_)
      | (with_reducible refine LeO.bind ?_ (fun _ => ?_))
      | exact ih0 _ _
      | exact ih1 _ _ _ _
      | exact ih2 _ _ _ _ _ _
      | exact ih3 _ _ _ _ _ _
      | exact LeO.none _
      | refine LeO.ite ?_ ?_
      | refine LeO.bind ?_ (fun _ => ?_)
set_option maxHeartbeats 8000000 in
set_option maxRecDepth 100000 in
theorem address_group.calls (k : Nat) (a0 : ByteArray) (r1 : Int) (r2 : Bool) (w : World) (h : address_group.f k a0 = some (r1, r2)) :
 Calls Tryz.prog 166 #[.string a0] w fun e w' => e = .returned (.tuple #[.int .u64 r1, .bool r2]) ∧ Drawn0 w w' := by
 unfold address_group.f at h; have H := h
 clear h
 have HC2 := Aside0.mk H
 clear H
 go_enter Tryz.func166, Tryz.ntmps166
 go_upto_region 1 with (fail)
 go_cut [13] (fun v13 wc => ∃ (kq : Nat) (x13_1 : Bool), v13 = .bool x13_1 ∧ Aside0 (address_group.j0 kq a0 x13_1 = some (r1, r2)) ∧ Aside0 (kq ≤ k) ∧ Drawn0 w wc)
 case first =>
  have H := HC2.out
  clear HC2
  by_cases c3 : a0.toList = ([] : List UInt8)
  · rw [if_pos c3] at H
    have c3b0 : (a0.toList == ([] : List UInt8)) = true := beq_iff_eq.mpr c3
    have c3b1 : (a0.toList != ([] : List UInt8)) = false := bne_eq_false_iff_eq.mpr c3
    clear c3
    (first | rw [c3b0] | (simp only [i64_w, i32_w]; rw [c3b0]) | skip)
    have H' := Aside0.mk H
    clear H
    go_wp2
    go_meet
    case rel => exact ⟨_, (true), (by first | rfl | (simp; done) | (simp [*]; done)), H', ⟨by first | omega | exact Nat.le_refl _⟩, by repeat (first | exact Drawn0.refl _ | apply Drawn0.step)⟩
  · rw [if_neg c3] at H
    have c3b0 : (a0.toList == ([] : List UInt8)) = false := beq_eq_false_iff_ne.mpr c3
    have c3b1 : (a0.toList != ([] : List UInt8)) = true := bne_iff_ne.mpr c3
    (first | rw [c3b0] | (simp only [i64_w, i32_w]; rw [c3b0]) | skip)
    have H' := Aside0.mk H
    clear H
    go_wp2
    go_meet
    case rel => exact ⟨_, (decide ((a0.size : Int) > 4)), (by first | rfl | (simp; done) | (simp [*]; done)), H', ⟨by first | omega | exact Nat.le_refl _⟩, by repeat (first | exact Drawn0.refl _ | apply Drawn0.step)⟩
 case rest =>
  clear HC2
  try clear c1
  try clear p2
  try clear c3
  try clear c3b0
  try clear c3b1
  obtain ⟨kq, x13_1, rfl, HA, HJ1, ⟨mc1, rfl⟩⟩ := hcut
  cases kq with
  | zero => exact absurd HA.out (by simp [address_group.j0])
  | succ kj1 =>
   have H := HA.out
   clear HA
   simp only [address_group.j0] at H
   by_cases c4 : x13_1 = true
   · subst c4
     rw [if_pos rfl] at H
     simp only [Option.some.injEq, Prod.mk.injEq] at H
     obtain ⟨rfl, rfl⟩ := H
     go_wp2
     go_ret2
     exact ⟨by first | rfl | (simp; done) | (simp [*]; done), by repeat (first | exact Drawn0.refl _ | apply Drawn0.step)⟩
   · replace c4 := Bool.eq_false_iff.mpr c4
     subst c4
     rw [if_neg zF] at H
     have H' := Aside0.mk H
     clear H
     go_wp2
     go_loopg [4, 16] kj1 (fun kq v4 v16 w' => ∃ (x4_2 : Int) (x16_2 : Int), v4 = .int .u64 x4_2 ∧ v16 = .int .i64 x16_2 ∧ Aside0 (address_group.l0 kq a0 x4_2 (a0.size : Int) x16_2 = some (r1, r2)) ∧ Aside0 (kq ≤ kj1) ∧ Drawn0 w w')
     case atStart => exact ⟨(0), (0), (by first | rfl | (simp; done) | (simp [*]; done)), (by first | rfl | (simp; done) | (simp [*]; done)), H', ⟨Nat.le_refl _⟩, by repeat (first | exact Drawn0.refl _ | apply Drawn0.step)⟩
     case round =>
      clear H'
      try clear c1
      try clear p2
      try clear c3
      try clear c3b0
      try clear c3b1
      try clear c4
      try clear p2
      obtain ⟨x4_2, x16_2, rfl, rfl, HA, HK2, ⟨m2, rfl⟩⟩ := hrel
      cases gk with
      | zero => exact absurd HA.out (by simp [address_group.l0])
      | succ k2 =>
       have H := HA.out
       clear HA
       simp only [address_group.l0] at H
       by_cases c5 : x16_2 < (a0.size : Int)
       · rw [if_pos c5] at H
         have c5b0 : decide (x16_2 < (a0.size : Int)) = true := decide_eq_true c5
         clear c5
         by_cases c6 : 0 ≤ x16_2
         · rw [if_pos c6] at H
           have c6b0 : decide (0 ≤ x16_2) = true := decide_eq_true c6
           clear c6
           by_cases c7 : x16_2 < (a0.size : Int)
           · rw [if_pos c7] at H
             have c7b0 : decide (x16_2 < (a0.size : Int)) = true := decide_eq_true c7
             clear c7
             have HC9 := Aside0.mk H
             clear H
             have p8 : 0 ≤ (x16_2 : Int) := za
             have q8 : x16_2 < (a0.size : Int) := za
             have hx8 := bt_at a0 x16_2
             replace p8 := eq_true p8
             replace q8 := eq_true q8
             go_upto_region 8 with (fail)
             go_cut [22] (fun v22 wc => ∃ (kq : Nat) (x22_8 : Bool), v22 = .bool x22_8 ∧ Aside0 (address_group.j2 kq a0 x4_2 (bt a0 x16_2) (a0.size : Int) x16_2 x22_8 = some (r1, r2)) ∧ Aside0 (kq ≤ k2) ∧ Drawn0 w wc)
             case first =>
              have H := HC9.out
              clear HC9
              by_cases c10 : (bt a0 x16_2) ≥ 48
              · rw [if_pos c10] at H
                have c10b0 : decide (48 ≤ (bt a0 x16_2)) = true := decide_eq_true c10
                clear c10
                (first | rw [c10b0] | (simp only [i64_w, i32_w]; rw [c10b0]) | skip)
                have H' := Aside0.mk H
                clear H
                go_wp2
                go_meet
                case rel => exact ⟨_, (decide ((bt a0 x16_2) ≤ 57)), (by first | rfl | (simp; done) | (simp [*]; done)), H', ⟨by have := HJ1.out; have := HK2.out; first | omega | exact Nat.le_refl _⟩, by repeat (first | exact Drawn0.refl _ | apply Drawn0.step)⟩
              · rw [if_neg c10] at H
                have c10b0 : decide (48 ≤ (bt a0 x16_2)) = false := decide_eq_false c10
                clear c10
                (first | rw [c10b0] | (simp only [i64_w, i32_w]; rw [c10b0]) | skip)
                have H' := Aside0.mk H
                clear H
                go_wp2
                go_meet
                case rel => exact ⟨_, (false), (by first | rfl | (simp; done) | (simp [*]; done)), H', ⟨by have := HJ1.out; have := HK2.out; first | omega | exact Nat.le_refl _⟩, by repeat (first | exact Drawn0.refl _ | apply Drawn0.step)⟩
             case rest =>
              clear HC9
              try clear c1
              try clear p2
              try clear c3
              try clear c3b0
              try clear c3b1
              try clear c4
              try clear c5
              try clear c5b0
              try clear c6
              try clear c6b0
              try clear c7
              try clear c7b0
              try clear p8
              try clear q8
              try clear hx8
              try clear c10
              try clear c10b0
              try clear p2
              try clear p8
              try clear q8
              obtain ⟨kq, x22_8, rfl, HA, HJ8, ⟨mc8, rfl⟩⟩ := hcut
              cases kq with
              | zero => exact absurd HA.out (by simp [address_group.j2])
              | succ kj8 =>
               have H := HA.out
               clear HA
               simp only [address_group.j2] at H
               by_cases c11 : x22_8 = true
               · subst c11
                 rw [if_pos rfl] at H
                 have H' := Aside0.mk H
                 clear H
                 go_wp2
                 go_roundg kj8
                 case measure => have := HJ1.out; have := HK2.out; have := HJ8.out; omega
                 case rel => exact ⟨(Go.bits .or .u64 (IntKind.u64.wrap (x4_2 * 16)) (((bt a0 x16_2) - 48) % 256)), (wrap64 (x16_2 + 1)), (by first | rfl | (simp; done) | (simp [*]; done)), (by first | rfl | (simp; done) | (simp [*]; done)), H', ⟨by have := HJ1.out; have := HK2.out; have := HJ8.out; omega⟩, by repeat (first | exact Drawn0.refl _ | apply Drawn0.step)⟩
               · replace c11 := Bool.eq_false_iff.mpr c11
                 subst c11
                 rw [if_neg zF] at H
                 have HC12 := Aside0.mk H
                 clear H
                 go_upto_region 9 with (fail)
                 go_cut [29] (fun v29 wc => ∃ (kq : Nat) (x29_11 : Bool), v29 = .bool x29_11 ∧ Aside0 (address_group.j3 kq a0 x4_2 (bt a0 x16_2) (a0.size : Int) x16_2 x29_11 = some (r1, r2)) ∧ Aside0 (kq ≤ kj8) ∧ Drawn0 w wc)
                 case first =>
                  have H := HC12.out
                  clear HC12
                  by_cases c13 : (bt a0 x16_2) ≥ 65
                  · rw [if_pos c13] at H
                    have c13b0 : decide (65 ≤ (bt a0 x16_2)) = true := decide_eq_true c13
                    clear c13
                    (first | rw [c13b0] | (simp only [i64_w, i32_w]; rw [c13b0]) | skip)
                    have H' := Aside0.mk H
                    clear H
                    go_wp2
                    go_meet
                    case rel => exact ⟨_, (decide ((bt a0 x16_2) ≤ 70)), (by first | rfl | (simp; done) | (simp [*]; done)), H', ⟨by have := HJ1.out; have := HK2.out; have := HJ8.out; first | omega | exact Nat.le_refl _⟩, by repeat (first | exact Drawn0.refl _ | apply Drawn0.step)⟩
                  · rw [if_neg c13] at H
                    have c13b0 : decide (65 ≤ (bt a0 x16_2)) = false := decide_eq_false c13
                    clear c13
                    (first | rw [c13b0] | (simp only [i64_w, i32_w]; rw [c13b0]) | skip)
                    have H' := Aside0.mk H
                    clear H
                    go_wp2
                    go_meet
                    case rel => exact ⟨_, (false), (by first | rfl | (simp; done) | (simp [*]; done)), H', ⟨by have := HJ1.out; have := HK2.out; have := HJ8.out; first | omega | exact Nat.le_refl _⟩, by repeat (first | exact Drawn0.refl _ | apply Drawn0.step)⟩
                 case rest =>
                  clear HC12
                  try clear c1
                  try clear p2
                  try clear c3
                  try clear c3b0
                  try clear c3b1
                  try clear c4
                  try clear c5
                  try clear c5b0
                  try clear c6
                  try clear c6b0
                  try clear p6
                  try clear c7
                  try clear c7b0
                  try clear c8
                  try clear p8
                  try clear q8
                  try clear hx8
                  try clear c10
                  try clear c10b0
                  try clear c11
                  try clear c13
                  try clear c13b0
                  try clear p2
                  try clear p8
                  try clear q8
                  obtain ⟨kq, x29_11, rfl, HA, HJ11, ⟨mc11, rfl⟩⟩ := hcut
                  cases kq with
                  | zero => exact absurd HA.out (by simp [address_group.j3])
                  | succ kj11 =>
                   have H := HA.out
                   clear HA
                   simp only [address_group.j3] at H
                   by_cases c14 : x29_11 = true
                   · subst c14
                     rw [if_pos rfl] at H
                     have H' := Aside0.mk H
                     clear H
                     go_wp2
                     go_roundg kj11
                     case measure => have := HJ1.out; have := HK2.out; have := HJ8.out; have := HJ11.out; omega
                     case rel => exact ⟨(Go.bits .or .u64 (IntKind.u64.wrap (x4_2 * 16)) (((((((bt a0 x16_2) + 32) % 256) - 97) % 256) + 10) % 256)), (wrap64 (x16_2 + 1)), (by first | rfl | (simp; done) | (simp [*]; done)), (by first | rfl | (simp; done) | (simp [*]; done)), H', ⟨by have := HJ1.out; have := HK2.out; have := HJ8.out; have := HJ11.out; omega⟩, by repeat (first | exact Drawn0.refl _ | apply Drawn0.step)⟩
                   · replace c14 := Bool.eq_false_iff.mpr c14
                     subst c14
                     rw [if_neg zF] at H
                     by_cases c15 : (bt a0 x16_2) ≥ 97
                     · rw [if_pos c15] at H
                       have c15b0 : decide (97 ≤ (bt a0 x16_2)) = true := decide_eq_true c15
                       clear c15
                       by_cases c16 : (bt a0 x16_2) ≤ 102
                       · rw [if_pos c16] at H
                         have c16b0 : decide ((bt a0 x16_2) ≤ 102) = true := decide_eq_true c16
                         clear c16
                         have H' := Aside0.mk H
                         clear H
                         go_wp2
                         go_roundg kj11
                         case measure => have := HJ1.out; have := HK2.out; have := HJ8.out; have := HJ11.out; omega
                         case rel => exact ⟨(Go.bits .or .u64 (IntKind.u64.wrap (x4_2 * 16)) (((((bt a0 x16_2) - 97) % 256) + 10) % 256)), (wrap64 (x16_2 + 1)), (by first | rfl | (simp; done) | (simp [*]; done)), (by first | rfl | (simp; done) | (simp [*]; done)), H', ⟨by have := HJ1.out; have := HK2.out; have := HJ8.out; have := HJ11.out; omega⟩, by repeat (first | exact Drawn0.refl _ | apply Drawn0.step)⟩
                       · rw [if_neg c16] at H
                         have c16b0 : decide ((bt a0 x16_2) ≤ 102) = false := decide_eq_false c16
                         clear c16
                         simp only [Option.some.injEq, Prod.mk.injEq] at H
                         obtain ⟨rfl, rfl⟩ := H
                         go_wp2
                         go_ret2
                         exact ⟨by first | rfl | (simp; done) | (simp [*]; done), by repeat (first | exact Drawn0.refl _ | apply Drawn0.step)⟩
                     · rw [if_neg c15] at H
                       have c15b0 : decide (97 ≤ (bt a0 x16_2)) = false := decide_eq_false c15
                       clear c15
                       simp only [Option.some.injEq, Prod.mk.injEq] at H
                       obtain ⟨rfl, rfl⟩ := H
                       go_wp2
                       go_ret2
                       exact ⟨by first | rfl | (simp; done) | (simp [*]; done), by repeat (first | exact Drawn0.refl _ | apply Drawn0.step)⟩
           · rw [if_neg c7] at H
             exact absurd H (by simp)
         · rw [if_neg c6] at H
           exact absurd H (by simp)
       · rw [if_neg c5] at H
         have c5b0 : decide (x16_2 < (a0.size : Int)) = false := decide_eq_false c5
         clear c5
         simp only [Option.some.injEq, Prod.mk.injEq] at H
         obtain ⟨rfl, rfl⟩ := H
         go_wp2
         go_ret2
         exact ⟨by first | rfl | (simp; done) | (simp [*]; done), by repeat (first | exact Drawn0.refl _ | apply Drawn0.step)⟩
end Go.Proofs.YtnphnhkinjppjaaGreatDoor.Q
end
