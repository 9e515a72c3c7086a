/- The law AssetChecks answers true for every input and leaves its arguments as they were. No condition. (Part 4 of 6: the kit's printed words and walks, hand-made contracts and plain laws, joined in build order, without what the theorem does not reach.) -/
import Derived.Shelf.SlSortCmp.InsertionK
import Derived.Laws.CopyRow
import Derived.Laws.OwnMore
import Derived.OwnWalk
import Derived.BigQuiet
import Derived.Outline
import Derived.Deep.QuietTactic
import Derived.StillTailTactics
import Derived.RegionTactic
import Derived.Test.YtnphnhkinjppjaaGreatDoorGAssetChecks3
set_option linter.unusedVariables false
set_option linter.unusedSimpArgs false
section
set_option maxHeartbeats 8000000
set_option maxRecDepth 100000
namespace Go.Proofs.YtnphnhkinjppjaaGreatDoor.Q
open Go.RowKit Go.Proofs.YtnphnhkinjppjaaGreatDoorW.PrintWords Go.Proofs.YtnphnhkinjppjaaGreatDoorW.PrintLast Go.Proofs.YtnphnhkinjppjaaGreatDoorW.PrintMore
attribute [local go_sem] max2_int min2_int max_two min_two max_three min_three max_four min_four
attribute [local go_sem high] eqA33 eqA74
mutual
def r18_One.j0 : Nat → Bool → ByteArray → Bool → Int → Int → Int → Int → Int → Int → Int → Bool → Int → List (S74) → ByteArray → Bool → Int → Int → Int → Int → Int → Int → Int → Bool → Int → List (S74) → Option (Bool)
  | 0, _, _, _, _, _, _, _, _, _, _, _, _, _, _, _, _, _, _, _, _, _, _, _, _, _ => none
  | k + 1, x68, x388000, x388001, x388002, x388003, x388004, x388005, x388006, x388007, x388008, x388009, x388010, x388011, x389000, x389001, x389002, x389003, x389004, x389005, x389006, x389007, x389008, x389009, x389010, x389011 => if x68 = true then (some false) else (r18_One.l0 k 0 x388000 x388001 x388002 x388003 x388004 x388005 x388006 x388007 x388008 x388009 x388010 x388011 x389000 x389001 x389002 x389003 x389004 x389005 x389006 x389007 x389008 x389009 x389010 x389011)
def r18_One.l0 : Nat → Int → ByteArray → Bool → Int → Int → Int → Int → Int → Int → Int → Bool → Int → List (S74) → ByteArray → Bool → Int → Int → Int → Int → Int → Int → Int → Bool → Int → List (S74) → Option (Bool)
  | 0, _, _, _, _, _, _, _, _, _, _, _, _, _, _, _, _, _, _, _, _, _, _, _, _, _ => none
  | k + 1, x5, x388000, x388001, x388002, x388003, x388004, x388005, x388006, x388007, x388008, x388009, x388010, x388011, x389000, x389001, x389002, x389003, x389004, x389005, x389006, x389007, x389008, x389009, x389010, x389011 => if x5 < (x388011.length : Int) then (if 0 ≤ x5 then (if x5 < (x389011.length : Int) then (if (!(((rd_T74 x388011 x5).f0) == ((rd_T74 x389011 x5).f0)) || (!(((rd_T74 x388011 x5).f1) == ((rd_T74 x389011 x5).f1)) || (!(((rd_T74 x388011 x5).f2) == ((rd_T74 x389011 x5).f2))))) = true then (some false) else (r18_One.l0 k (wrap64 (x5 + 1)) x388000 x388001 x388002 x388003 x388004 x388005 x388006 x388007 x388008 x388009 x388010 x388011 x389000 x389001 x389002 x389003 x389004 x389005 x389006 x389007 x389008 x389009 x389010 x389011)) else (none)) else (none)) else (some true)
end
def r18_One.f (k : Nat) (a0_0 : ByteArray) (a0_1 : Bool) (a0_2 : Int) (a0_3 : Int) (a0_4 : Int) (a0_5 : Int) (a0_6 : Int) (a0_7 : Int) (a0_8 : Int) (a0_9 : Bool) (a0_10 : Int) (l0_11 : List (S74)) (a1_0 : ByteArray) (a1_1 : Bool) (a1_2 : Int) (a1_3 : Int) (a1_4 : Int) (a1_5 : Int) (a1_6 : Int) (a1_7 : Int) (a1_8 : Int) (a1_9 : Bool) (a1_10 : Int) (l1_11 : List (S74)) : Option (Bool) := if a0_0.toList = a1_0.toList then (if ((!(a0_1 == a1_1) || (!(a0_2 == a1_2) || (!(a0_3 == a1_3)))) || (!(a0_4 == a1_4))) = true then (r18_One.j0 k true a0_0 a0_1 a0_2 a0_3 a0_4 a0_5 a0_6 a0_7 a0_8 a0_9 a0_10 l0_11 a1_0 a1_1 a1_2 a1_3 a1_4 a1_5 a1_6 a1_7 a1_8 a1_9 a1_10 l1_11) else (if a0_5 = a1_5 then (if a0_6 = a1_6 then (if a0_7 = a1_7 then (if a0_8 = a1_8 then (if (a0_9 != a1_9) = true then (r18_One.j0 k true a0_0 a0_1 a0_2 a0_3 a0_4 a0_5 a0_6 a0_7 a0_8 a0_9 a0_10 l0_11 a1_0 a1_1 a1_2 a1_3 a1_4 a1_5 a1_6 a1_7 a1_8 a1_9 a1_10 l1_11) else (if a0_10 = a1_10 then (r18_One.j0 k ((l0_11.length : Int) != (l1_11.length : Int)) a0_0 a0_1 a0_2 a0_3 a0_4 a0_5 a0_6 a0_7 a0_8 a0_9 a0_10 l0_11 a1_0 a1_1 a1_2 a1_3 a1_4 a1_5 a1_6 a1_7 a1_8 a1_9 a1_10 l1_11) else (r18_One.j0 k true a0_0 a0_1 a0_2 a0_3 a0_4 a0_5 a0_6 a0_7 a0_8 a0_9 a0_10 l0_11 a1_0 a1_1 a1_2 a1_3 a1_4 a1_5 a1_6 a1_7 a1_8 a1_9 a1_10 l1_11))) else (r18_One.j0 k true a0_0 a0_1 a0_2 a0_3 a0_4 a0_5 a0_6 a0_7 a0_8 a0_9 a0_10 l0_11 a1_0 a1_1 a1_2 a1_3 a1_4 a1_5 a1_6 a1_7 a1_8 a1_9 a1_10 l1_11)) else (r18_One.j0 k true a0_0 a0_1 a0_2 a0_3 a0_4 a0_5 a0_6 a0_7 a0_8 a0_9 a0_10 l0_11 a1_0 a1_1 a1_2 a1_3 a1_4 a1_5 a1_6 a1_7 a1_8 a1_9 a1_10 l1_11)) else (r18_One.j0 k true a0_0 a0_1 a0_2 a0_3 a0_4 a0_5 a0_6 a0_7 a0_8 a0_9 a0_10 l0_11 a1_0 a1_1 a1_2 a1_3 a1_4 a1_5 a1_6 a1_7 a1_8 a1_9 a1_10 l1_11)) else (r18_One.j0 k true a0_0 a0_1 a0_2 a0_3 a0_4 a0_5 a0_6 a0_7 a0_8 a0_9 a0_10 l0_11 a1_0 a1_1 a1_2 a1_3 a1_4 a1_5 a1_6 a1_7 a1_8 a1_9 a1_10 l1_11))) else (r18_One.j0 k true a0_0 a0_1 a0_2 a0_3 a0_4 a0_5 a0_6 a0_7 a0_8 a0_9 a0_10 l0_11 a1_0 a1_1 a1_2 a1_3 a1_4 a1_5 a1_6 a1_7 a1_8 a1_9 a1_10 l1_11)
theorem r18_One.mono_l : ∀ k, (∀ y0 y1 y2 y3 y4 y5 y6 y7 y8 y9 y10 y11 y12 y13 y14 y15 y16 y17 y18 y19 y20 y21 y22 y23 y24, LeO (r18_One.j0 k y0 y1 y2 y3 y4 y5 y6 y7 y8 y9 y10 y11 y12 y13 y14 y15 y16 y17 y18 y19 y20 y21 y22 y23 y24) (r18_One.j0 (k + 1) y0 y1 y2 y3 y4 y5 y6 y7 y8 y9 y10 y11 y12 y13 y14 y15 y16 y17 y18 y19 y20 y21 y22 y23 y24)) ∧ (∀ y0 y1 y2 y3 y4 y5 y6 y7 y8 y9 y10 y11 y12 y13 y14 y15 y16 y17 y18 y19 y20 y21 y22 y23 y24, LeO (r18_One.l0 k y0 y1 y2 y3 y4 y5 y6 y7 y8 y9 y10 y11 y12 y13 y14 y15 y16 y17 y18 y19 y20 y21 y22 y23 y24) (r18_One.l0 (k + 1) y0 y1 y2 y3 y4 y5 y6 y7 y8 y9 y10 y11 y12 y13 y14 y15 y16 y17 y18 y19 y20 y21 y22 y23 y24))
  | 0 => ⟨fun _ _ _ _ _ _ _ _ _ _ _ _ _ _ _ _ _ _ _ _ _ _ _ _ _ r h => by simp [r18_One.j0] at h, fun _ _ _ _ _ _ _ _ _ _ _ _ _ _ _ _ _ _ _ _ _ _ _ _ _ r h => by simp [r18_One.l0] at h⟩
  | k + 1 => by
    obtain ⟨ih0, ih1⟩ := r18_One.mono_l k
    refine ⟨?_, ?_⟩
    · intro y0 y1 y2 y3 y4 y5 y6 y7 y8 y9 y10 y11 y12 y13 y14 y15 y16 y17 y18 y19 y20 y21 y22 y23 y24
      unfold r18_One.j0
      repeat' first
      | (with_reducible exact ih0 _ _ _ _ _ _ _ _ _ _ _ _ _ _ _ _ _ _ _ _ _ _ _ _ _)
      | (with_reducible exact ih1 _ _ _ _ _ _ _ _ _ _ _ _ _ _ _ _ _ _ _ _ _ _ _ _ _)
      | (with_reducible exact LeO.refl _)
      | (with_reducible exact LeO.none _)
      | (with_reducible refine LeO.ite ?_ ?_)
      | (with_reducible refine LeO.bind ?_ (fun _ => ?_))
    · intro y0 y1 y2 y3 y4 y5 y6 y7 y8 y9 y10 y11 y12 y13 y14 y15 y16 y17 y18 y19 y20 y21 y22 y23 y24
      unfold r18_One.l0
      repeat' first
      | (with_reducible exact ih0 _ _ _ _ _ _ _ _ _ _ _ _ _ _ _ _ _ _ _ _ _ _ _ _ _)
      | (with_reducible exact ih1 _ _ _ _ _ _ _ _ _ _ _ _ _ _ _ _ _ _ _ _ _ _ _ _ _)
      | (with_reducible exact LeO.refl _)
      | (with_reducible exact LeO.none _)
      | (with_reducible refine LeO.ite ?_ ?_)
      | (with_reducible refine LeO.bind ?_ (fun _ => ?_))
theorem r18_One.mono : ∀ a0 a1 a2 a3 a4 a5 a6 a7 a8 a9 a10 a11 a12 a13 a14 a15 a16 a17 a18 a19 a20 a21 a22 a23 k, LeO (r18_One.f k a0 a1 a2 a3 a4 a5 a6 a7 a8 a9 a10 a11 a12 a13 a14 a15 a16 a17 a18 a19 a20 a21 a22 a23) (r18_One.f (k + 1) a0 a1 a2 a3 a4 a5 a6 a7 a8 a9 a10 a11 a12 a13 a14 a15 a16 a17 a18 a19 a20 a21 a22 a23) := by
  intro a0 a1 a2 a3 a4 a5 a6 a7 a8 a9 a10 a11 a12 a13 a14 a15 a16 a17 a18 a19 a20 a21 a22 a23 k
  obtain ⟨ih0, ih1⟩ := r18_One.mono_l k
  unfold r18_One.f
  repeat' first
      | (with_reducible exact ih0 _ _ _ _ _ _ _ _ _ _ _ _ _ _ _ _ _ _ _ _ _ _ _ _ _)
      | (with_reducible exact ih1 _ _ _ _ _ _ _ _ _ _ _ _ _ _ _ _ _ _ _ _ _ _ _ _ _)
      | (with_reducible exact LeO.refl _)
      | (with_reducible exact LeO.none _)
      | (with_reducible refine LeO.ite ?_ ?_)
      | (with_reducible refine LeO.bind ?_ (fun _ => ?_))
theorem r18_One.calls (k : Nat) (a0_0 : ByteArray) (a0_1 : Bool) (a0_2 : Int) (a0_3 : Int) (a0_4 : Int) (a0_5 : Int) (a0_6 : Int) (a0_7 : Int) (a0_8 : Int) (a0_9 : Bool) (a0_10 : Int) (A0_11 : Option Addr) (c0_11 : Nat) (l0_11 : List (S74)) (a1_0 : ByteArray) (a1_1 : Bool) (a1_2 : Int) (a1_3 : Int) (a1_4 : Int) (a1_5 : Int) (a1_6 : Int) (a1_7 : Int) (a1_8 : Int) (a1_9 : Bool) (a1_10 : Int) (A1_11 : Option Addr) (c1_11 : Nat) (l1_11 : List (S74)) (r : Bool) (w : World) (hr0_11 : Kd.C k74 w A0_11 l0_11.length l0_11) (hc0_11 : l0_11.length ≤ c0_11) (hr1_11 : Kd.C k74 w A1_11 l1_11.length l1_11) (hc1_11 : l1_11.length ≤ c1_11) (h : r18_One.f k a0_0 a0_1 a0_2 a0_3 a0_4 a0_5 a0_6 a0_7 a0_8 a0_9 a0_10 l0_11 a1_0 a1_1 a1_2 a1_3 a1_4 a1_5 a1_6 a1_7 a1_8 a1_9 a1_10 l1_11 = some r) :
 Calls Tryz.prog 16 #[.agg #[.string a0_0, .bool a0_1, .int .u64 a0_2, .int .u64 a0_3, .int .i64 a0_4, .int .i64 a0_5, .int .i64 a0_6, .int .i64 a0_7, .int .i64 a0_8, .bool a0_9, .int .i64 a0_10, .slice A0_11 l0_11.length c0_11], .agg #[.string a1_0, .bool a1_1, .int .u64 a1_2, .int .u64 a1_3, .int .i64 a1_4, .int .i64 a1_5, .int .i64 a1_6, .int .i64 a1_7, .int .i64 a1_8, .bool a1_9, .int .i64 a1_10, .slice A1_11 l1_11.length c1_11]] w fun e w' => e = .returned (.bool r) ∧ Below w.heap.size w w' := by
 have hu36 := Tryz.underlying36
 have hu33 := Tryz.underlying33
 have hu74 := Tryz.underlying74
 have HR0_11 := Aside0.mk hr0_11; have HC0_11 := Aside0.mk hc0_11; clear hr0_11 hc0_11; have HR1_11 := Aside0.mk hr1_11; have HC1_11 := Aside0.mk hc1_11; clear hr1_11 hc1_11; have HB := Aside0.mk (Below.refl w.heap.size w)
 unfold r18_One.f at h; have H := h
 clear h; have HC3 := Aside0.mk H; clear H
 go_enter Tryz.func16, Tryz.ntmps16
 go_upto_region 1 with (first | ((with_reducible refine gate_dst (N := 2) rfl ?_); (try (refine gate_guard (by rfl) ?_; dsimp only)); refine zx 2 #[.string a0_0, .bool a0_1, .int .u64 a0_2, .int .u64 a0_3, .int .i64 a0_4, .int .i64 a0_5, .int .i64 a0_6, .int .i64 a0_7, .int .i64 a0_8, .bool a0_9, .int .i64 a0_10, .slice A0_11 l0_11.length c0_11] 36 ?_; intro gb387 hg w4 hbox hb; have BK387 := Aside0.mk (hbox); have GW387 := zG HB hg; have GE387 := zG HB hg; replace HB := Aside0.mk (below_step (zB HB) hb); clear hb hbox hg) | ((with_reducible refine gate_dst (N := 3) rfl ?_); (try (refine gate_guard (by rfl) ?_; dsimp only)); refine zx 3 #[.string a1_0, .bool a1_1, .int .u64 a1_2, .int .u64 a1_3, .int .i64 a1_4, .int .i64 a1_5, .int .i64 a1_6, .int .i64 a1_7, .int .i64 a1_8, .bool a1_9, .int .i64 a1_10, .slice A1_11 l1_11.length c1_11] 36 ?_; intro gb388 hg w5 hbox hb; have BK388 := Aside0.mk (hbox); have GW388 := zG HB hg; have GE388 := zG HB hg; replace HB := Aside0.mk (below_step (zB HB) hb); have NB387_388 := Aside0.mk ((by rw [hg]; exact Nat.ne_of_lt (blk_lt (g := gb387) (o := .cells #[.string a0_0, .bool a0_1, .int .u64 a0_2, .int .u64 a0_3, .int .i64 a0_4, .int .i64 a0_5, .int .i64 a0_6, .int .i64 a0_7, .int .i64 a0_8, .bool a0_9, .int .i64 a0_10, .slice A0_11 l0_11.length c0_11] 36 (0, 0)) (zK BK387)) : gb387 ≠ gb388)); have NB388_387 := Aside0.mk ((by rw [hg]; exact Nat.ne_of_gt (blk_lt (g := gb387) (o := .cells #[.string a0_0, .bool a0_1, .int .u64 a0_2, .int .u64 a0_3, .int .i64 a0_4, .int .i64 a0_5, .int .i64 a0_6, .int .i64 a0_7, .int .i64 a0_8, .bool a0_9, .int .i64 a0_10, .slice A0_11 l0_11.length c0_11] 36 (0, 0)) (zK BK387)) : gb388 ≠ gb387)); replace BK387 := zkb BK387 hb; clear hb hbox hg))
 repeat (go_quiet (first | ((with_reducible refine gate_dst (N := 2) rfl ?_); (try (refine gate_guard (by rfl) ?_; dsimp only)); refine zx 2 #[.string a0_0, .bool a0_1, .int .u64 a0_2, .int .u64 a0_3, .int .i64 a0_4, .int .i64 a0_5, .int .i64 a0_6, .int .i64 a0_7, .int .i64 a0_8, .bool a0_9, .int .i64 a0_10, .slice A0_11 l0_11.length c0_11] 36 ?_; intro gb387 hg w4 hbox hb; have BK387 := Aside0.mk (hbox); have GW387 := zG HB hg; have GE387 := zG HB hg; replace HB := Aside0.mk (below_step (zB HB) hb); clear hb hbox hg) | ((with_reducible refine gate_dst (N := 3) rfl ?_); (try (refine gate_guard (by rfl) ?_; dsimp only)); refine zx 3 #[.string a1_0, .bool a1_1, .int .u64 a1_2, .int .u64 a1_3, .int .i64 a1_4, .int .i64 a1_5, .int .i64 a1_6, .int .i64 a1_7, .int .i64 a1_8, .bool a1_9, .int .i64 a1_10, .slice A1_11 l1_11.length c1_11] 36 ?_; intro gb388 hg w5 hbox hb; have BK388 := Aside0.mk (hbox); have GW388 := zG HB hg; have GE388 := zG HB hg; replace HB := Aside0.mk (below_step (zB HB) hb); have NB387_388 := Aside0.mk ((by rw [hg]; exact Nat.ne_of_lt (blk_lt (g := gb387) (o := .cells #[.string a0_0, .bool a0_1, .int .u64 a0_2, .int .u64 a0_3, .int .i64 a0_4, .int .i64 a0_5, .int .i64 a0_6, .int .i64 a0_7, .int .i64 a0_8, .bool a0_9, .int .i64 a0_10, .slice A0_11 l0_11.length c0_11] 36 (0, 0)) (zK BK387)) : gb387 ≠ gb388)); have NB388_387 := Aside0.mk ((by rw [hg]; exact Nat.ne_of_gt (blk_lt (g := gb387) (o := .cells #[.string a0_0, .bool a0_1, .int .u64 a0_2, .int .u64 a0_3, .int .i64 a0_4, .int .i64 a0_5, .int .i64 a0_6, .int .i64 a0_7, .int .i64 a0_8, .bool a0_9, .int .i64 a0_10, .slice A0_11 l0_11.length c0_11] 36 (0, 0)) (zK BK387)) : gb388 ≠ gb387)); replace BK387 := zkb BK387 hb; clear hb hbox hg)); go_upto_region 1 with (first | ((with_reducible refine gate_dst (N := 2) rfl ?_); (try (refine gate_guard (by rfl) ?_; dsimp only)); refine zx 2 #[.string a0_0, .bool a0_1, .int .u64 a0_2, .int .u64 a0_3, .int .i64 a0_4, .int .i64 a0_5, .int .i64 a0_6, .int .i64 a0_7, .int .i64 a0_8, .bool a0_9, .int .i64 a0_10, .slice A0_11 l0_11.length c0_11] 36 ?_; intro gb387 hg w4 hbox hb; have BK387 := Aside0.mk (hbox); have GW387 := zG HB hg; have GE387 := zG HB hg; replace HB := Aside0.mk (below_step (zB HB) hb); clear hb hbox hg) | ((with_reducible refine gate_dst (N := 3) rfl ?_); (try (refine gate_guard (by rfl) ?_; dsimp only)); refine zx 3 #[.string a1_0, .bool a1_1, .int .u64 a1_2, .int .u64 a1_3, .int .i64 a1_4, .int .i64 a1_5, .int .i64 a1_6, .int .i64 a1_7, .int .i64 a1_8, .bool a1_9, .int .i64 a1_10, .slice A1_11 l1_11.length c1_11] 36 ?_; intro gb388 hg w5 hbox hb; have BK388 := Aside0.mk (hbox); have GW388 := zG HB hg; have GE388 := zG HB hg; replace HB := Aside0.mk (below_step (zB HB) hb); have NB387_388 := Aside0.mk ((by rw [hg]; exact Nat.ne_of_lt (blk_lt (g := gb387) (o := .cells #[.string a0_0, .bool a0_1, .int .u64 a0_2, .int .u64 a0_3, .int .i64 a0_4, .int .i64 a0_5, .int .i64 a0_6, .int .i64 a0_7, .int .i64 a0_8, .bool a0_9, .int .i64 a0_10, .slice A0_11 l0_11.length c0_11] 36 (0, 0)) (zK BK387)) : gb387 ≠ gb388)); have NB388_387 := Aside0.mk ((by rw [hg]; exact Nat.ne_of_gt (blk_lt (g := gb387) (o := .cells #[.string a0_0, .bool a0_1, .int .u64 a0_2, .int .u64 a0_3, .int .i64 a0_4, .int .i64 a0_5, .int .i64 a0_6, .int .i64 a0_7, .int .i64 a0_8, .bool a0_9, .int .i64 a0_10, .slice A0_11 l0_11.length c0_11] 36 (0, 0)) (zK BK387)) : gb388 ≠ gb387)); replace BK387 := zkb BK387 hb; clear hb hbox hg)))
 (try simp only [Act.put, List.setIfInBounds_toArray, List.set_cons_zero, List.set_cons_succ])
 go_cut [68] (fun v68 wc => ∃ (kq : Nat) (x68_2 : Bool), v68 = .bool x68_2 ∧ Aside0 (r18_One.j0 kq x68_2 a0_0 a0_1 a0_2 a0_3 a0_4 a0_5 a0_6 a0_7 a0_8 a0_9 a0_10 l0_11 a1_0 a1_1 a1_2 a1_3 a1_4 a1_5 a1_6 a1_7 a1_8 a1_9 a1_10 l1_11 = some r) ∧ Aside0 (kq ≤ k) ∧ Aside0 (wc.heap[gb387]? = some (.cells #[.string a0_0, .bool a0_1, .int .u64 a0_2, .int .u64 a0_3, .int .i64 a0_4, .int .i64 a0_5, .int .i64 a0_6, .int .i64 a0_7, .int .i64 a0_8, .bool a0_9, .int .i64 a0_10, (.slice A0_11 l0_11.length c0_11)] 36 (0, 0))) ∧ Aside0 (wc.heap[gb388]? = some (.cells #[.string a1_0, .bool a1_1, .int .u64 a1_2, .int .u64 a1_3, .int .i64 a1_4, .int .i64 a1_5, .int .i64 a1_6, .int .i64 a1_7, .int .i64 a1_8, .bool a1_9, .int .i64 a1_10, (.slice A1_11 l1_11.length c1_11)] 36 (0, 0))) ∧ Aside0 (Below w.heap.size w wc))
 case first =>
  have H := HC3.out
  clear HC3
  by_cases c6 : a0_0.toList = a1_0.toList
  rotate_left
  · rw [if_neg c6] at H
    have c6b0 : (a0_0.toList == a1_0.toList) = false := beq_eq_false_iff_ne.mpr c6
    have c6b1 : (a0_0.toList != a1_0.toList) = true := bne_iff_ne.mpr c6
    (first | rw [c6b0] | (simp only [i64_w, i32_w]; rw [c6b0]) | skip)
    have H' := Aside0.mk H
    clear H
    have hnb38 := NB387_388.out
    have hnc38 := NB388_387.out
    obtain ⟨hcz39_0, hcz39_1, hcz39_2, hcz39_3, hcz39_4, hcz39_5, hcz39_6, hcz39_7, hcz39_8, hcz39_9, hcz39_10, hcz39_11⟩ := zc12 BK387; obtain ⟨hfz39_0, hfz39_1, hfz39_2, hfz39_3, hfz39_4, hfz39_5, hfz39_6, hfz39_7, hfz39_8, hfz39_9, hfz39_10, hfz39_11⟩ := zf12 BK387; obtain ⟨hcz40_0, hcz40_1, hcz40_2, hcz40_3, hcz40_4, hcz40_5, hcz40_6, hcz40_7, hcz40_8, hcz40_9, hcz40_10, hcz40_11⟩ := zc12 BK388; obtain ⟨hfz40_0, hfz40_1, hfz40_2, hfz40_3, hfz40_4, hfz40_5, hfz40_6, hfz40_7, hfz40_8, hfz40_9, hfz40_10, hfz40_11⟩ := zf12 BK388
    go_wp2
    repeat (go_quiet (fail); try go_wp2)
    go_meet
    case rel => exact ⟨_, (true), zI, H', ⟨by first | omega | exact Nat.le_refl _⟩, ⟨zK BK387⟩, ⟨zK BK388⟩, ⟨zB HB⟩⟩
  rw [if_pos c6] at H
  have c6b0 : (a0_0.toList == a1_0.toList) = true := beq_iff_eq.mpr c6; have c6b1 : (a0_0.toList != a1_0.toList) = false := bne_eq_false_iff_eq.mpr c6; clear c6
  (first | rw [c6b0] | (simp only [i64_w, i32_w]; rw [c6b0]) | skip)
  by_cases c7 : ((!(a0_1 == a1_1) || (!(a0_2 == a1_2) || (!(a0_3 == a1_3)))) || (!(a0_4 == a1_4))) = true
  · rw [if_pos c7] at H
    have c7b0 : ((!(a0_1 == a1_1) || (!(a0_2 == a1_2) || (!(a0_3 == a1_3)))) || (!(a0_4 == a1_4))) = true := c7
    clear c7
    have H' := Aside0.mk H
    clear H
    have hnb8 := NB387_388.out
    have hnc8 := NB388_387.out
    obtain ⟨hcz9_0, hcz9_1, hcz9_2, hcz9_3, hcz9_4, hcz9_5, hcz9_6, hcz9_7, hcz9_8, hcz9_9, hcz9_10, hcz9_11⟩ := zc12 BK387; obtain ⟨hfz9_0, hfz9_1, hfz9_2, hfz9_3, hfz9_4, hfz9_5, hfz9_6, hfz9_7, hfz9_8, hfz9_9, hfz9_10, hfz9_11⟩ := zf12 BK387; obtain ⟨hcz10_0, hcz10_1, hcz10_2, hcz10_3, hcz10_4, hcz10_5, hcz10_6, hcz10_7, hcz10_8, hcz10_9, hcz10_10, hcz10_11⟩ := zc12 BK388; obtain ⟨hfz10_0, hfz10_1, hfz10_2, hfz10_3, hfz10_4, hfz10_5, hfz10_6, hfz10_7, hfz10_8, hfz10_9, hfz10_10, hfz10_11⟩ := zf12 BK388
    go_wp2
    repeat (go_quiet (fail); try go_wp2)
    go_meet
    case rel => exact ⟨_, (true), zI, H', ⟨by first | omega | exact Nat.le_refl _⟩, ⟨zK BK387⟩, ⟨zK BK388⟩, ⟨zB HB⟩⟩
  rw [if_neg c7] at H
  have c7b0 : ((!(a0_1 == a1_1) || (!(a0_2 == a1_2) || (!(a0_3 == a1_3)))) || (!(a0_4 == a1_4))) = false := by simpa using c7
  clear c7
  by_cases c11 : a0_5 = a1_5
  rotate_left
  · rw [if_neg c11] at H
    have c11b0 : (a0_5 == a1_5) = false := beq_eq_false_iff_ne.mpr c11
    have c11b1 : (a0_5 != a1_5) = true := bne_iff_ne.mpr c11
    have H' := Aside0.mk H
    clear H
    have hnb35 := NB387_388.out
    have hnc35 := NB388_387.out
    obtain ⟨hcz36_0, hcz36_1, hcz36_2, hcz36_3, hcz36_4, hcz36_5, hcz36_6, hcz36_7, hcz36_8, hcz36_9, hcz36_10, hcz36_11⟩ := zc12 BK387; obtain ⟨hfz36_0, hfz36_1, hfz36_2, hfz36_3, hfz36_4, hfz36_5, hfz36_6, hfz36_7, hfz36_8, hfz36_9, hfz36_10, hfz36_11⟩ := zf12 BK387; obtain ⟨hcz37_0, hcz37_1, hcz37_2, hcz37_3, hcz37_4, hcz37_5, hcz37_6, hcz37_7, hcz37_8, hcz37_9, hcz37_10, hcz37_11⟩ := zc12 BK388; obtain ⟨hfz37_0, hfz37_1, hfz37_2, hfz37_3, hfz37_4, hfz37_5, hfz37_6, hfz37_7, hfz37_8, hfz37_9, hfz37_10, hfz37_11⟩ := zf12 BK388
    go_wp2
    repeat (go_quiet (fail); try go_wp2)
    go_meet
    case rel => exact ⟨_, (true), zI, H', ⟨by first | omega | exact Nat.le_refl _⟩, ⟨zK BK387⟩, ⟨zK BK388⟩, ⟨zB HB⟩⟩
  rw [if_pos c11] at H
  have c11b0 : (a0_5 == a1_5) = true := beq_iff_eq.mpr c11; have c11b1 : (a0_5 != a1_5) = false := bne_eq_false_iff_eq.mpr c11; clear c11
  by_cases c12 : a0_6 = a1_6
  rotate_left
  · rw [if_neg c12] at H
    have c12b0 : (a0_6 == a1_6) = false := beq_eq_false_iff_ne.mpr c12
    have c12b1 : (a0_6 != a1_6) = true := bne_iff_ne.mpr c12
    have H' := Aside0.mk H
    clear H
    have hnb32 := NB387_388.out
    have hnc32 := NB388_387.out
    obtain ⟨hcz33_0, hcz33_1, hcz33_2, hcz33_3, hcz33_4, hcz33_5, hcz33_6, hcz33_7, hcz33_8, hcz33_9, hcz33_10, hcz33_11⟩ := zc12 BK387; obtain ⟨hfz33_0, hfz33_1, hfz33_2, hfz33_3, hfz33_4, hfz33_5, hfz33_6, hfz33_7, hfz33_8, hfz33_9, hfz33_10, hfz33_11⟩ := zf12 BK387; obtain ⟨hcz34_0, hcz34_1, hcz34_2, hcz34_3, hcz34_4, hcz34_5, hcz34_6, hcz34_7, hcz34_8, hcz34_9, hcz34_10, hcz34_11⟩ := zc12 BK388; obtain ⟨hfz34_0, hfz34_1, hfz34_2, hfz34_3, hfz34_4, hfz34_5, hfz34_6, hfz34_7, hfz34_8, hfz34_9, hfz34_10, hfz34_11⟩ := zf12 BK388
    go_wp2
    repeat (go_quiet (fail); try go_wp2)
    go_meet
    case rel => exact ⟨_, (true), zI, H', ⟨by first | omega | exact Nat.le_refl _⟩, ⟨zK BK387⟩, ⟨zK BK388⟩, ⟨zB HB⟩⟩
  rw [if_pos c12] at H
  have c12b0 : (a0_6 == a1_6) = true := beq_iff_eq.mpr c12; have c12b1 : (a0_6 != a1_6) = false := bne_eq_false_iff_eq.mpr c12; clear c12
  by_cases c13 : a0_7 = a1_7
  rotate_left
  · rw [if_neg c13] at H
    have c13b0 : (a0_7 == a1_7) = false := beq_eq_false_iff_ne.mpr c13
    have c13b1 : (a0_7 != a1_7) = true := bne_iff_ne.mpr c13
    have H' := Aside0.mk H
    clear H
    have hnb29 := NB387_388.out
    have hnc29 := NB388_387.out
    obtain ⟨hcz30_0, hcz30_1, hcz30_2, hcz30_3, hcz30_4, hcz30_5, hcz30_6, hcz30_7, hcz30_8, hcz30_9, hcz30_10, hcz30_11⟩ := zc12 BK387; obtain ⟨hfz30_0, hfz30_1, hfz30_2, hfz30_3, hfz30_4, hfz30_5, hfz30_6, hfz30_7, hfz30_8, hfz30_9, hfz30_10, hfz30_11⟩ := zf12 BK387; obtain ⟨hcz31_0, hcz31_1, hcz31_2, hcz31_3, hcz31_4, hcz31_5, hcz31_6, hcz31_7, hcz31_8, hcz31_9, hcz31_10, hcz31_11⟩ := zc12 BK388; obtain ⟨hfz31_0, hfz31_1, hfz31_2, hfz31_3, hfz31_4, hfz31_5, hfz31_6, hfz31_7, hfz31_8, hfz31_9, hfz31_10, hfz31_11⟩ := zf12 BK388
    go_wp2
    repeat (go_quiet (fail); try go_wp2)
    go_meet
    case rel => exact ⟨_, (true), zI, H', ⟨by first | omega | exact Nat.le_refl _⟩, ⟨zK BK387⟩, ⟨zK BK388⟩, ⟨zB HB⟩⟩
  rw [if_pos c13] at H
  have c13b0 : (a0_7 == a1_7) = true := beq_iff_eq.mpr c13; have c13b1 : (a0_7 != a1_7) = false := bne_eq_false_iff_eq.mpr c13; clear c13
  by_cases c14 : a0_8 = a1_8
  rotate_left
  · rw [if_neg c14] at H
    have c14b0 : (a0_8 == a1_8) = false := beq_eq_false_iff_ne.mpr c14
    have c14b1 : (a0_8 != a1_8) = true := bne_iff_ne.mpr c14
    have H' := Aside0.mk H
    clear H
    have hnb26 := NB387_388.out
    have hnc26 := NB388_387.out
    obtain ⟨hcz27_0, hcz27_1, hcz27_2, hcz27_3, hcz27_4, hcz27_5, hcz27_6, hcz27_7, hcz27_8, hcz27_9, hcz27_10, hcz27_11⟩ := zc12 BK387; obtain ⟨hfz27_0, hfz27_1, hfz27_2, hfz27_3, hfz27_4, hfz27_5, hfz27_6, hfz27_7, hfz27_8, hfz27_9, hfz27_10, hfz27_11⟩ := zf12 BK387; obtain ⟨hcz28_0, hcz28_1, hcz28_2, hcz28_3, hcz28_4, hcz28_5, hcz28_6, hcz28_7, hcz28_8, hcz28_9, hcz28_10, hcz28_11⟩ := zc12 BK388; obtain ⟨hfz28_0, hfz28_1, hfz28_2, hfz28_3, hfz28_4, hfz28_5, hfz28_6, hfz28_7, hfz28_8, hfz28_9, hfz28_10, hfz28_11⟩ := zf12 BK388
    go_wp2
    repeat (go_quiet (fail); try go_wp2)
    go_meet
    case rel => exact ⟨_, (true), zI, H', ⟨by first | omega | exact Nat.le_refl _⟩, ⟨zK BK387⟩, ⟨zK BK388⟩, ⟨zB HB⟩⟩
  rw [if_pos c14] at H
  have c14b0 : (a0_8 == a1_8) = true := beq_iff_eq.mpr c14; have c14b1 : (a0_8 != a1_8) = false := bne_eq_false_iff_eq.mpr c14; clear c14
  by_cases c15 : (a0_9 != a1_9) = true
  · rw [if_pos c15] at H
    have c15b0 : (a0_9 != a1_9) = true := c15
    (try (have c15b1 : decide (a0_9 = a1_9) = false := by first | (simpa using c15) | exact decide_eq_true (Decidable.not_not.1 (fun hn => c15 (bne_iff_ne.2 hn))) | exact beq_iff_eq.2 (Decidable.not_not.1 (fun hn => c15 (bne_iff_ne.2 hn))) | exact decide_eq_false (bne_iff_ne.1 c15) | exact beq_eq_false_iff_ne.2 (bne_iff_ne.1 c15) | exact bne_iff_ne.1 c15))
    (try (have c15b2 : (a0_9 == a1_9) = false := by first | (simpa using c15) | exact decide_eq_true (Decidable.not_not.1 (fun hn => c15 (bne_iff_ne.2 hn))) | exact beq_iff_eq.2 (Decidable.not_not.1 (fun hn => c15 (bne_iff_ne.2 hn))) | exact decide_eq_false (bne_iff_ne.1 c15) | exact beq_eq_false_iff_ne.2 (bne_iff_ne.1 c15) | exact bne_iff_ne.1 c15))
    (try (have c15b3 : ¬ (a0_9 = a1_9) := by first | (simpa using c15) | exact decide_eq_true (Decidable.not_not.1 (fun hn => c15 (bne_iff_ne.2 hn))) | exact beq_iff_eq.2 (Decidable.not_not.1 (fun hn => c15 (bne_iff_ne.2 hn))) | exact decide_eq_false (bne_iff_ne.1 c15) | exact beq_eq_false_iff_ne.2 (bne_iff_ne.1 c15) | exact bne_iff_ne.1 c15))
    clear c15
    have H' := Aside0.mk H
    clear H
    have hnb16 := NB387_388.out
    have hnc16 := NB388_387.out
    obtain ⟨hcz17_0, hcz17_1, hcz17_2, hcz17_3, hcz17_4, hcz17_5, hcz17_6, hcz17_7, hcz17_8, hcz17_9, hcz17_10, hcz17_11⟩ := zc12 BK387; obtain ⟨hfz17_0, hfz17_1, hfz17_2, hfz17_3, hfz17_4, hfz17_5, hfz17_6, hfz17_7, hfz17_8, hfz17_9, hfz17_10, hfz17_11⟩ := zf12 BK387; obtain ⟨hcz18_0, hcz18_1, hcz18_2, hcz18_3, hcz18_4, hcz18_5, hcz18_6, hcz18_7, hcz18_8, hcz18_9, hcz18_10, hcz18_11⟩ := zc12 BK388; obtain ⟨hfz18_0, hfz18_1, hfz18_2, hfz18_3, hfz18_4, hfz18_5, hfz18_6, hfz18_7, hfz18_8, hfz18_9, hfz18_10, hfz18_11⟩ := zf12 BK388
    go_wp2
    repeat (go_quiet (fail); try go_wp2)
    go_meet
    case rel => exact ⟨_, (true), zI, H', ⟨by first | omega | exact Nat.le_refl _⟩, ⟨zK BK387⟩, ⟨zK BK388⟩, ⟨zB HB⟩⟩
  rw [if_neg c15] at H
  have c15b0 : (a0_9 != a1_9) = false := by simpa using c15
  (try (have c15b1 : decide (a0_9 = a1_9) = true := by first | (simpa using c15) | exact decide_eq_true (Decidable.not_not.1 (fun hn => c15 (bne_iff_ne.2 hn))) | exact beq_iff_eq.2 (Decidable.not_not.1 (fun hn => c15 (bne_iff_ne.2 hn))) | exact decide_eq_false (bne_iff_ne.1 c15) | exact beq_eq_false_iff_ne.2 (bne_iff_ne.1 c15) | exact bne_iff_ne.1 c15))
  (try (have c15b2 : (a0_9 == a1_9) = true := by first | (simpa using c15) | exact decide_eq_true (Decidable.not_not.1 (fun hn => c15 (bne_iff_ne.2 hn))) | exact beq_iff_eq.2 (Decidable.not_not.1 (fun hn => c15 (bne_iff_ne.2 hn))) | exact decide_eq_false (bne_iff_ne.1 c15) | exact beq_eq_false_iff_ne.2 (bne_iff_ne.1 c15) | exact bne_iff_ne.1 c15))
  clear c15
  by_cases c19 : a0_10 = a1_10
  · rw [if_pos c19] at H
    have c19b0 : (a0_10 == a1_10) = true := beq_iff_eq.mpr c19; have c19b1 : (a0_10 != a1_10) = false := bne_eq_false_iff_eq.mpr c19; clear c19
    have H' := Aside0.mk H
    clear H
    have hnb20 := NB387_388.out
    have hnc20 := NB388_387.out
    obtain ⟨hcz21_0, hcz21_1, hcz21_2, hcz21_3, hcz21_4, hcz21_5, hcz21_6, hcz21_7, hcz21_8, hcz21_9, hcz21_10, hcz21_11⟩ := zc12 BK387; obtain ⟨hfz21_0, hfz21_1, hfz21_2, hfz21_3, hfz21_4, hfz21_5, hfz21_6, hfz21_7, hfz21_8, hfz21_9, hfz21_10, hfz21_11⟩ := zf12 BK387; obtain ⟨hcz22_0, hcz22_1, hcz22_2, hcz22_3, hcz22_4, hcz22_5, hcz22_6, hcz22_7, hcz22_8, hcz22_9, hcz22_10, hcz22_11⟩ := zc12 BK388; obtain ⟨hfz22_0, hfz22_1, hfz22_2, hfz22_3, hfz22_4, hfz22_5, hfz22_6, hfz22_7, hfz22_8, hfz22_9, hfz22_10, hfz22_11⟩ := zf12 BK388
    go_wp2
    repeat (go_quiet (fail); try go_wp2)
    go_meet
    case rel => exact ⟨_, (((l0_11.length : Int) != (l1_11.length : Int))), zI, H', ⟨by first | omega | exact Nat.le_refl _⟩, ⟨zK BK387⟩, ⟨zK BK388⟩, ⟨zB HB⟩⟩
  rw [if_neg c19] at H
  have c19b0 : (a0_10 == a1_10) = false := beq_eq_false_iff_ne.mpr c19
  have c19b1 : (a0_10 != a1_10) = true := bne_iff_ne.mpr c19
  have H' := Aside0.mk H
  clear H
  have hnb23 := NB387_388.out
  have hnc23 := NB388_387.out
  obtain ⟨hcz24_0, hcz24_1, hcz24_2, hcz24_3, hcz24_4, hcz24_5, hcz24_6, hcz24_7, hcz24_8, hcz24_9, hcz24_10, hcz24_11⟩ := zc12 BK387; obtain ⟨hfz24_0, hfz24_1, hfz24_2, hfz24_3, hfz24_4, hfz24_5, hfz24_6, hfz24_7, hfz24_8, hfz24_9, hfz24_10, hfz24_11⟩ := zf12 BK387; obtain ⟨hcz25_0, hcz25_1, hcz25_2, hcz25_3, hcz25_4, hcz25_5, hcz25_6, hcz25_7, hcz25_8, hcz25_9, hcz25_10, hcz25_11⟩ := zc12 BK388; obtain ⟨hfz25_0, hfz25_1, hfz25_2, hfz25_3, hfz25_4, hfz25_5, hfz25_6, hfz25_7, hfz25_8, hfz25_9, hfz25_10, hfz25_11⟩ := zf12 BK388
  go_wp2
  repeat (go_quiet (fail); try go_wp2)
  go_meet
  case rel => exact ⟨_, (true), zI, H', ⟨by first | omega | exact Nat.le_refl _⟩, ⟨zK BK387⟩, ⟨zK BK388⟩, ⟨zB HB⟩⟩
 case rest =>
  clear HC3
  obtain ⟨kq, x68_2, rfl, HA, HJ2, BK387, BK388, HB⟩ := hcut
  rcases kq with _ | kj2
  · exact absurd HA.out (by simp [r18_One.j0])
  have H := HA.out
  clear HA
  simp only [r18_One.j0] at H
  by_cases c41 : x68_2 = true
  · subst c41
    rw [if_pos rfl] at H
    obtain rfl := Option.some.inj H
    go_wp2
    repeat (go_quiet (fail); try go_wp2)
    go_ret
    exact ⟨zr, zB HB⟩
  replace c41 := Bool.eq_false_iff.mpr c41
  subst c41; rw [if_neg zF] at H
  have H' := Aside0.mk H
  clear H
  go_wp2
  repeat (go_quiet (fail); try go_wp2)
  go_loopg [5] kj2 (fun kq v5 w' => ∃ (x5_2 : Int), v5 = .int .i64 x5_2 ∧ Aside0 (r18_One.l0 kq x5_2 a0_0 a0_1 a0_2 a0_3 a0_4 a0_5 a0_6 a0_7 a0_8 a0_9 a0_10 l0_11 a1_0 a1_1 a1_2 a1_3 a1_4 a1_5 a1_6 a1_7 a1_8 a1_9 a1_10 l1_11 = some r) ∧ Aside0 (kq ≤ kj2) ∧ Aside0 (w'.heap[gb387]? = some (.cells #[.string a0_0, .bool a0_1, .int .u64 a0_2, .int .u64 a0_3, .int .i64 a0_4, .int .i64 a0_5, .int .i64 a0_6, .int .i64 a0_7, .int .i64 a0_8, .bool a0_9, .int .i64 a0_10, (.slice A0_11 l0_11.length c0_11)] 36 (0, 0))) ∧ Aside0 (w'.heap[gb388]? = some (.cells #[.string a1_0, .bool a1_1, .int .u64 a1_2, .int .u64 a1_3, .int .i64 a1_4, .int .i64 a1_5, .int .i64 a1_6, .int .i64 a1_7, .int .i64 a1_8, .bool a1_9, .int .i64 a1_10, (.slice A1_11 l1_11.length c1_11)] 36 (0, 0))) ∧ Aside0 (Below w.heap.size w w'))
  case atStart => exact ⟨(0), zI, H', ⟨Nat.le_refl _⟩, ⟨zK BK387⟩, ⟨zK BK388⟩, ⟨zB HB⟩⟩
  case round =>
   clear H'
   try clear c41
   obtain ⟨x5_2, rfl, HA, HK2, BK387, BK388, HB⟩ := hrel
   rcases gk with _ | k2
   · exact absurd HA.out (by simp [r18_One.l0])
   have H := HA.out
   clear HA
   simp only [r18_One.l0] at H
   by_cases c42 : x5_2 < (l0_11.length : Int)
   rotate_left
   · rw [if_neg c42] at H
     have c42b0 : decide (x5_2 < (l0_11.length : Int)) = false := decide_eq_false c42; clear c42
     obtain rfl := Option.some.inj H
     have hnb52 := NB387_388.out
     have hnc52 := NB388_387.out
     obtain ⟨hcz53_0, hcz53_1, hcz53_2, hcz53_3, hcz53_4, hcz53_5, hcz53_6, hcz53_7, hcz53_8, hcz53_9, hcz53_10, hcz53_11⟩ := zc12 BK387; obtain ⟨hfz53_0, hfz53_1, hfz53_2, hfz53_3, hfz53_4, hfz53_5, hfz53_6, hfz53_7, hfz53_8, hfz53_9, hfz53_10, hfz53_11⟩ := zf12 BK387
     go_wp2
     repeat (go_quiet (fail); try go_wp2)
     go_ret
     exact ⟨zr, zB HB⟩
   rw [if_pos c42] at H
   have c42b0 : decide (x5_2 < (l0_11.length : Int)) = true := decide_eq_true c42; clear c42
   by_cases c43 : 0 ≤ x5_2
   rotate_left
   · rw [if_neg c43] at H
     exact absurd H (by simp)
   rw [if_pos c43] at H
   have c43b0 : decide (0 ≤ x5_2) = true := decide_eq_true c43; clear c43
   by_cases c44 : x5_2 < (l1_11.length : Int)
   rotate_left
   · rw [if_neg c44] at H
     exact absurd H (by simp)
   rw [if_pos c44] at H
   have c44b0 : decide (x5_2 < (l1_11.length : Int)) = true := decide_eq_true c44; clear c44
   by_cases c45 : (!(((rd_T74 l0_11 x5_2).f0) == ((rd_T74 l1_11 x5_2).f0)) || (!(((rd_T74 l0_11 x5_2).f1) == ((rd_T74 l1_11 x5_2).f1)) || (!(((rd_T74 l0_11 x5_2).f2) == ((rd_T74 l1_11 x5_2).f2))))) = true
   · rw [if_pos c45] at H
     have c45b0 : (!(((rd_T74 l0_11 x5_2).f0) == ((rd_T74 l1_11 x5_2).f0)) || (!(((rd_T74 l0_11 x5_2).f1) == ((rd_T74 l1_11 x5_2).f1)) || (!(((rd_T74 l0_11 x5_2).f2) == ((rd_T74 l1_11 x5_2).f2))))) = true := c45
     clear c45
     obtain rfl := Option.some.inj H
     have hnb46 := NB387_388.out
     have hnc46 := NB388_387.out
     obtain ⟨hcz47_0, hcz47_1, hcz47_2, hcz47_3, hcz47_4, hcz47_5, hcz47_6, hcz47_7, hcz47_8, hcz47_9, hcz47_10, hcz47_11⟩ := zc12 BK387; obtain ⟨hfz47_0, hfz47_1, hfz47_2, hfz47_3, hfz47_4, hfz47_5, hfz47_6, hfz47_7, hfz47_8, hfz47_9, hfz47_10, hfz47_11⟩ := zf12 BK387
     have p389 : 0 ≤ (x5_2 : Int) := za
     have q389 : x5_2 < (l0_11.length : Int) := za
     obtain ⟨ad389, e389, hx389_0, hx389_1, hx389_2⟩ := at_T74 HR0_11.out x5_2 p389 q389
     cases e389
     replace hx389_0 := zh HB hx389_0; replace hx389_1 := zh HB hx389_1; replace hx389_2 := zh HB hx389_2
     replace p389 := eq_true p389
     replace q389 := eq_true q389
     obtain ⟨hcz48_0, hcz48_1, hcz48_2, hcz48_3, hcz48_4, hcz48_5, hcz48_6, hcz48_7, hcz48_8, hcz48_9, hcz48_10, hcz48_11⟩ := zc12 BK388; obtain ⟨hfz48_0, hfz48_1, hfz48_2, hfz48_3, hfz48_4, hfz48_5, hfz48_6, hfz48_7, hfz48_8, hfz48_9, hfz48_10, hfz48_11⟩ := zf12 BK388
     have p390 : 0 ≤ (x5_2 : Int) := za
     have q390 : x5_2 < (l1_11.length : Int) := za
     obtain ⟨ad390, e390, hx390_0, hx390_1, hx390_2⟩ := at_T74 HR1_11.out x5_2 p390 q390
     cases e390
     replace hx390_0 := zh HB hx390_0; replace hx390_1 := zh HB hx390_1; replace hx390_2 := zh HB hx390_2
     replace p390 := eq_true p390
     replace q390 := eq_true q390
     go_wp2
     repeat (go_quiet (fail); try go_wp2)
     go_ret
     exact ⟨zr, zB HB⟩
   rw [if_neg c45] at H
   have c45b0 : (!(((rd_T74 l0_11 x5_2).f0) == ((rd_T74 l1_11 x5_2).f0)) || (!(((rd_T74 l0_11 x5_2).f1) == ((rd_T74 l1_11 x5_2).f1)) || (!(((rd_T74 l0_11 x5_2).f2) == ((rd_T74 l1_11 x5_2).f2))))) = false := by simpa using c45
   clear c45
   have H' := Aside0.mk H
   clear H
   have hnb49 := NB387_388.out
   have hnc49 := NB388_387.out
   obtain ⟨hcz50_0, hcz50_1, hcz50_2, hcz50_3, hcz50_4, hcz50_5, hcz50_6, hcz50_7, hcz50_8, hcz50_9, hcz50_10, hcz50_11⟩ := zc12 BK387; obtain ⟨hfz50_0, hfz50_1, hfz50_2, hfz50_3, hfz50_4, hfz50_5, hfz50_6, hfz50_7, hfz50_8, hfz50_9, hfz50_10, hfz50_11⟩ := zf12 BK387
   have p389 : 0 ≤ (x5_2 : Int) := za
   have q389 : x5_2 < (l0_11.length : Int) := za
   obtain ⟨ad389, e389, hx389_0, hx389_1, hx389_2⟩ := at_T74 HR0_11.out x5_2 p389 q389
   cases e389
   replace hx389_0 := zh HB hx389_0; replace hx389_1 := zh HB hx389_1; replace hx389_2 := zh HB hx389_2
   replace p389 := eq_true p389
   replace q389 := eq_true q389
   obtain ⟨hcz51_0, hcz51_1, hcz51_2, hcz51_3, hcz51_4, hcz51_5, hcz51_6, hcz51_7, hcz51_8, hcz51_9, hcz51_10, hcz51_11⟩ := zc12 BK388; obtain ⟨hfz51_0, hfz51_1, hfz51_2, hfz51_3, hfz51_4, hfz51_5, hfz51_6, hfz51_7, hfz51_8, hfz51_9, hfz51_10, hfz51_11⟩ := zf12 BK388
   have p390 : 0 ≤ (x5_2 : Int) := za
   have q390 : x5_2 < (l1_11.length : Int) := za
   obtain ⟨ad390, e390, hx390_0, hx390_1, hx390_2⟩ := at_T74 HR1_11.out x5_2 p390 q390
   cases e390
   replace hx390_0 := zh HB hx390_0; replace hx390_1 := zh HB hx390_1; replace hx390_2 := zh HB hx390_2
   replace p390 := eq_true p390
   replace q390 := eq_true q390
   go_wp2
   repeat (go_quiet (fail); try go_wp2)
   go_roundg k2
   case measure => have := HJ2.out; have := HK2.out; omega
   case rel => exact ⟨(wrap64 (x5_2 + 1)), zI, H', ⟨by have := HJ2.out; have := HK2.out; omega⟩, ⟨zK BK387⟩, ⟨zK BK388⟩, ⟨zB HB⟩⟩
end Go.Proofs.YtnphnhkinjppjaaGreatDoor.Q
end

section
set_option maxHeartbeats 8000000
set_option maxRecDepth 100000
namespace Go.Proofs.YtnphnhkinjppjaaGreatDoor.Q
open Go.RowKit Go.Proofs.YtnphnhkinjppjaaGreatDoorW.PrintWords Go.Proofs.YtnphnhkinjppjaaGreatDoorW.PrintLast Go.Proofs.YtnphnhkinjppjaaGreatDoorW.PrintMore
attribute [local go_sem] max2_int min2_int max_two min_two max_three min_three max_four min_four
def r18_Default.f  : Option (ByteArray × Bool × Int × Int × Int × Int × Int × Int × Int × Bool × Int × (List (S74))) := some ((⟨#[100, 101, 102, 97, 117, 108, 116]⟩ : ByteArray), false, 0, 0, 0, 1, 1, 0, 8192, false, 1, ([] : List (S74)))
theorem r18_Default.calls  (r1 : ByteArray) (r2 : Bool) (r3 : Int) (r4 : Int) (r5 : Int) (r6 : Int) (r7 : Int) (r8 : Int) (r9 : Int) (r10 : Bool) (r11 : Int) (r12 : List (S74)) (w : World) (h : r18_Default.f  = some (r1, r2, r3, r4, r5, r6, r7, r8, r9, r10, r11, r12)) :
 Calls Tryz.prog 18 #[] w fun e w' => ∃ v11_ : Value, e = .returned (.agg #[.string r1, .bool r2, .int .u64 r3, .int .u64 r4, .int .i64 r5, .int .i64 r6, .int .i64 r7, .int .i64 r8, .int .i64 r9, .bool r10, .int .i64 r11, v11_]) ∧ Kd.R k74 74 w' w.heap.size (fun _ => True) v11_ r12 ∧ Below w.heap.size w w' := by
 have hu36 := Tryz.underlying36
 have HB := Aside0.mk (Below.refl w.heap.size w)
 unfold r18_Default.f at h; have H := h
 clear h
 simp only [Option.some.injEq, Prod.mk.injEq] at H
 obtain ⟨rfl, rfl, rfl, rfl, rfl, rfl, rfl, rfl, rfl, rfl, rfl, rfl⟩ := H
 go_enter Tryz.func18, Tryz.ntmps18
 go_wp2_with (first | ((with_reducible refine gate_dst (N := 0) rfl ?_); refine zx 0 #[.string (⟨#[]⟩ : ByteArray), .bool false, .int .u64 0, .int .u64 0, .int .i64 0, .int .i64 0, .int .i64 0, .int .i64 0, .int .i64 0, .bool false, .int .i64 0, .slice none 0 0] 36 ?_; intro gb391 hg w1 hbox hb; have BK391 := Aside0.mk (hbox); have GW391 := zG HB hg; have GE391 := zG HB hg; replace HB := Aside0.mk (below_step (zB HB) hb); clear hb hbox hg; obtain ⟨hcz2_0, hcz2_1, hcz2_2, hcz2_3, hcz2_4, hcz2_5, hcz2_6, hcz2_7, hcz2_8, hcz2_9, hcz2_10, hcz2_11⟩ := zc12 BK391; obtain ⟨hfz2_0, hfz2_1, hfz2_2, hfz2_3, hfz2_4, hfz2_5, hfz2_6, hfz2_7, hfz2_8, hfz2_9, hfz2_10, hfz2_11⟩ := zf12 BK391))
 refine bodyPost_ret (results_cell_row rfl _ _ gb391 36 #[.string (⟨#[100, 101, 102, 97, 117, 108, 116]⟩ : ByteArray), .bool false, .int .u64 0, .int .u64 0, .int .i64 0, .int .i64 1, .int .i64 1, .int .i64 0, .int .i64 8192, .bool false, .int .i64 1, .slice none 0 0] (0, 0) _ rfl (by refine zL ?_; refine blk_put (cs := #[.string (⟨#[100, 101, 102, 97, 117, 108, 116]⟩ : ByteArray), .bool false, .int .u64 0, .int .u64 0, .int .i64 0, .int .i64 1, .int .i64 1, .int .i64 0, .int .i64 8192, .bool false, .int .i64 1, .slice none 0 0]) ?_ 11 _ rfl; refine zL ?_; refine blk_put (cs := #[.string (⟨#[100, 101, 102, 97, 117, 108, 116]⟩ : ByteArray), .bool false, .int .u64 0, .int .u64 0, .int .i64 0, .int .i64 1, .int .i64 1, .int .i64 0, .int .i64 8192, .bool false, .int .i64 0, .slice none 0 0]) ?_ 10 _ rfl; refine zL ?_; refine blk_put (cs := #[.string (⟨#[100, 101, 102, 97, 117, 108, 116]⟩ : ByteArray), .bool false, .int .u64 0, .int .u64 0, .int .i64 0, .int .i64 1, .int .i64 1, .int .i64 0, .int .i64 8192, .bool false, .int .i64 0, .slice none 0 0]) ?_ 9 _ rfl; refine zL ?_; refine blk_put (cs := #[.string (⟨#[100, 101, 102, 97, 117, 108, 116]⟩ : ByteArray), .bool false, .int .u64 0, .int .u64 0, .int .i64 0, .int .i64 1, .int .i64 1, .int .i64 0, .int .i64 0, .bool false, .int .i64 0, .slice none 0 0]) ?_ 8 _ rfl; refine zL ?_; refine blk_put (cs := #[.string (⟨#[100, 101, 102, 97, 117, 108, 116]⟩ : ByteArray), .bool false, .int .u64 0, .int .u64 0, .int .i64 0, .int .i64 1, .int .i64 1, .int .i64 0, .int .i64 0, .bool false, .int .i64 0, .slice none 0 0]) ?_ 7 _ rfl; refine zL ?_; refine blk_put (cs := #[.string (⟨#[100, 101, 102, 97, 117, 108, 116]⟩ : ByteArray), .bool false, .int .u64 0, .int .u64 0, .int .i64 0, .int .i64 1, .int .i64 0, .int .i64 0, .int .i64 0, .bool false, .int .i64 0, .slice none 0 0]) ?_ 6 _ rfl; refine zL ?_; refine blk_put (cs := #[.string (⟨#[100, 101, 102, 97, 117, 108, 116]⟩ : ByteArray), .bool false, .int .u64 0, .int .u64 0, .int .i64 0, .int .i64 0, .int .i64 0, .int .i64 0, .int .i64 0, .bool false, .int .i64 0, .slice none 0 0]) ?_ 5 _ rfl; refine zL ?_; refine blk_put (cs := #[.string (⟨#[100, 101, 102, 97, 117, 108, 116]⟩ : ByteArray), .bool false, .int .u64 0, .int .u64 0, .int .i64 0, .int .i64 0, .int .i64 0, .int .i64 0, .int .i64 0, .bool false, .int .i64 0, .slice none 0 0]) ?_ 4 _ rfl; refine zL ?_; refine blk_put (cs := #[.string (⟨#[100, 101, 102, 97, 117, 108, 116]⟩ : ByteArray), .bool false, .int .u64 0, .int .u64 0, .int .i64 0, .int .i64 0, .int .i64 0, .int .i64 0, .int .i64 0, .bool false, .int .i64 0, .slice none 0 0]) ?_ 3 _ rfl; refine zL ?_; refine blk_put (cs := #[.string (⟨#[100, 101, 102, 97, 117, 108, 116]⟩ : ByteArray), .bool false, .int .u64 0, .int .u64 0, .int .i64 0, .int .i64 0, .int .i64 0, .int .i64 0, .int .i64 0, .bool false, .int .i64 0, .slice none 0 0]) ?_ 2 _ rfl; refine zL ?_; refine blk_put (cs := #[.string (⟨#[100, 101, 102, 97, 117, 108, 116]⟩ : ByteArray), .bool false, .int .u64 0, .int .u64 0, .int .i64 0, .int .i64 0, .int .i64 0, .int .i64 0, .int .i64 0, .bool false, .int .i64 0, .slice none 0 0]) ?_ 1 _ rfl; refine zL ?_; refine blk_put (cs := #[.string (⟨#[]⟩ : ByteArray), .bool false, .int .u64 0, .int .u64 0, .int .i64 0, .int .i64 0, .int .i64 0, .int .i64 0, .int .i64 0, .bool false, .int .i64 0, .slice none 0 0]) ?_ 0 _ rfl; refine zL ?_; exact BK391.out) Tryz.underlying36 rfl (by kernel_rfl)) rfl ?_
 exact ⟨_, by first | rfl | (simp [errW_none, errW_some] <;> rfl) | (simp [*, errW_none, errW_some] <;> rfl), by first | exact Kd.R_nil _ _ _ _ _ | exact Kd.N_nil _ _ _ _ _ | exact Kd.V_nil _ _ _ _ _ | exact Kd.Q_nil _ _ _ _ _ | exact Kd.S_nil _ _ _ _ _, by repeat (first | (with_reducible first | exact HB.out | apply below_alloc | apply pw_below_drewN | apply below_drew1 | refine below_set ?_ GE391.out) | exact HB.out)⟩
def asset_App.l0 : Nat → Int → Int → List (S74) → Int → Int → Option (Int)
  | 0, _, _, _, _, _ => none
  | k + 1, x1, x2, x10, x11, x12 => if x12 < x11 then (if 0 ≤ x12 then (if x12 < (x10.length : Int) then (if ((rd_T74 x10 x12).f0) = x1 then (if ((rd_T74 x10 x12).f1) = x2 then (some ((rd_T74 x10 x12).f2)) else (asset_App.l0 k x1 x2 x10 x11 (wrap64 (x12 + 1)))) else (asset_App.l0 k x1 x2 x10 x11 (wrap64 (x12 + 1)))) else (none)) else (none)) else (some 0)
def asset_App.f (k : Nat) (a0_0 : ByteArray) (a0_1 : Bool) (a0_2 : Int) (a0_3 : Int) (a0_4 : Int) (a0_5 : Int) (a0_6 : Int) (a0_7 : Int) (a0_8 : Int) (a0_9 : Bool) (a0_10 : Int) (l0_11 : List (S74)) (a1 : Int) (a2 : Int) : Option (Int) := asset_App.l0 k a1 a2 l0_11 (l0_11.length : Int) 0
theorem asset_App.mono_l : ∀ k, (∀ y0 y1 y2 y3 y4, LeO (asset_App.l0 k y0 y1 y2 y3 y4) (asset_App.l0 (k + 1) y0 y1 y2 y3 y4))
  | 0 => fun _ _ _ _ _ r h => by simp [asset_App.l0] at h
  | k + 1 => by
    have ih0 := asset_App.mono_l k
    · intro y0 y1 y2 y3 y4
      unfold asset_App.l0
      repeat' first
      | (with_reducible exact ih0 _ _ _ _ _)
      | (with_reducible exact LeO.refl _)
      | (with_reducible exact LeO.none _)
      | (with_reducible refine LeO.ite ?_ ?_)
      | (with_reducible refine LeO.bind ?_ (fun _ => ?_))
theorem asset_App.mono : ∀ a0 a1 a2 a3 a4 a5 a6 a7 a8 a9 a10 a11 a12 a13 k, LeO (asset_App.f k a0 a1 a2 a3 a4 a5 a6 a7 a8 a9 a10 a11 a12 a13) (asset_App.f (k + 1) a0 a1 a2 a3 a4 a5 a6 a7 a8 a9 a10 a11 a12 a13) := by
  intro a0 a1 a2 a3 a4 a5 a6 a7 a8 a9 a10 a11 a12 a13 k
  have ih0 := asset_App.mono_l k
  unfold asset_App.f
  repeat' first
      | (with_reducible exact ih0 _ _ _ _ _)
      | (with_reducible exact LeO.refl _)
      | (with_reducible exact LeO.none _)
      | (with_reducible refine LeO.ite ?_ ?_)
      | (with_reducible refine LeO.bind ?_ (fun _ => ?_))
theorem asset_App.calls (k : Nat) (a0_0 : ByteArray) (a0_1 : Bool) (a0_2 : Int) (a0_3 : Int) (a0_4 : Int) (a0_5 : Int) (a0_6 : Int) (a0_7 : Int) (a0_8 : Int) (a0_9 : Bool) (a0_10 : Int) (A0_11 : Option Addr) (c0_11 : Nat) (l0_11 : List (S74)) (a1 : Int) (a2 : Int) (r : Int) (w : World) (hr0_11 : Kd.C k74 w A0_11 l0_11.length l0_11) (hc0_11 : l0_11.length ≤ c0_11) (h : asset_App.f k a0_0 a0_1 a0_2 a0_3 a0_4 a0_5 a0_6 a0_7 a0_8 a0_9 a0_10 l0_11 a1 a2 = some r) :
 Calls Tryz.prog 19 #[.agg #[.string a0_0, .bool a0_1, .int .u64 a0_2, .int .u64 a0_3, .int .i64 a0_4, .int .i64 a0_5, .int .i64 a0_6, .int .i64 a0_7, .int .i64 a0_8, .bool a0_9, .int .i64 a0_10, .slice A0_11 l0_11.length c0_11], .int .i64 a1, .int .i64 a2] w fun e w' => e = .returned (.int .i64 r) ∧ Below w.heap.size w w' := by
 have hu36 := Tryz.underlying36
 have hu74 := Tryz.underlying74
 have HR0_11 := Aside0.mk hr0_11; have HC0_11 := Aside0.mk hc0_11; clear hr0_11 hc0_11; have HB := Aside0.mk (Below.refl w.heap.size w)
 unfold asset_App.f at h; have H := h
 clear h
 have H' := Aside0.mk H
 clear H
 go_enter Tryz.func19, Tryz.ntmps19
 go_wp2_with (first | ((with_reducible refine gate_dst (N := 3) rfl ?_); refine zx 3 #[.string a0_0, .bool a0_1, .int .u64 a0_2, .int .u64 a0_3, .int .i64 a0_4, .int .i64 a0_5, .int .i64 a0_6, .int .i64 a0_7, .int .i64 a0_8, .bool a0_9, .int .i64 a0_10, .slice A0_11 l0_11.length c0_11] 36 ?_; intro gb147 hg w4 hbox hb; have BK147 := Aside0.mk (hbox); have GW147 := zG HB hg; have GE147 := zG HB hg; replace HB := Aside0.mk (below_step (zB HB) hb); clear hb hbox hg; obtain ⟨hcz5_0, hcz5_1, hcz5_2, hcz5_3, hcz5_4, hcz5_5, hcz5_6, hcz5_7, hcz5_8, hcz5_9, hcz5_10, hcz5_11⟩ := zc12 BK147; obtain ⟨hfz5_0, hfz5_1, hfz5_2, hfz5_3, hfz5_4, hfz5_5, hfz5_6, hfz5_7, hfz5_8, hfz5_9, hfz5_10, hfz5_11⟩ := zf12 BK147))
 go_loopg [12] k (fun kq v12 w' => ∃ (x12_1 : Int), v12 = .int .i64 x12_1 ∧ Aside0 (asset_App.l0 kq a1 a2 l0_11 (l0_11.length : Int) x12_1 = some r) ∧ Aside0 (kq ≤ k) ∧ Aside0 (w'.heap[gb147]? = some (.cells #[.string a0_0, .bool a0_1, .int .u64 a0_2, .int .u64 a0_3, .int .i64 a0_4, .int .i64 a0_5, .int .i64 a0_6, .int .i64 a0_7, .int .i64 a0_8, .bool a0_9, .int .i64 a0_10, (.slice A0_11 l0_11.length c0_11)] 36 (0, 0))) ∧ Aside0 (Below w.heap.size w w'))
 case atStart => exact ⟨(0), zI, H', ⟨Nat.le_refl _⟩, ⟨zK BK147⟩, ⟨zB HB⟩⟩
 case round =>
  clear H'
  (try clear hcz5_0 hcz5_1 hcz5_10 hcz5_11 hcz5_2 hcz5_3 hcz5_4 hcz5_5 hcz5_6 hcz5_7 hcz5_8 hcz5_9); (try clear hfz5_0 hfz5_1 hfz5_10 hfz5_11 hfz5_2 hfz5_3 hfz5_4 hfz5_5 hfz5_6 hfz5_7 hfz5_8 hfz5_9)
  obtain ⟨x12_1, rfl, HA, HK1, BK147, HB⟩ := hrel
  rcases gk with _ | k1
  · exact absurd HA.out (by simp [asset_App.l0])
  have H := HA.out
  clear HA
  simp only [asset_App.l0] at H
  by_cases c6 : x12_1 < (l0_11.length : Int)
  rotate_left
  · rw [if_neg c6] at H
    have c6b0 : decide (x12_1 < (l0_11.length : Int)) = false := decide_eq_false c6; clear c6
    obtain rfl := Option.some.inj H
    go_wp2
    go_ret
    exact ⟨zr, zB HB⟩
  rw [if_pos c6] at H
  have c6b0 : decide (x12_1 < (l0_11.length : Int)) = true := decide_eq_true c6; clear c6
  by_cases c7 : 0 ≤ x12_1
  rotate_left
  · rw [if_neg c7] at H
    exact absurd H (by simp)
  rw [if_pos c7] at H
  have c7b0 : decide (0 ≤ x12_1) = true := decide_eq_true c7; clear c7
  by_cases c8 : x12_1 < (l0_11.length : Int)
  rotate_left
  · rw [if_neg c8] at H
    exact absurd H (by simp)
  rw [if_pos c8] at H
  have c8b0 : decide (x12_1 < (l0_11.length : Int)) = true := decide_eq_true c8; clear c8
  by_cases c9 : ((rd_T74 l0_11 x12_1).f0) = a1
  · rw [if_pos c9] at H
    have c9b0 : (((rd_T74 l0_11 x12_1).f0) == a1) = true := beq_iff_eq.mpr c9; have c9b1 : (((rd_T74 l0_11 x12_1).f0) != a1) = false := bne_eq_false_iff_eq.mpr c9; clear c9
    by_cases c10 : ((rd_T74 l0_11 x12_1).f1) = a2
    · rw [if_pos c10] at H
      have c10b0 : (((rd_T74 l0_11 x12_1).f1) == a2) = true := beq_iff_eq.mpr c10; have c10b1 : (((rd_T74 l0_11 x12_1).f1) != a2) = false := bne_eq_false_iff_eq.mpr c10; clear c10
      obtain rfl := Option.some.inj H
      have p148 : 0 ≤ (x12_1 : Int) := za
      have q148 : x12_1 < (l0_11.length : Int) := za
      obtain ⟨ad148, e148, hx148_0, hx148_1, hx148_2⟩ := at_T74 HR0_11.out x12_1 p148 q148
      cases e148
      replace hx148_0 := zh HB hx148_0; replace hx148_1 := zh HB hx148_1; replace hx148_2 := zh HB hx148_2
      replace p148 := eq_true p148
      replace q148 := eq_true q148
      go_wp2_with (first | ((with_reducible refine gate_dst (N := 8) rfl ?_); refine zx 8 #[.int .i64 0, .int .i64 0, .int .i64 0] 74 ?_; intro gb149 hg w11 hbox hb; have BK149 := Aside0.mk (hbox); have GW149 := zG HB hg; have GE149 := zG HB hg; replace HB := Aside0.mk (below_step (zB HB) hb); have NB147_149 := Aside0.mk ((by rw [hg]; exact Nat.ne_of_lt (blk_lt (g := gb147) (o := .cells #[.string a0_0, .bool a0_1, .int .u64 a0_2, .int .u64 a0_3, .int .i64 a0_4, .int .i64 a0_5, .int .i64 a0_6, .int .i64 a0_7, .int .i64 a0_8, .bool a0_9, .int .i64 a0_10, .slice (some ad148) l0_11.length c0_11] 36 (0, 0)) (zK BK147)) : gb147 ≠ gb149)); have NB149_147 := Aside0.mk ((by rw [hg]; exact Nat.ne_of_gt (blk_lt (g := gb147) (o := .cells #[.string a0_0, .bool a0_1, .int .u64 a0_2, .int .u64 a0_3, .int .i64 a0_4, .int .i64 a0_5, .int .i64 a0_6, .int .i64 a0_7, .int .i64 a0_8, .bool a0_9, .int .i64 a0_10, .slice (some ad148) l0_11.length c0_11] 36 (0, 0)) (zK BK147)) : gb149 ≠ gb147)); replace BK147 := zkb BK147 hb; clear hb hbox hg; have hnb12 := NB149_147.out; have hnc12 := NB147_149.out; obtain ⟨hcz13_0, hcz13_1, hcz13_2⟩ := zc3 BK149; obtain ⟨hfz13_0, hfz13_1, hfz13_2⟩ := zf3 BK149))
      go_ret
      exact ⟨zr, zB HB⟩
    rw [if_neg c10] at H
    have c10b0 : (((rd_T74 l0_11 x12_1).f1) == a2) = false := beq_eq_false_iff_ne.mpr c10
    have c10b1 : (((rd_T74 l0_11 x12_1).f1) != a2) = true := bne_iff_ne.mpr c10
    have H' := Aside0.mk H
    clear H
    have p148 : 0 ≤ (x12_1 : Int) := za
    have q148 : x12_1 < (l0_11.length : Int) := za
    obtain ⟨ad148, e148, hx148_0, hx148_1, hx148_2⟩ := at_T74 HR0_11.out x12_1 p148 q148
    cases e148
    replace hx148_0 := zh HB hx148_0; replace hx148_1 := zh HB hx148_1; replace hx148_2 := zh HB hx148_2
    replace p148 := eq_true p148
    replace q148 := eq_true q148
    go_wp2_with (first | ((with_reducible refine gate_dst (N := 8) rfl ?_); refine zx 8 #[.int .i64 0, .int .i64 0, .int .i64 0] 74 ?_; intro gb149 hg w14 hbox hb; have BK149 := Aside0.mk (hbox); have GW149 := zG HB hg; have GE149 := zG HB hg; replace HB := Aside0.mk (below_step (zB HB) hb); have NB147_149 := Aside0.mk ((by rw [hg]; exact Nat.ne_of_lt (blk_lt (g := gb147) (o := .cells #[.string a0_0, .bool a0_1, .int .u64 a0_2, .int .u64 a0_3, .int .i64 a0_4, .int .i64 a0_5, .int .i64 a0_6, .int .i64 a0_7, .int .i64 a0_8, .bool a0_9, .int .i64 a0_10, .slice (some ad148) l0_11.length c0_11] 36 (0, 0)) (zK BK147)) : gb147 ≠ gb149)); have NB149_147 := Aside0.mk ((by rw [hg]; exact Nat.ne_of_gt (blk_lt (g := gb147) (o := .cells #[.string a0_0, .bool a0_1, .int .u64 a0_2, .int .u64 a0_3, .int .i64 a0_4, .int .i64 a0_5, .int .i64 a0_6, .int .i64 a0_7, .int .i64 a0_8, .bool a0_9, .int .i64 a0_10, .slice (some ad148) l0_11.length c0_11] 36 (0, 0)) (zK BK147)) : gb149 ≠ gb147)); replace BK147 := zkb BK147 hb; clear hb hbox hg; have hnb15 := NB149_147.out; have hnc15 := NB147_149.out; obtain ⟨hcz16_0, hcz16_1, hcz16_2⟩ := zc3 BK149; obtain ⟨hfz16_0, hfz16_1, hfz16_2⟩ := zf3 BK149))
    go_roundg k1
    case measure => have := HK1.out; omega
    case rel => exact ⟨(wrap64 (x12_1 + 1)), zI, H', ⟨by have := HK1.out; omega⟩, ⟨by refine zL ?_; refine blk_far ?_ NB147_149.out _; refine zL ?_; refine blk_far ?_ NB147_149.out _; refine zL ?_; refine blk_far ?_ NB147_149.out _; refine zL ?_; exact BK147.out⟩, ⟨zB HB⟩⟩
  rw [if_neg c9] at H
  have c9b0 : (((rd_T74 l0_11 x12_1).f0) == a1) = false := beq_eq_false_iff_ne.mpr c9
  have c9b1 : (((rd_T74 l0_11 x12_1).f0) != a1) = true := bne_iff_ne.mpr c9
  have H' := Aside0.mk H
  clear H
  have p148 : 0 ≤ (x12_1 : Int) := za
  have q148 : x12_1 < (l0_11.length : Int) := za
  obtain ⟨ad148, e148, hx148_0, hx148_1, hx148_2⟩ := at_T74 HR0_11.out x12_1 p148 q148
  cases e148
  replace hx148_0 := zh HB hx148_0; replace hx148_1 := zh HB hx148_1; replace hx148_2 := zh HB hx148_2
  replace p148 := eq_true p148
  replace q148 := eq_true q148
  go_wp2_with (first | ((with_reducible refine gate_dst (N := 8) rfl ?_); refine zx 8 #[.int .i64 0, .int .i64 0, .int .i64 0] 74 ?_; intro gb149 hg w17 hbox hb; have BK149 := Aside0.mk (hbox); have GW149 := zG HB hg; have GE149 := zG HB hg; replace HB := Aside0.mk (below_step (zB HB) hb); have NB147_149 := Aside0.mk ((by rw [hg]; exact Nat.ne_of_lt (blk_lt (g := gb147) (o := .cells #[.string a0_0, .bool a0_1, .int .u64 a0_2, .int .u64 a0_3, .int .i64 a0_4, .int .i64 a0_5, .int .i64 a0_6, .int .i64 a0_7, .int .i64 a0_8, .bool a0_9, .int .i64 a0_10, .slice (some ad148) l0_11.length c0_11] 36 (0, 0)) (zK BK147)) : gb147 ≠ gb149)); have NB149_147 := Aside0.mk ((by rw [hg]; exact Nat.ne_of_gt (blk_lt (g := gb147) (o := .cells #[.string a0_0, .bool a0_1, .int .u64 a0_2, .int .u64 a0_3, .int .i64 a0_4, .int .i64 a0_5, .int .i64 a0_6, .int .i64 a0_7, .int .i64 a0_8, .bool a0_9, .int .i64 a0_10, .slice (some ad148) l0_11.length c0_11] 36 (0, 0)) (zK BK147)) : gb149 ≠ gb147)); replace BK147 := zkb BK147 hb; clear hb hbox hg; have hnb18 := NB149_147.out; have hnc18 := NB147_149.out; obtain ⟨hcz19_0, hcz19_1, hcz19_2⟩ := zc3 BK149; obtain ⟨hfz19_0, hfz19_1, hfz19_2⟩ := zf3 BK149))
  go_roundg k1
  case measure => have := HK1.out; omega
  case rel => exact ⟨(wrap64 (x12_1 + 1)), zI, H', ⟨by have := HK1.out; omega⟩, ⟨by refine zL ?_; refine blk_far ?_ NB147_149.out _; refine zL ?_; refine blk_far ?_ NB147_149.out _; refine zL ?_; refine blk_far ?_ NB147_149.out _; refine zL ?_; exact BK147.out⟩, ⟨zB HB⟩⟩
end Go.Proofs.YtnphnhkinjppjaaGreatDoor.Q
end

section
namespace Go.Proofs.YtnphnhkinjppjaaGreatDoor.Bridge
open Go.RowKit Go.Sort Go.Proofs.YtnphnhkinjppjaaGreatDoorW.PrintWords
variable {α : Type}
theorem chunk_get (k j : Nat) (hk : 0 < k) (a : List Value) (n : Nat) (ha : a.length = n * k) (hj : j < n * k) :
    a[j]? = ((a.drop (j / k * k)).take k)[j % k]? := by
  have h1 : j / k * k + j % k = j := by rw [Nat.mul_comm]; exact Nat.div_add_mod j k
  have h2 : j % k < k := Nat.mod_lt _ hk
  rw [List.getElem?_take, if_pos h2, List.getElem?_drop, h1]
variable [Inhabited α]
theorem reps_flat {enc : α → List Value} {k : Nat} (hk0 : 0 < k) (hk : ∀ x, (enc x).length = k) (l : List α) : Reps (fun p cs => cs = enc p) k l (flatK enc k l.toArray).toList := by
  refine ⟨by simp, fun j p hj => ?_⟩
  obtain ⟨hjl, hp⟩ := List.getElem?_eq_some_iff.1 hj
  have hle : j * k + k ≤ l.length * k := by rw [← Nat.succ_mul]; exact Nat.mul_le_mul_right _ hjl
  apply List.ext_getElem
  · rw [List.length_take, List.length_drop, Array.length_toList, size_flatK, hk]
    simp
    omega
  · intro i h1 h2
    have hi : i < k := by rw [hk] at h2; exact h2
    have e1 : (j * k + i) / k = j := (blk_iff k j _ hk0).1 ⟨by omega, by omega⟩
    have e2 : (j * k + i) % k = i := by rw [Nat.mod_eq_sub_div_mul, e1]; omega
    rw [List.getElem_take, List.getElem_drop, Array.getElem_toList]
    have hlt : j * k + i < l.toArray.size * k := by simp; omega
    have hg := get_flatK enc k l.toArray (j * k + i) hlt
    rw [getElem!_pos (flatK enc k l.toArray) (j * k + i) (by rw [size_flatK]; exact hlt), e1, e2] at hg
    rw [hg]
    have hx : l.toArray[j]! = p := by
      rw [getElem!_pos l.toArray j (by simpa using hjl)]
      simpa using hp
    rw [hx, getElem!_pos (enc p) i h2]
end Go.Proofs.YtnphnhkinjppjaaGreatDoor.Bridge
end

section
namespace Go.Proofs.YtnphnhkinjppjaaGreatDoor.Q
open Go.RowKit Go.Sort Go.Proofs.YtnphnhkinjppjaaGreatDoorW.PrintWords Go.Proofs.YtnphnhkinjppjaaGreatDoorW.PrintLast Go.Proofs.YtnphnhkinjppjaaGreatDoorW.PrintMore
def asset_given.f (l : List (S74)) : Option (List (S74)) := if l.length < 1000000 then some l else none
theorem given_some {l r : List (S74)} (h : asset_given.f l = some r) : l.length < 1000000 ∧ r = l := by
  unfold asset_given.f at h
  split at h
  · rename_i h1; injection h with h; exact ⟨h1, h.symm⟩
  · cases h
structure Given1 (w0 : World) (g n : Nat) (w : World) : Prop where
  base : w0.heap.size ≤ g
  row : ∃ cur, w.heap[g]? = some (.cells cur 74 (0, 0)) ∧ cur.size = n * 3
  bel : Below w0.heap.size w0 w
theorem Given1.drew {w0 w : World} {g n : Nat} (h : Given1 w0 g n w) : Given1 w0 g n w.drew := ⟨h.base, h.row, below_drew1 h.bel⟩
theorem given_make {w0 W : World} {l r : List (S74)} {ops : Array Oper} {rest : List Oper} {o : Oper} {a : Act} {Q : Exit → Act → World → Prop}
    (hg : o.guard = none) (hop : o.op = Op.makeSlice 34 (.tmp 6) (.tmp 6)) (hl : a.eval (.tmp 6) = .int .i64 l.length) (h : asset_given.f l = some r) (hB : Below w0.heap.size w0 W)
    (hK : ∀ g w', Aside0 (Given1 w0 g l.length w') → wpList Tryz.prog ops Q rest (a.put o.dst (.slice (some ⟨g, 0, none⟩) l.length l.length)) w') :
    wpList Tryz.prog ops Q (o :: rest) a W := by
  obtain ⟨hn, rfl⟩ := given_some h
  have h0 : (Tryz.prog.info? 74).isSome = true := by kernel_rfl
  obtain ⟨i, hi⟩ := Option.isSome_iff_exists.1 h0
  have h1 : ((Tryz.prog.info? 74).bind (·.zero)).isSome = true := by kernel_rfl
  have h2 : (Tryz.prog.info? 74).map (·.size) = some 3 := by kernel_rfl
  have h3 : (Tryz.prog.info? 74).map (·.bytes) = some 24 := by kernel_rfl
  rw [hi] at h1 h2 h3
  obtain ⟨z, hz⟩ := Option.isSome_iff_exists.1 h1
  simp only [Option.bind_some, Option.map_some, Option.some.injEq] at hz h2 h3
  refine wpList_make_full W hg _ _ 34 hop w0.heap.size 74 i z 3 Tryz.underlying34 hi hz h2 .i64 .i64 _ _ r.length hl hl rfl rfl (by rw [h3]; omega) (by simp [maxLen]; omega) hB.size ?_
  intro w' ho hgr
  refine hK _ w' ⟨⟨hB.size, ?_, ?_⟩⟩
  · rcases ho.2 with ⟨hx, _⟩ | ⟨g', cap', cur, hx, _, hh, _, _, hcs, _⟩
    · simp at hx
    · simp only [Value.slice.injEq, Option.some.injEq, Addr.mk.injEq, and_true, true_and] at hx
      obtain ⟨hx1, hx2⟩ := hx
      subst hx1
      subst hx2
      exact ⟨cur, hh, hcs⟩
  · exact pw_below_grown hB none hB.size hgr (by intro k hk; cases hk)
theorem run_copy_all {P : Program} (w : World) (dT sT ty elem : TypeId) (sz g n : Nat) (A : Option Addr) (sCap : Nat) (cur : Array Value) (cs : List Value)
    (hu : P.underlying dT = some (.slice elem)) (hs : (P.info? elem).map (·.size) = some sz)
    (hg : w.heap[g]? = some (.cells cur elem (0, 0))) (hn : cs.length = n * sz) (hcur : cur.size = n * sz)
    (hsrc : 0 < n → ∃ a, A = some a ∧ ∀ j v, cs[j]? = some v → w.cell? (a.add j) = some v) (h1 : ∀ v ∈ cs, v.oneCell' = true) :
    (Builtin.copy_ #[dT, sT] ty #[.slice (some ⟨g, 0, none⟩) n n, .slice A n sCap]).run P w = .ok (goInt n) (w.setRow g cs.toArray) := by
  have hst := run_storeCells_at P g 0 elem cs 0 cur w hg (by omega) h1
  have e0 : (cur.toList.take (0 + 0) ++ cs ++ cur.toList.drop (0 + 0 + cs.length)).toArray = cs.toArray := by
    rw [List.drop_of_length_le (by simp; omega)]
    simp
  rw [e0] at hst
  cases hq : P.info? elem with
  | none => simp [hq] at hs
  | some i =>
    have hi : i.size = sz := by simpa [hq] using hs
    cases A with
    | none =>
      have hn0 : n = 0 := by
        rcases Nat.eq_zero_or_pos n with h | h
        · exact h
        · obtain ⟨a, ha, _⟩ := hsrc h; cases ha
      subst hn0
      have hcs : cs = [] := List.eq_nil_of_length_eq_zero (by omega)
      subst hcs
      simp [Builtin.copy_, run_underlying hu, Builtin.lenOf, Builtin.firstCells, sizeOf, typeInfo, hq, storeCells] at hst ⊢
      exact hst
    | some a =>
      have hl : Sem.run P (loadCells a cs.length) w = Result.ok cs.toArray w := by
        apply run_loadCells_list
        rcases Nat.eq_zero_or_pos n with h | h
        · have hcs : cs = [] := List.eq_nil_of_length_eq_zero (by rw [hn, h]; simp)
          subst hcs
          intro j v hv
          simp at hv
        · obtain ⟨a', ha, hx⟩ := hsrc h
          cases ha
          exact hx
      rw [hn] at hl
      have hmin : Nat.min n n = n := Nat.min_self n
      simp [Builtin.copy_, run_underlying hu, Builtin.lenOf, Builtin.firstCells, sizeOf, typeInfo, hq, hi, hmin, hl, hst]
theorem given_copy {w0 W : World} {l r : List (S74)} {A0 : Option Addr} {c0 g : Nat} {ops : Array Oper} {rest : List Oper} {o : Oper} {a : Act} {Q : Exit → Act → World → Prop}
    (hg : o.guard = none) (hop : o.op = Op.call { callee := Callee.builtin Builtin.copy, args := #[.tmp 8, .tmp 10], argTypes := #[34, 34] })
    (h12 : a.eval (.tmp 8) = .slice (some ⟨g, 0, none⟩) l.length l.length) (h13 : a.eval (.tmp 10) = .slice A0 l.length c0) (h : asset_given.f l = some r)
    (hG : Given1 w0 g l.length W) (hR : Kd.C k74 w0 A0 l.length l)
    (hK : ∀ w', Kd.R k74 74 w' w0.heap.size (fun _ => True) (.slice (some ⟨g, 0, none⟩) l.length l.length) r → Below w0.heap.size w0 w' → wpList Tryz.prog ops Q rest (a.put o.dst (.int .i64 l.length)) w') :
    wpList Tryz.prog ops Q (o :: rest) a W := by
  obtain ⟨hn, rfl⟩ := given_some h
  obtain ⟨cur, hcur, hcs⟩ := hG.row
  haveI : Inhabited (S74) := ⟨z74⟩
  have hflat := Bridge.reps_flat (enc := fun x : S74 => [Value.int .i64 x.f0, .int .i64 x.f1, .int .i64 x.f2]) (k := 3) (by decide) (fun _ => rfl) r
  generalize (flatK (fun x : S74 => [Value.int .i64 x.f0, .int .i64 x.f1, .int .i64 x.f2]) 3 r.toArray).toList = cs at hflat
  have hone : ∀ v ∈ cs, v.oneCell' = true := by
    intro v hv
    obtain ⟨j, hj, rfl⟩ := List.getElem_of_mem hv
    have hj2 : j < r.length * 3 := by rw [← hflat.1]; exact hj
    have hc := Bridge.chunk_get 3 j (by decide) cs r.length hflat.1 hj2
    have hjl : j / 3 < r.length := Nat.div_lt_of_lt_mul (by rw [Nat.mul_comm]; exact hj2)
    have h3 := hflat.2 _ _ (List.getElem?_eq_getElem hjl)
    rw [h3, List.getElem?_eq_getElem hj] at hc
    have h4 := List.mem_of_getElem? hc.symm
    simp at h4
    rcases h4 with h4 | h4 | h4 <;> rw [h4] <;> rfl
  have hsrc : 0 < r.length → ∃ ad, A0 = some ad ∧ ∀ j v, cs[j]? = some v → W.cell? (ad.add j) = some v := by
    intro hp
    obtain ⟨ad, rfl, hx⟩ := hR.2.2 hp
    refine ⟨ad, rfl, fun j v hv => ?_⟩
    have hj : j < cs.length := (List.getElem?_eq_some_iff.1 hv).1
    have hj2 : j < r.length * 3 := by rw [← hflat.1]; exact hj
    have hc := Bridge.chunk_get 3 j (by decide) cs r.length hflat.1 hj2
    have hjl : j / 3 < r.length := Nat.div_lt_of_lt_mul (by rw [Nat.mul_comm]; exact hj2)
    have h3 := hflat.2 _ _ (List.getElem?_eq_getElem hjl)
    rw [h3] at hc
    obtain ⟨c, hcl, hk, hcell⟩ := hx _ _ (List.getElem?_eq_getElem hjl)
    have hk2 := k74_open hk
    rw [hk2] at hcell
    have h5 := hcell (j % 3) v (hc.symm.trans hv)
    rw [show j / 3 * k74.sz + j % 3 = j from by show j / 3 * 3 + j % 3 = j; omega] at h5
    exact (hG.bel.cell (World.block_lt_of_cell? _ _ h5)).trans h5
  have hrun := run_copy_all (P := Tryz.prog) W 34 34 o.type 74 3 g r.length A0 c0 cur cs Tryz.underlying34 (by kernel_rfl) hcur (by rw [hflat.1]) hcs hsrc hone
  have hb : Below w0.heap.size w0 (W.setRow g cs.toArray) := pw_below_grown hG.bel (some g) hG.bel.size ⟨rfl, rfl, rfl, by simp, fun k _ hk => setRow_other W g k _ (fun e => hk (by simp [e]))⟩ (by intro k hk; injection hk with hk; rw [← hk]; exact hG.base)
  have hr : Kd.R k74 74 (W.setRow g cs.toArray) w0.heap.size (fun _ => True) (.slice (some ⟨g, 0, none⟩) r.length r.length) r := by
    refine ⟨fun _ _ => trivial, cs, ⟨hflat.1, .inr ⟨g, r.length, cs.toArray, rfl, hG.base, setRow_heap W g cur _ _ _ hcur, Nat.le_refl _, by simp [maxLen]; omega, by show cs.toArray.size = r.length * 3; simp [hflat.1], by rw [List.take_of_length_le (by show cs.toArray.toList.length ≤ r.length * 3; simp [hflat.1])]⟩⟩, ?_⟩
    exact hflat.imp_ (fun p c hp => by rw [hp]; exact k74_mkM _ _ _ _)
  refine wpList_plain hg fun K hK' => ?_
  unfold Oper.wp
  simp [execOp, hop, resolve, invoke, builtin, h12, h13, hrun, Result.andThen]
  exact hK' _ _ (hK _ hr hb)
end Go.Proofs.YtnphnhkinjppjaaGreatDoor.Q
end

section
set_option maxHeartbeats 8000000
set_option maxRecDepth 100000
namespace Go.Proofs.YtnphnhkinjppjaaGreatDoor.Q
open Go.RowKit Go.Proofs.YtnphnhkinjppjaaGreatDoorW.PrintWords Go.Proofs.YtnphnhkinjppjaaGreatDoorW.PrintLast Go.Proofs.YtnphnhkinjppjaaGreatDoorW.PrintMore
abbrev as0 : Array Value := #[.string ⟨#[]⟩, .bool false, .int .u64 0, .int .u64 0, .int .i64 0, .int .i64 0, .int .i64 0, .int .i64 0, .int .i64 0, .bool false, .int .i64 0, .slice none 0 0]
theorem put12 {w : World} {g : Nat} {t : TypeId} {u0 u1 u2 u3 u4 u5 u6 u7 u8 u9 u10 u11 v0 v1 v2 v3 v4 v5 v6 v7 v8 v9 v10 v11 : Value} (h : w.heap[g]? = some (.cells #[u0, u1, u2, u3, u4, u5, u6, u7, u8, u9, u10, u11] t (0, 0))) : ((((((((((((w.setCell ⟨g, 0, none⟩ v0).setCell ⟨g, 1, none⟩ v1).setCell ⟨g, 2, none⟩ v2).setCell ⟨g, 3, none⟩ v3).setCell ⟨g, 4, none⟩ v4).setCell ⟨g, 5, none⟩ v5).setCell ⟨g, 6, none⟩ v6).setCell ⟨g, 7, none⟩ v7).setCell ⟨g, 8, none⟩ v8).setCell ⟨g, 9, none⟩ v9).setCell ⟨g, 10, none⟩ v10).setCell ⟨g, 11, none⟩ v11).heap[g]? = some (.cells #[v0, v1, v2, v3, v4, v5, v6, v7, v8, v9, v10, v11] t (0, 0)) := by
  refine blk_put (cs := #[v0, v1, v2, v3, v4, v5, v6, v7, v8, v9, v10, u11]) ?_ 11 _ rfl
  refine blk_put (cs := #[v0, v1, v2, v3, v4, v5, v6, v7, v8, v9, u10, u11]) ?_ 10 _ rfl
  refine blk_put (cs := #[v0, v1, v2, v3, v4, v5, v6, v7, v8, u9, u10, u11]) ?_ 9 _ rfl
  refine blk_put (cs := #[v0, v1, v2, v3, v4, v5, v6, v7, u8, u9, u10, u11]) ?_ 8 _ rfl
  refine blk_put (cs := #[v0, v1, v2, v3, v4, v5, v6, u7, u8, u9, u10, u11]) ?_ 7 _ rfl
  refine blk_put (cs := #[v0, v1, v2, v3, v4, v5, u6, u7, u8, u9, u10, u11]) ?_ 6 _ rfl
  refine blk_put (cs := #[v0, v1, v2, v3, v4, u5, u6, u7, u8, u9, u10, u11]) ?_ 5 _ rfl
  refine blk_put (cs := #[v0, v1, v2, v3, u4, u5, u6, u7, u8, u9, u10, u11]) ?_ 4 _ rfl
  refine blk_put (cs := #[v0, v1, v2, u3, u4, u5, u6, u7, u8, u9, u10, u11]) ?_ 3 _ rfl
  refine blk_put (cs := #[v0, v1, u2, u3, u4, u5, u6, u7, u8, u9, u10, u11]) ?_ 2 _ rfl
  refine blk_put (cs := #[v0, u1, u2, u3, u4, u5, u6, u7, u8, u9, u10, u11]) ?_ 1 _ rfl
  refine blk_put (cs := #[u0, u1, u2, u3, u4, u5, u6, u7, u8, u9, u10, u11]) ?_ 0 _ rfl
  exact h
theorem below12 {w W : World} {g : Nat} {v0 v1 v2 v3 v4 v5 v6 v7 v8 v9 v10 v11 : Value} (h : Below w.heap.size w W) (hg : w.heap.size ≤ g) : Below w.heap.size w ((((((((((((W.setCell ⟨g, 0, none⟩ v0).setCell ⟨g, 1, none⟩ v1).setCell ⟨g, 2, none⟩ v2).setCell ⟨g, 3, none⟩ v3).setCell ⟨g, 4, none⟩ v4).setCell ⟨g, 5, none⟩ v5).setCell ⟨g, 6, none⟩ v6).setCell ⟨g, 7, none⟩ v7).setCell ⟨g, 8, none⟩ v8).setCell ⟨g, 9, none⟩ v9).setCell ⟨g, 10, none⟩ v10).setCell ⟨g, 11, none⟩ v11) := by
  repeat (refine below_set ?_ hg)
  exact h
theorem putR {w : World} {g B : Nat} {cs : Array Value} {p : Value} {l : List S74} {v0 v1 v2 v3 v4 v5 v6 v7 v8 v9 v10 v11 : Value} (h : w.heap[g]? = some (.cells cs 36 (0, 0))) (hR : Kd.R k74 74 w B (fun _ => True) p l) : Kd.R k74 74 ((((((((((((w.setCell ⟨g, 0, none⟩ v0).setCell ⟨g, 1, none⟩ v1).setCell ⟨g, 2, none⟩ v2).setCell ⟨g, 3, none⟩ v3).setCell ⟨g, 4, none⟩ v4).setCell ⟨g, 5, none⟩ v5).setCell ⟨g, 6, none⟩ v6).setCell ⟨g, 7, none⟩ v7).setCell ⟨g, 8, none⟩ v8).setCell ⟨g, 9, none⟩ v9).setCell ⟨g, 10, none⟩ v10).setCell ⟨g, 11, none⟩ v11) B (fun _ => True) p l := by
  have hd : ∀ q, q ∈ 74 :: (k74).E → q ≠ 36 := by decide
  have R1 := Kd.R_set hR h hd 0 v0
  have h1 := blk_set h 0 v0
  have R2 := Kd.R_set R1 h1 hd 1 v1
  have h2 := blk_set h1 1 v1
  have R3 := Kd.R_set R2 h2 hd 2 v2
  have h3 := blk_set h2 2 v2
  have R4 := Kd.R_set R3 h3 hd 3 v3
  have h4 := blk_set h3 3 v3
  have R5 := Kd.R_set R4 h4 hd 4 v4
  have h5 := blk_set h4 4 v4
  have R6 := Kd.R_set R5 h5 hd 5 v5
  have h6 := blk_set h5 5 v5
  have R7 := Kd.R_set R6 h6 hd 6 v6
  have h7 := blk_set h6 6 v6
  have R8 := Kd.R_set R7 h7 hd 7 v7
  have h8 := blk_set h7 7 v7
  have R9 := Kd.R_set R8 h8 hd 8 v8
  have h9 := blk_set h8 8 v8
  have R10 := Kd.R_set R9 h9 hd 9 v9
  have h10 := blk_set h9 9 v9
  have R11 := Kd.R_set R10 h10 hd 10 v10
  have h11 := blk_set h10 10 v10
  have R12 := Kd.R_set R11 h11 hd 11 v11
  have h12 := blk_set h11 11 v11
  exact R12
theorem clone_walk' (a : S36) (Ab : Option Addr) (cb : Nat) (w : World) (hC : Kd.C k74 w Ab a.f8.length a.f8) (hl : a.f8.length < 1000000) :
    Calls Tryz.prog 52 #[.agg (asC a (.slice Ab a.f8.length cb))] w fun e w' => ∃ g, e = .returned (.agg (asC a (.slice (some ⟨g, 0, none⟩) a.f8.length a.f8.length))) ∧ Kd.R k74 74 w' w.heap.size (fun _ => True) (.slice (some ⟨g, 0, none⟩) a.f8.length a.f8.length) a.f8 ∧ Below w.heap.size w w' := by
  have hu := Tryz.underlying36
  have hu2 := Tryz.underlying33
  have HX : Aside0 ((w.alloc (.cells (asC a (.slice Ab a.f8.length cb)) 36)).heap[w.heap.size]? = some (.cells (asC a (.slice Ab a.f8.length cb)) 36 (0, 0))) := ⟨heap_alloc_new _ _⟩
  have HB := Aside0.mk (below_alloc (Below.refl w.heap.size w) (.cells (asC a (.slice Ab a.f8.length cb)) 36))
  have HC := Aside0.mk (Kd.C_below hC HB.out)
  have HG : Aside0 (asset_given.f a.f8 = some a.f8) := ⟨if_pos hl⟩
  clear hC hl
  go_enter Tryz.func52, Tryz.ntmps52
  go_upto_region 1 with (fail)
  have hsz : (w.alloc (.cells (asC a (.slice Ab a.f8.length cb)) 36)).heap.size = w.heap.size + 1 := by show (w.heap.push _).size = _; rw [Array.size_push]
  have HY : Aside0 (((w.alloc (.cells (asC a (.slice Ab a.f8.length cb)) 36)).alloc (.cells as0 36)).heap[(w.alloc (.cells (asC a (.slice Ab a.f8.length cb)) 36)).heap.size]? = some (.cells as0 36 (0, 0))) := ⟨heap_alloc_new _ _⟩
  replace HX := Aside0.mk (blk_alloc HX.out (.cells as0 36))
  replace HC := Aside0.mk (Kd.C_below HC.out (below_alloc (Below.refl _ _) (.cells as0 36)))
  replace HB := Aside0.mk (below_alloc HB.out (.cells as0 36))
  rw [hsz] at HY
  clear hsz
  have HLT : Aside0 (w.heap.size ≤ w.heap.size ∧ w.heap.size ≤ w.heap.size + 1 ∧ w.heap.size ≠ w.heap.size + 1) := ⟨by omega⟩
  change Code.wp _ _ _ _ ((w.alloc (.cells (asC a (.slice Ab a.f8.length cb)) 36)).alloc (.cells as0 36))
  generalize (w.alloc (.cells (asC a (.slice Ab a.f8.length cb)) 36)).alloc (.cells as0 36) = W1 at HX HY HC HB ⊢
  obtain ⟨B, hBB⟩ : ∃ x, w.heap.size = x := ⟨_, rfl⟩
  obtain ⟨ga, hga⟩ : ∃ x, w.heap.size = x := ⟨_, rfl⟩
  obtain ⟨gr, hgr⟩ : ∃ x, w.heap.size + 1 = x := ⟨_, rfl⟩
  rw [hgr] at HY HLT
  replace HLT : Aside0 (B ≤ ga ∧ B ≤ gr ∧ ga ≠ gr) := ⟨by rw [← hBB, ← hga]; exact HLT.out⟩
  simp only [hgr]
  simp only [hga] at HX HB ⊢
  have HGA := Aside0.mk hga
  have HBR : Aside0 (gr = w.heap.size + 1) := ⟨hgr.symm⟩
  clear hgr hga hBB
  obtain ⟨d0, d1, d2, d3, d4, d5, d6, d7, d8, d9, d10, d11⟩ := zc12 HX
  go_upto_region 3 with (first
    | ((with_reducible refine gate_ (op := Op.makeSlice 34 (.tmp 6) (.tmp 6)) rfl ?_); refine given_make (w0 := W1) (l := a.f8) rfl rfl rfl HG.out (Below.refl _ _) ?_; intro g w3 HG3; have HX3 := Aside0.mk (blk_below HX.out HG3.out.bel); obtain ⟨e0, e1, e2, e3, e4, e5, e6, e7, e8, e9, e10, e11⟩ := zc12 HX3)
    | ((with_reducible refine gate_builtin (b := .copy) (xs := #[.tmp 8, .tmp 10]) rfl ?_); refine given_copy (w0 := W1) (l := a.f8) (A0 := Ab) (c0 := cb) rfl rfl rfl rfl HG.out HG3.out HC.out ?_; intro w4 ho hb; have HO := Aside0.mk ho; have HB4 := Aside0.mk hb; clear ho hb))
  replace HX := Aside0.mk (blk_below HX.out HB4.out)
  replace HY := Aside0.mk (blk_below HY.out HB4.out)
  clear d0 d1 d2 d3 d4 d5 d6 d7 d8 d9 d10 d11 e0 e1 e2 e3 e4 e5 e6 e7 e8 e9 e10 e11 HX3
  obtain ⟨d0, d1, d2, d3, d4, d5, d6, d7, d8, d9, d10, d11⟩ := zc12 HX
  obtain ⟨f0, f1, f2, f3, f4, f5, f6, f7, f8, f9, f10, f11⟩ := zf12 HX
  go_upto_region 4 with (fail)
  have HX5 : Aside0 ((w4.setCell ⟨ga, 11, none⟩ (.slice (some ⟨g, 0, none⟩) a.f8.length a.f8.length)).heap[ga]? = some (.cells (asC a (.slice (some ⟨g, 0, none⟩) a.f8.length a.f8.length)) 36 (0, 0))) := ⟨blk_put HX.out 11 _ rfl⟩
  have HY5 : Aside0 ((w4.setCell ⟨ga, 11, none⟩ (.slice (some ⟨g, 0, none⟩) a.f8.length a.f8.length)).heap[gr]? = some (.cells as0 36 (0, 0))) := ⟨blk_far HY.out (Ne.symm HLT.out.2.2) _⟩
  have HO5 := Aside0.mk (Kd.R_set HO.out HX.out (by decide) 11 (.slice (some ⟨g, 0, none⟩) a.f8.length a.f8.length))
  have HBw : Aside0 (Below w.heap.size w W1) := ⟨by rw [HGA.out]; exact HB.out⟩
  have HG1 : Aside0 (w.heap.size ≤ ga ∧ w.heap.size ≤ gr) := ⟨by have := HGA.out; have := HLT.out; omega, by have := HBR.out; omega⟩
  have HB5 : Aside0 (Below w.heap.size w (w4.setCell ⟨ga, 11, none⟩ (.slice (some ⟨g, 0, none⟩) a.f8.length a.f8.length))) := ⟨below_set (below_then HBw.out HBw.out.size HB4.out) HG1.out.1⟩
  have HSZ := Aside0.mk HBw.out.size
  clear d0 d1 d2 d3 d4 d5 d6 d7 d8 d9 d10 d11 f0 f1 f2 f3 f4 f5 f6 f7 f8 f9 f10 f11 HX HY HO HB4
  generalize w4.setCell ⟨ga, 11, none⟩ (.slice (some ⟨g, 0, none⟩) a.f8.length a.f8.length) = w5 at HX5 HY5 HO5 HB5 ⊢
  obtain ⟨d0, d1, d2, d3, d4, d5, d6, d7, d8, d9, d10, d11⟩ := zc12 HX5
  obtain ⟨f0, f1, f2, f3, f4, f5, f6, f7, f8, f9, f10, f11⟩ := zf12 HY5
  obtain ⟨x0, x1, x2, x3, x4, x5, x6, x7, x8, x9, x10, x11⟩ := zc12 HY5
  go_wp2
  refine bodyPost_ret (results_cell_row rfl _ _ gr 36 (asC a (.slice (some ⟨g, 0, none⟩) a.f8.length a.f8.length)) (0, 0) _ rfl (put12 HY5.out) Tryz.underlying36 rfl (by kernel_rfl)) rfl ?_
  exact ⟨g, rfl, putR HY5.out (Kd.R_lower HO5.out HSZ.out), below12 HB5.out HG1.out.2⟩
def IsCur (w0 W : World) (g : Nat) (L : List (S84)) (i : Int) : Prop := ∃ A0 c0, W.heap[g]? = some (.cells #[.slice A0 L.length c0, .int .i64 i] 105 (0, 0)) ∧ w0.heap.size ≤ g ∧ Kd.C k84 w0 A0 L.length L
theorem IsCur.blk_ {w0 W W1 : World} {g : Nat} {L : List (S84)} {i : Int} (h : IsCur w0 W g L i) (hb : W1.heap[g]? = W.heap[g]?) : IsCur w0 W1 g L i := by
  obtain ⟨A0, c0, h1, h2, h3⟩ := h
  exact ⟨A0, c0, hb.trans h1, h2, h3⟩
theorem IsCur.lt {w0 W : World} {g : Nat} {L : List (S84)} {i : Int} (h : IsCur w0 W g L i) : g < W.heap.size := by
  obtain ⟨A0, c0, h1, h2, h3⟩ := h
  exact blk_lt h1
theorem IsCur.ge {w0 W : World} {g : Nat} {L : List (S84)} {i : Int} (h : IsCur w0 W g L i) : w0.heap.size ≤ g := by
  obtain ⟨A0, c0, h1, h2, h3⟩ := h
  exact h2
theorem IsCur.below {w0 W W1 : World} {g : Nat} {L : List (S84)} {i : Int} (h : IsCur w0 W g L i) (hb : Below W.heap.size W W1) : IsCur w0 W1 g L i := h.blk_ (hb.block g h.lt)
theorem IsCur.alloc {w0 W : World} {g : Nat} {L : List (S84)} {i : Int} (h : IsCur w0 W g L i) (o : Obj) : IsCur w0 (W.alloc o) g L i := h.below (below_alloc (Below.refl _ _) o)
theorem IsCur.far {w0 W : World} {g : Nat} {L : List (S84)} {i : Int} (h : IsCur w0 W g L i) {p : Addr} (hp : p.block ≠ g) (v : Value) : IsCur w0 (W.setCell p v) g L i := h.blk_ (Below.heap_setCell W p v g (Ne.symm hp))
theorem IsCur.set {w0 W : World} {g : Nat} {L : List (S84)} {i : Int} (h : IsCur w0 W g L i) (j : Int) : IsCur w0 (W.setCell ⟨g, 1, none⟩ (.int .i64 j)) g L j := by
  obtain ⟨A0, c0, h1, h2, h3⟩ := h
  exact ⟨A0, c0, by simpa using blk_set h1 1 (.int .i64 j), h2, h3⟩
def tokAt (L : List (S84)) (i : Int) : S84 := rd_T84 L i
abbrev tokV (t : S84) : Value := .agg #[.int .i64 t.f0, .string t.f1, .int .i64 t.f2]
theorem blk3 {w : World} {g : Nat} {L : List (S84)} {i : Int} {w0 : World} (hI : IsCur w0 w g L i) (hB : Below w0.heap.size w0 w) (h0 : 0 ≤ i) (h1 : i < L.length) : ∃ (ad : Addr) (c0 : Nat), ad.block ≠ g ∧ w.cell? ⟨g, 0, none⟩ = some (.slice (some ad) L.length c0) ∧ w.cell? ⟨g, 1, none⟩ = some (.int .i64 i) ∧ w.cell? (ad.add (i.toNat * 3)) = some (.int .i64 (tokAt L i).f0) ∧ w.cell? ⟨(ad.add (i.toNat * 3)).block, (ad.add (i.toNat * 3)).off + 1, none⟩ = some (.string (tokAt L i).f1) ∧ w.cell? ⟨(ad.add (i.toNat * 3)).block, (ad.add (i.toNat * 3)).off + 2, none⟩ = some (.int .i64 (tokAt L i).f2) := by
  obtain ⟨A0, c0, hb, hg, hc⟩ := hI
  obtain ⟨ad, rfl, k0, k1, k2⟩ := at_T84 hc i h0 h1
  refine ⟨ad, c0, ?_, (blk_cell hb 0).trans rfl, (blk_cell hb 1).trans rfl, pw_cell_below hB k0, pw_cell_below hB k1, pw_cell_below hB k2⟩
  have h := World.block_lt_of_cell? w0 _ k0
  rw [add_block] at h
  omega
theorem peek_walk (w0 w : World) (g : Nat) (L : List (S84)) (i : Int) (hI : IsCur w0 w g L i) (hB : Below w0.heap.size w0 w) (h0 : 0 ≤ i) (h1 : i < L.length) :
    Calls Tryz.prog 48 #[.pointer (some ⟨g, 0, none⟩)] w fun e w' => e = .returned (tokV (tokAt L i)) ∧ Below w.heap.size w w' := by
  have hu := Tryz.underlying84
  have hI1 := hI.alloc (.cells #[.int .i64 0, .string ⟨#[]⟩, .int .i64 0] 84)
  obtain ⟨ad, c0, hne0, hc0, hc1, k0, k1, k2⟩ := blk3 hI1 (hB.alloc hB.size _) h0 h1
  have HX : Aside0 ((w.alloc (.cells #[.int .i64 0, .string ⟨#[]⟩, .int .i64 0] 84)).heap[w.heap.size]? = some (.cells #[.int .i64 0, .string ⟨#[]⟩, .int .i64 0] 84 (0, 0))) := ⟨heap_alloc_new _ _⟩
  have HL : Aside0 (Below w.heap.size w (w.alloc (.cells #[.int .i64 0, .string ⟨#[]⟩, .int .i64 0] 84))) := ⟨below_alloc (Below.refl _ _) _⟩
  obtain ⟨n, hn⟩ : ∃ n, L.length = n := ⟨_, rfl⟩
  rw [hn] at hc0 h1
  have hlen : ((n : Int) == 0) = false := beq_eq_false_iff_ne.mpr (by omega)
  have hne : (n = 0) = False := eq_false (by omega)
  have g1 : decide (i < (n : Int)) = true := decide_eq_true h1
  have g0 : decide (0 ≤ i) = true := decide_eq_true h0
  clear hI hB hn hI1
  generalize tokAt L i = t at k0 k1 k2 ⊢
  go_enter Tryz.func48, Tryz.ntmps48
  go_upto_region 1 with (fail)
  obtain ⟨gb, hgb⟩ : ∃ gb, w.heap.size = gb := ⟨_, rfl⟩
  rw [hgb] at HX
  simp only [hgb]
  generalize w.alloc (.cells #[.int .i64 0, .string ⟨#[]⟩, .int .i64 0] 84) = W at HX HL hc0 hc1 k0 k1 k2 ⊢
  go_upto_region 3 with (fail)
  go_still_tail 10, (by kernel_rfl)
  change wpList _ _ _ _ _ W.drew
  have HX2 := Aside0.mk (blk_drew HX.out)
  have HL2 := Aside0.mk (below_drew1 HL.out)
  generalize W.drew = W2 at HX2 HL2 ⊢
  obtain ⟨d0, d1, d2⟩ := zc3 HX2
  obtain ⟨f0, f1, f2⟩ := zf3 HX2
  have hz2 := blk_lt HX2.out
  go_wp2
  have HG : Aside0 (w.heap.size ≤ gb) := ⟨Nat.le_of_eq hgb⟩
  exact bodyPost_ret (v := tokV t) (by simp [results, Tryz.results48, go_sem, d0, d1, d2, hz2]) rfl ⟨rfl, ((HL2.out.setCell HG.out _).setCell HG.out _).setCell HG.out _⟩
theorem keep_below {w W W1 : World} {g : Nat} (h : KeepBut w W g none) (hb : Below W.heap.size W W1) : KeepBut w W1 g none := h.trans (KeepBut.of_below hb g none) (.inl rfl)
theorem keep_new {w W : World} {g : Nat} {p : Addr} (h : KeepBut w W g none) (hp : w.heap.size ≤ p.block) (v : Value) : KeepBut w (W.setCell p v) g none :=
  ⟨by simpa [World.setCell] using h.1, fun k hk hg hr => (Below.heap_setCell W p v k (by omega)).trans (h.2 k hk hg hr)⟩
def nxt (L : List (S84)) (i : Int) : Int := if i < (L.length : Int) - 1 then i + 1 else i
theorem next_walk (w0 w : World) (g : Nat) (L : List (S84)) (i : Int) (hI : IsCur w0 w g L i) (hB : Below w0.heap.size w0 w) (h0 : 0 ≤ i) (h1 : i < L.length) (hL : L.length ≤ 1000000) :
    Calls Tryz.prog 103 #[.pointer (some ⟨g, 0, none⟩)] w fun e w' => e = .returned (tokV (tokAt L i)) ∧ IsCur w0 w' g L (nxt L i) ∧ Below w0.heap.size w0 w' ∧ KeepBut w w' g none := by
  have hu := Tryz.underlying84
  have HI := Aside0.mk (hI.alloc (.cells #[.int .i64 0, .string ⟨#[]⟩, .int .i64 0] 84))
  have HB := Aside0.mk (hB.alloc hB.size (.cells #[.int .i64 0, .string ⟨#[]⟩, .int .i64 0] 84))
  have HK := Aside0.mk (keep_alloc (KeepBut.refl w g none) (.cells #[.int .i64 0, .string ⟨#[]⟩, .int .i64 0] 84))
  have HX : Aside0 ((w.alloc (.cells #[.int .i64 0, .string ⟨#[]⟩, .int .i64 0] 84)).heap[w.heap.size]? = some (.cells #[.int .i64 0, .string ⟨#[]⟩, .int .i64 0] 84 (0, 0))) := ⟨heap_alloc_new _ _⟩
  have HW0 := Aside0.mk hB.size
  have H0 := Aside0.mk h0
  have H1 := Aside0.mk h1
  have HL := Aside0.mk hL
  clear hI hB h0 h1 hL
  go_enter Tryz.func103, Tryz.ntmps103
  go_upto_region 1 with (fail)
  obtain ⟨gb, hgb⟩ : ∃ gb, w.heap.size = gb := ⟨_, rfl⟩
  rw [hgb] at HX
  simp only [hgb]
  generalize w.alloc (.cells #[.int .i64 0, .string ⟨#[]⟩, .int .i64 0] 84) = W at HX HB HI HK ⊢
  go_wp2_with fail
  refine (peek_walk w0 W g L i HI.out HB.out H0.out H1.out).mono ?_
  rintro e w2 ⟨rfl, hb⟩
  replace HI := Aside0.mk (HI.out.below hb)
  replace HX := Aside0.mk (blk_below HX.out hb)
  replace HB := Aside0.mk (below_then HB.out HB.out.size hb)
  replace HK := Aside0.mk (keep_below HK.out hb)
  clear hb
  obtain ⟨t, ht⟩ : ∃ t, tokAt L i = t := ⟨_, rfl⟩
  rw [ht]
  have HV := Aside0.mk ht
  clear ht
  go_upto_region 2 with (fail)
  obtain ⟨gt, hgt⟩ : ∃ gt, w2.heap.size = gt := ⟨_, rfl⟩
  have HT : Aside0 ((w2.alloc (.cells #[.int .i64 t.f0, .string t.f1, .int .i64 t.f2] 84)).heap[w2.heap.size]? = some (.cells #[.int .i64 t.f0, .string t.f1, .int .i64 t.f2] 84 (0, 0))) := ⟨heap_alloc_new _ _⟩
  rw [hgt] at HT
  simp only [hgt]
  have HG : Aside0 (gt ≠ gb) := ⟨by have := blk_lt HX.out; omega⟩
  have HGg : Aside0 (gt ≠ g) := ⟨by have := HI.out.lt; omega⟩
  have HKb : Aside0 (w.heap.size ≤ gb) := ⟨Nat.le_of_eq hgb⟩
  have HGb : Aside0 (w0.heap.size ≤ gb) := ⟨by have := HW0.out; omega⟩
  have HKg : Aside0 (w.heap.size ≤ gt) := ⟨by have := HK.out.1; omega⟩
  replace HI := Aside0.mk (HI.out.alloc (.cells #[.int .i64 t.f0, .string t.f1, .int .i64 t.f2] 84))
  replace HX := Aside0.mk (blk_alloc HX.out (.cells #[.int .i64 t.f0, .string t.f1, .int .i64 t.f2] 84))
  replace HB := Aside0.mk (HB.out.alloc HB.out.size (.cells #[.int .i64 t.f0, .string t.f1, .int .i64 t.f2] 84))
  replace HK := Aside0.mk (keep_alloc HK.out (.cells #[.int .i64 t.f0, .string t.f1, .int .i64 t.f2] 84))
  clear hgt
  generalize w2.alloc (.cells #[.int .i64 t.f0, .string t.f1, .int .i64 t.f2] 84) = W3 at HI HX HB HK HT ⊢
  obtain ⟨ad, c0, hne0, hc0, hc1, _, _, _⟩ := blk3 HI.out HB.out H0.out H1.out
  obtain ⟨n, hn⟩ : ∃ n, L.length = n := ⟨_, rfl⟩
  rw [hn] at hc0
  by_cases hlt : i < (n : Int) - 1
  · have HN : Aside0 (nxt L i = i + 1) := ⟨by unfold nxt; rw [hn, if_pos hlt]⟩
    have g1 : decide (i < (n : Int) - 1) = true := decide_eq_true hlt
    have HL2 : Aside0 (i + 1 ≤ 1000000) := ⟨by have := HL.out; omega⟩
    have b1 : n ≤ 1000000 := by have := HL.out; omega
    have b2 : 1 ≤ n := by have := H0.out; omega
    clear hlt
    go_quiet (fail)
    replace HI : Aside0 (IsCur w0 (W3.drewN nq) g L i) := ⟨HI.out.blk_ rfl⟩
    replace HX : Aside0 ((W3.drewN nq).heap[gb]? = _) := ⟨HX.out⟩
    replace HT : Aside0 ((W3.drewN nq).heap[gt]? = _) := ⟨HT.out⟩
    replace HB : Aside0 (Below w0.heap.size w0 (W3.drewN nq)) := ⟨pw_below_drewN HB.out nq⟩
    replace HK : Aside0 (KeepBut w (W3.drewN nq) g none) := ⟨HK.out⟩
    replace hc1 : (W3.drewN nq).cell? ⟨g, 1, none⟩ = some (.int .i64 i) := hc1
    clear hc0
    generalize W3.drewN nq = W4 at HI HX HT HB HK hc1 ⊢
    have hfz : W4.frozen? ⟨g, 1, none⟩ = false := by obtain ⟨A1, c1, hb, _, _⟩ := HI.out; exact blk_frozen hb 1
    have h0 : 0 ≤ i := H0.out
    have h2 : i + 1 ≤ 1000000 := HL2.out
    have hg0 : (gb = g) = False := eq_false (by have := HI.out.ge; have h3 := HX.out; intro e; subst e; obtain ⟨A1, c1, hb, _, _⟩ := HI.out; rw [hb] at h3; injection h3 with h3; injection h3 with _ h3 _; exact absurd h3 (by decide))
    have hg1 : (gt = g) = False := eq_false HGg.out
    have hg2 : (gt = gb) = False := eq_false HG.out
    have hg3 : (g = gb) = False := eq_false (fun e => absurd e.symm (of_eq_false hg0))
    have hg4 : (g = gt) = False := eq_false (fun e => HGg.out e.symm)
    have hg5 : (gb = gt) = False := eq_false (fun e => HG.out e.symm)
    obtain ⟨d0, d1, d2⟩ := zc3 HX
    obtain ⟨f0, f1, f2⟩ := zf3 HX
    obtain ⟨e0, e1, e2⟩ := zc3 HT
    have hz2 := blk_lt HX.out
    go_wp2
    refine bodyPost_ret (v := tokV t) (by simp [results, Tryz.results103, go_sem, d0, d1, d2, hz2, hg0, hg3]) rfl ⟨by rw [HV.out], by rw [HN.out]; exact (((HI.out.set _).far (of_eq_false hg0) _).far (of_eq_false hg0) _).far (of_eq_false hg0) _, (((HB.out.setCell HI.out.ge _).setCell HGb.out _).setCell HGb.out _).setCell HGb.out _, keep_new (keep_new (keep_new (KeepBut.set_ HK.out 1 _) HKb.out _) HKb.out _) HKb.out _⟩
  · have HN : Aside0 (nxt L i = i) := ⟨by unfold nxt; rw [hn, if_neg hlt]⟩
    have g1 : decide (i < (n : Int) - 1) = false := decide_eq_false hlt
    have HL2 : Aside0 (i + 1 ≤ 1000000) := ⟨by have := HL.out; have := H1.out; omega⟩
    have b1 : n ≤ 1000000 := by have := HL.out; omega
    have b2 : 1 ≤ n := by have := H0.out; have := H1.out; omega
    clear hlt
    go_quiet (fail)
    replace HI : Aside0 (IsCur w0 (W3.drewN nq) g L i) := ⟨HI.out.blk_ rfl⟩
    replace HX : Aside0 ((W3.drewN nq).heap[gb]? = _) := ⟨HX.out⟩
    replace HT : Aside0 ((W3.drewN nq).heap[gt]? = _) := ⟨HT.out⟩
    replace HB : Aside0 (Below w0.heap.size w0 (W3.drewN nq)) := ⟨pw_below_drewN HB.out nq⟩
    replace HK : Aside0 (KeepBut w (W3.drewN nq) g none) := ⟨HK.out⟩
    replace hc1 : (W3.drewN nq).cell? ⟨g, 1, none⟩ = some (.int .i64 i) := hc1
    clear hc0
    generalize W3.drewN nq = W4 at HI HX HT HB HK hc1 ⊢
    have hfz : W4.frozen? ⟨g, 1, none⟩ = false := by obtain ⟨A1, c1, hb, _, _⟩ := HI.out; exact blk_frozen hb 1
    have h0 : 0 ≤ i := H0.out
    have h2 : i + 1 ≤ 1000000 := HL2.out
    have hg0 : (gb = g) = False := eq_false (by have := HI.out.ge; have h3 := HX.out; intro e; subst e; obtain ⟨A1, c1, hb, _, _⟩ := HI.out; rw [hb] at h3; injection h3 with h3; injection h3 with _ h3 _; exact absurd h3 (by decide))
    have hg1 : (gt = g) = False := eq_false HGg.out
    have hg2 : (gt = gb) = False := eq_false HG.out
    have hg3 : (g = gb) = False := eq_false (fun e => absurd e.symm (of_eq_false hg0))
    have hg4 : (g = gt) = False := eq_false (fun e => HGg.out e.symm)
    have hg5 : (gb = gt) = False := eq_false (fun e => HG.out e.symm)
    obtain ⟨d0, d1, d2⟩ := zc3 HX
    obtain ⟨f0, f1, f2⟩ := zf3 HX
    obtain ⟨e0, e1, e2⟩ := zc3 HT
    have hz2 := blk_lt HX.out
    go_wp2
    refine bodyPost_ret (v := tokV t) (by simp [results, Tryz.results103, go_sem, d0, d1, d2, hz2, hg0, hg3]) rfl ⟨by rw [HV.out], by rw [HN.out]; exact ((HI.out.far (of_eq_false hg0) _).far (of_eq_false hg0) _).far (of_eq_false hg0) _, ((HB.out.setCell HGb.out _).setCell HGb.out _).setCell HGb.out _, keep_new (keep_new (keep_new HK.out HKb.out _) HKb.out _) HKb.out _⟩
def isTok (L : List (S84)) (i k : Int) (s : ByteArray) : Bool := (tokAt L i).f0 == k && (tokAt L i).f1.toList == s.toList
def isNx (L : List (S84)) (i k : Int) (s : ByteArray) : Int := if isTok L i k s then nxt L i else i
theorem is_walk (w0 w : World) (g : Nat) (L : List (S84)) (i k : Int) (s : ByteArray) (hI : IsCur w0 w g L i) (hB : Below w0.heap.size w0 w) (h0 : 0 ≤ i) (h1 : i < L.length) (hL : L.length ≤ 1000000) :
    Calls Tryz.prog 107 #[.pointer (some ⟨g, 0, none⟩), .int .i64 k, .string s] w fun e w' => e = .returned (.bool (isTok L i k s)) ∧ IsCur w0 w' g L (isNx L i k s) ∧ Below w0.heap.size w0 w' ∧ KeepBut w w' g none := by
  have hu := Tryz.underlying84
  have HI := Aside0.mk hI
  have HB := Aside0.mk hB
  have HK := Aside0.mk (KeepBut.refl w g none)
  have HW0 := Aside0.mk hB.size
  have H0 := Aside0.mk h0
  have H1 := Aside0.mk h1
  have HL := Aside0.mk hL
  clear hI hB h0 h1 hL
  go_enter Tryz.func107, Tryz.ntmps107
  go_wp2_with fail
  refine (peek_walk w0 w g L i HI.out HB.out H0.out H1.out).mono ?_
  rintro e w2 ⟨rfl, hb⟩
  replace HI := Aside0.mk (HI.out.below hb)
  replace HB := Aside0.mk (below_then HB.out HB.out.size hb)
  replace HK := Aside0.mk (keep_below HK.out hb)
  clear hb
  obtain ⟨t, ht⟩ : ∃ t, tokAt L i = t := ⟨_, rfl⟩
  rw [ht]
  have HV := Aside0.mk ht
  clear ht
  go_upto_region 2 with (fail)
  obtain ⟨gt, hgt⟩ : ∃ gt, w2.heap.size = gt := ⟨_, rfl⟩
  have HT : Aside0 ((w2.alloc (.cells #[.int .i64 t.f0, .string t.f1, .int .i64 t.f2] 84)).heap[w2.heap.size]? = some (.cells #[.int .i64 t.f0, .string t.f1, .int .i64 t.f2] 84 (0, 0))) := ⟨heap_alloc_new _ _⟩
  rw [hgt] at HT
  simp only [hgt]
  replace HI := Aside0.mk (HI.out.alloc (.cells #[.int .i64 t.f0, .string t.f1, .int .i64 t.f2] 84))
  replace HB := Aside0.mk (HB.out.alloc HB.out.size (.cells #[.int .i64 t.f0, .string t.f1, .int .i64 t.f2] 84))
  replace HK := Aside0.mk (keep_alloc HK.out (.cells #[.int .i64 t.f0, .string t.f1, .int .i64 t.f2] 84))
  clear hgt
  generalize w2.alloc (.cells #[.int .i64 t.f0, .string t.f1, .int .i64 t.f2] 84) = W3 at HI HB HK HT ⊢
  obtain ⟨e0, e1, e2⟩ := zc3 HT
  by_cases hk : t.f0 = k
  · by_cases hs : t.f1.toList = s.toList
    · have HN : Aside0 (isTok L i k s = true) := ⟨by unfold isTok; rw [HV.out, hk, hs]; simp⟩
      have HM : Aside0 (isNx L i k s = nxt L i) := ⟨by unfold isNx; rw [HN.out, if_pos rfl]⟩
      have c1 : (t.f0 != k) = false := by rw [hk]; simp
      have c2 : (t.f1.toList == s.toList) = true := beq_iff_eq.mpr hs
      clear hk hs
      go_wp2_with fail
      refine (next_walk w0 W3 g L i HI.out HB.out H0.out H1.out HL.out).mono ?_
      rintro e w4 ⟨rfl, hi4, hb4, hk4⟩
      have HI4 := Aside0.mk hi4
      have HB4 := Aside0.mk hb4
      have HK4 := Aside0.mk (HK.out.trans hk4 (.inl rfl))
      clear hi4 hb4 hk4
      go_wp2
      go_ret
      exact ⟨by rw [HN.out]; rfl, by rw [HM.out]; exact HI4.out, HB4.out, HK4.out⟩
    · have HN : Aside0 (isTok L i k s = false) := ⟨by unfold isTok; rw [HV.out]; simp [hs]⟩
      have HM : Aside0 (isNx L i k s = i) := ⟨by unfold isNx; rw [HN.out]; rfl⟩
      have c1 : (t.f0 != k) = false := by rw [hk]; simp
      have c2 : (t.f1.toList == s.toList) = false := beq_eq_false_iff_ne.mpr hs
      clear hk hs
      go_wp2
      go_ret
      exact ⟨by rw [HN.out]; rfl, by rw [HM.out]; exact HI.out, HB.out, HK.out⟩
  · have HN : Aside0 (isTok L i k s = false) := ⟨by unfold isTok; rw [HV.out]; simp [hk]⟩
    have HM : Aside0 (isNx L i k s = i) := ⟨by unfold isNx; rw [HN.out]; rfl⟩
    have c1 : (t.f0 != k) = true := bne_iff_ne.mpr hk
    clear hk
    go_wp2
    go_ret
    exact ⟨by rw [HN.out]; rfl, by rw [HM.out]; exact HI.out, HB.out, HK.out⟩
theorem mark_walk (w0 w : World) (g : Nat) (L : List (S84)) (i : Int) (s : ByteArray) (hI : IsCur w0 w g L i) (hB : Below w0.heap.size w0 w) (h0 : 0 ≤ i) (h1 : i < L.length) (hL : L.length ≤ 1000000) :
    Calls Tryz.prog 73 #[.pointer (some ⟨g, 0, none⟩), .string s] w fun e w' => e = .returned (.bool (isTok L i 4 s)) ∧ IsCur w0 w' g L (isNx L i 4 s) ∧ Below w0.heap.size w0 w' ∧ KeepBut w w' g none := by
  have HI := Aside0.mk hI
  have HB := Aside0.mk hB
  have H0 := Aside0.mk h0
  have H1 := Aside0.mk h1
  have HL := Aside0.mk hL
  clear hI hB h0 h1 hL
  go_enter Tryz.func73, Tryz.ntmps73
  go_wp2_with fail
  refine (is_walk w0 w g L i 4 s HI.out HB.out H0.out H1.out HL.out).mono ?_
  rintro e w4 ⟨rfl, hi4, hb4, hk4⟩
  have HI4 := Aside0.mk hi4
  have HB4 := Aside0.mk hb4
  have HK4 := Aside0.mk hk4
  clear hi4 hb4 hk4
  go_wp2
  go_ret
  exact ⟨rfl, HI4.out, HB4.out, HK4.out⟩
end Go.Proofs.YtnphnhkinjppjaaGreatDoor.Q
end

section
set_option maxHeartbeats 8000000
set_option maxRecDepth 100000
namespace Go.Proofs.YtnphnhkinjppjaaGreatDoor.Q
open Go.RowKit Go.Proofs.YtnphnhkinjppjaaGreatDoorW.PrintWords Go.Proofs.YtnphnhkinjppjaaGreatDoorW.PrintLast Go.Proofs.YtnphnhkinjppjaaGreatDoorW.PrintMore
attribute [local go_sem] max2_int min2_int max_two min_two max_three min_three max_four min_four
mutual
def lexer_Number.j0 : Nat → ByteArray → Bool → Option (Int × Bool)
  | 0, _, _ => none
  | k + 1, x0, x21 => if x21 = true then (some (0, false)) else (lexer_Number.l0 k x0 0 (x0.size : Int) 0)
def lexer_Number.l0 : Nat → ByteArray → Int → Int → Int → Option (Int × Bool)
  | 0, _, _, _, _ => none
  | k + 1, x0, x4, x23, x24 => if x24 < x23 then (if 0 ≤ x24 then (if x24 < (x0.size : Int) then ((lexer_class.f k (bt x0 x24)).bind fun t257 => (if t257 = 3 then (lexer_Number.l0 k x0 (wrap64 ((wrap64 (x4 * 10)) + (((bt x0 x24) - 48) % 256))) x23 (wrap64 (x24 + 1))) else (some (0, false)))) else (none)) else (none)) else (if x4 ≥ 1099511627776 then (some (0, false)) else (some (x4, true)))
end
def lexer_Number.f (k : Nat) (a0 : ByteArray) : Option (Int × Bool) := if a0.toList = ([] : List UInt8) then (lexer_Number.j0 k a0 true) else (if (a0.size : Int) > 13 then (lexer_Number.j0 k a0 true) else (if 0 < (a0.size : Int) then (if (bt a0 0) = 48 then (lexer_Number.j0 k a0 (a0.toList != ([48] : List UInt8))) else (lexer_Number.j0 k a0 false)) else (none)))
theorem lexer_Number.mono_l : ∀ k, (∀ y0 y1, LeO (lexer_Number.j0 k y0 y1) (lexer_Number.j0 (k + 1) y0 y1)) ∧ (∀ y0 y1 y2 y3, LeO (lexer_Number.l0 k y0 y1 y2 y3) (lexer_Number.l0 (k + 1) y0 y1 y2 y3))
  | 0 => ⟨fun _ _ r h => by simp [lexer_Number.j0] at h, fun _ _ _ _ r h => by simp [lexer_Number.l0] at h⟩
  | k + 1 => by
    obtain ⟨ih0, ih1⟩ := lexer_Number.mono_l k
    refine ⟨?_, ?_⟩
    · intro y0 y1
      unfold lexer_Number.j0
      repeat' first
      | (with_reducible exact ih0 _ _)
      | (with_reducible exact ih1 _ _ _ _)
      | (with_reducible exact lexer_class.mono _ _)
      | (with_reducible exact LeO.refl _)
      | (with_reducible exact LeO.none _)
      | (with_reducible refine LeO.ite ?_ ?_)
      | (with_reducible refine LeO.bind ?_ (fun _ => ?_))
    · intro y0 y1 y2 y3
      unfold lexer_Number.l0
      repeat' first
      | (with_reducible exact ih0 _ _)
      | (with_reducible exact ih1 _ _ _ _)
      | (with_reducible exact lexer_class.mono _ _)
      | (with_reducible exact LeO.refl _)
      | (with_reducible exact LeO.none _)
      | (with_reducible refine LeO.ite ?_ ?_)
      | (with_reducible refine LeO.bind ?_ (fun _ => ?_))
theorem lexer_Number.mono : ∀ a0 k, LeO (lexer_Number.f k a0) (lexer_Number.f (k + 1) a0) := by
  intro a0 k
  obtain ⟨ih0, ih1⟩ := lexer_Number.mono_l k
  unfold lexer_Number.f
  repeat' first
      | (with_reducible exact ih0 _ _)
      | (with_reducible exact ih1 _ _ _ _)
      | (with_reducible exact lexer_class.mono _ _)
      | (with_reducible exact LeO.refl _)
      | (with_reducible exact LeO.none _)
      | (with_reducible refine LeO.ite ?_ ?_)
      | (with_reducible refine LeO.bind ?_ (fun _ => ?_))
theorem lexer_Number.calls (k : Nat) (a0 : ByteArray) (r1 : Int) (r2 : Bool) (w : World) (h : lexer_Number.f k a0 = some (r1, r2)) :
 Calls Tryz.prog 108 #[.string a0] w fun e w' => e = .returned (.tuple #[.int .i64 r1, .bool r2]) ∧ Drawn0 w w' := by
 unfold lexer_Number.f at h; have H := h
 clear h; have HC2 := Aside0.mk H; clear H
 go_enter Tryz.func108, Tryz.ntmps108
 go_upto_region 1 with (fail)
 go_cut [21] (fun v21 wc => ∃ (kq : Nat) (x21_1 : Bool), v21 = .bool x21_1 ∧ Aside0 (lexer_Number.j0 kq a0 x21_1 = some (r1, r2)) ∧ Aside0 (kq ≤ k) ∧ Drawn0 w wc)
 case first =>
  have H := HC2.out
  clear HC2
  by_cases c3 : a0.toList = ([] : List UInt8)
  · rw [if_pos c3] at H
    have c3b0 : (a0.toList == ([] : List UInt8)) = true := beq_iff_eq.mpr c3; have c3b1 : (a0.toList != ([] : List UInt8)) = false := bne_eq_false_iff_eq.mpr c3; clear c3
    (first | rw [c3b0] | (simp only [i64_w, i32_w]; rw [c3b0]) | skip)
    have H' := Aside0.mk H
    clear H
    go_wp2
    go_meet
    case rel => exact ⟨_, (true), zI, H', ⟨by first | omega | exact Nat.le_refl _⟩, by repeat (first | exact Drawn0.refl _ | apply Drawn0.step)⟩
  rw [if_neg c3] at H
  have c3b0 : (a0.toList == ([] : List UInt8)) = false := beq_eq_false_iff_ne.mpr c3
  have c3b1 : (a0.toList != ([] : List UInt8)) = true := bne_iff_ne.mpr c3
  (first | rw [c3b0] | (simp only [i64_w, i32_w]; rw [c3b0]) | skip)
  by_cases c4 : (a0.size : Int) > 13
  · rw [if_pos c4] at H
    have c4b0 : decide (13 < (a0.size : Int)) = true := decide_eq_true c4
    have c4b1 : decide (13 < a0.size) = true := decide_eq_true (by omega)
    clear c4
    have H' := Aside0.mk H
    clear H
    go_wp2
    go_meet
    case rel => exact ⟨_, (true), zI, H', ⟨by first | omega | exact Nat.le_refl _⟩, by repeat (first | exact Drawn0.refl _ | apply Drawn0.step)⟩
  rw [if_neg c4] at H; have c4b0 : decide (13 < (a0.size : Int)) = false := decide_eq_false c4
  have c4b1 : decide (13 < a0.size) = false := decide_eq_false (by omega)
  clear c4
  by_cases c5 : 0 < (a0.size : Int)
  rotate_left
  · rw [if_neg c5] at H
    exact absurd H (by simp)
  rw [if_pos c5] at H; have c5b0 : decide (0 < (a0.size : Int)) = true := decide_eq_true c5
  have c5b1 : decide (0 < a0.size) = true := decide_eq_true (by omega)
  clear c5
  by_cases c7 : (bt a0 0) = 48
  · rw [if_pos c7] at H
    have c7b0 : ((bt a0 0) == 48) = true := beq_iff_eq.mpr c7; have c7b1 : ((bt a0 0) != 48) = false := bne_eq_false_iff_eq.mpr c7; clear c7
    have H' := Aside0.mk H
    clear H
    have p6 : 0 ≤ (0 : Int) := (by omega)
    have q6 : 0 < a0.size := (by have : (0 : Int) < (a0.size : Int) := za; omega)
    have hx6 : ∀ h : 0 < a0.size, ((a0[0]'h).toNat : Int) = bt a0 0 := bt_at a0 0
    clear p6
    have qi6 : (0 < (a0.size : Int)) = True := eq_true (of_decide_eq_true (by first | (with_reducible assumption) | assumption))
    replace q6 := eq_true q6
    go_wp2
    go_meet
    case rel => exact ⟨_, ((a0.toList != ([48] : List UInt8))), zI, H', ⟨by first | omega | exact Nat.le_refl _⟩, by repeat (first | exact Drawn0.refl _ | apply Drawn0.step)⟩
  rw [if_neg c7] at H
  have c7b0 : ((bt a0 0) == 48) = false := beq_eq_false_iff_ne.mpr c7
  have c7b1 : ((bt a0 0) != 48) = true := bne_iff_ne.mpr c7
  have H' := Aside0.mk H
  clear H
  have p6 : 0 ≤ (0 : Int) := (by omega)
  have q6 : 0 < a0.size := (by have : (0 : Int) < (a0.size : Int) := za; omega)
  have hx6 : ∀ h : 0 < a0.size, ((a0[0]'h).toNat : Int) = bt a0 0 := bt_at a0 0
  clear p6
  have qi6 : (0 < (a0.size : Int)) = True := eq_true (of_decide_eq_true (by first | (with_reducible assumption) | assumption))
  replace q6 := eq_true q6
  go_wp2
  go_meet
  case rel => exact ⟨_, (false), zI, H', ⟨by first | omega | exact Nat.le_refl _⟩, by repeat (first | exact Drawn0.refl _ | apply Drawn0.step)⟩
 case rest =>
  clear HC2
  obtain ⟨kq, x21_1, rfl, HA, HJ1, ⟨mc1, rfl⟩⟩ := hcut
  rcases kq with _ | kj1
  · exact absurd HA.out (by simp [lexer_Number.j0])
  have H := HA.out
  clear HA
  simp only [lexer_Number.j0] at H
  by_cases c8 : x21_1 = true
  · subst c8
    rw [if_pos rfl] at H
    simp only [Option.some.injEq, Prod.mk.injEq] at H
    obtain ⟨rfl, rfl⟩ := H
    go_wp2
    go_ret2
    exact ⟨by first | rfl | (simp; done) | (simp [*]; done), by repeat (first | exact Drawn0.refl _ | apply Drawn0.step)⟩
  replace c8 := Bool.eq_false_iff.mpr c8
  subst c8; rw [if_neg zF] at H
  have H' := Aside0.mk H
  clear H
  go_wp2
  go_loopg [4, 24] kj1 (fun kq v4 v24 w' => ∃ (x4_2 : Int) (x24_2 : Int), v4 = .int .i64 x4_2 ∧ v24 = .int .i64 x24_2 ∧ Aside0 (lexer_Number.l0 kq a0 x4_2 (a0.size : Int) x24_2 = some (r1, r2)) ∧ Aside0 (kq ≤ kj1) ∧ Drawn0 w w')
  case atStart => exact ⟨(0), (0), zI, zI, H', ⟨Nat.le_refl _⟩, by repeat (first | exact Drawn0.refl _ | apply Drawn0.step)⟩
  case round =>
   clear H'
   try clear c8
   obtain ⟨x4_2, x24_2, rfl, rfl, HA, HK2, ⟨m2, rfl⟩⟩ := hrel
   rcases gk with _ | k2
   · exact absurd HA.out (by simp [lexer_Number.l0])
   have H := HA.out
   clear HA
   simp only [lexer_Number.l0] at H
   by_cases c9 : x24_2 < (a0.size : Int)
   rotate_left
   · rw [if_neg c9] at H
     have c9b0 : decide (x24_2 < (a0.size : Int)) = false := decide_eq_false c9; clear c9
     by_cases c16 : x4_2 ≥ 1099511627776
     · rw [if_pos c16] at H
       have c16b0 : decide (1099511627776 ≤ x4_2) = true := decide_eq_true c16; clear c16
       simp only [Option.some.injEq, Prod.mk.injEq] at H
       obtain ⟨rfl, rfl⟩ := H
       go_wp2
       go_ret2
       exact ⟨by first | rfl | (simp; done) | (simp [*]; done), by repeat (first | exact Drawn0.refl _ | apply Drawn0.step)⟩
     rw [if_neg c16] at H
     have c16b0 : decide (1099511627776 ≤ x4_2) = false := decide_eq_false c16; clear c16
     simp only [Option.some.injEq, Prod.mk.injEq] at H
     obtain ⟨rfl, rfl⟩ := H
     go_wp2
     go_ret2
     exact ⟨by first | rfl | (simp; done) | (simp [*]; done), by repeat (first | exact Drawn0.refl _ | apply Drawn0.step)⟩
   rw [if_pos c9] at H
   have c9b0 : decide (x24_2 < (a0.size : Int)) = true := decide_eq_true c9; clear c9
   by_cases c10 : 0 ≤ x24_2
   rotate_left
   · rw [if_neg c10] at H
     exact absurd H (by simp)
   rw [if_pos c10] at H
   have c10b0 : decide (0 ≤ x24_2) = true := decide_eq_true c10; clear c10
   by_cases c11 : x24_2 < (a0.size : Int)
   rotate_left
   · rw [if_neg c11] at H
     exact absurd H (by simp)
   rw [if_pos c11] at H
   have c11b0 : decide (x24_2 < (a0.size : Int)) = true := decide_eq_true c11; clear c11
   replace H := Option.bind_eq_some_iff.mp H
   obtain ⟨t257, A130, H⟩ := H
   replace H : (if t257 = 3 then (lexer_Number.l0 k2 a0 (wrap64 ((wrap64 (x4_2 * 10)) + (((bt a0 x24_2) - 48) % 256))) (a0.size : Int) (wrap64 (x24_2 + 1))) else (some (0, false))) = some (r1, r2) := H
   have A13 := Aside0.mk A130; clear A130
   by_cases c14 : t257 = 3
   · rw [if_pos c14] at H
     have c14b0 : (t257 == 3) = true := beq_iff_eq.mpr c14; have c14b1 : (t257 != 3) = false := bne_eq_false_iff_eq.mpr c14; clear c14
     have H' := Aside0.mk H
     clear H
     have p12 : 0 ≤ (x24_2 : Int) := za
     have q12 : x24_2 < (a0.size : Int) := za
     have hx12 := bt_at a0 x24_2
     replace p12 := eq_true p12
     replace q12 := eq_true q12
     go_wp2_with (first | ((with_reducible refine gate_callee (f := 88) rfl ?_); refine zgl 30 Tryz.func88 #[.int .u8 (bt a0 x24_2)] ?_; (with_reducible refine (lexer_class.calls k2 (bt a0 x24_2) t257 _ A13.out).mono ?_); rintro e w' ⟨rfl, ⟨nd, rfl⟩⟩; refine ⟨_, rfl, ?_⟩; have p15 : 0 ≤ (x24_2 : Int) := za; have q15 : x24_2 < (a0.size : Int) := za; have hx15 := bt_at a0 x24_2; replace p15 := eq_true p15; replace q15 := eq_true q15))
     go_roundg k2
     case measure => have := HJ1.out; have := HK2.out; omega
     case rel => exact ⟨(wrap64 ((wrap64 (x4_2 * 10)) + (((bt a0 x24_2) - 48) % 256))), (wrap64 (x24_2 + 1)), zI, zI, H', ⟨by have := HJ1.out; have := HK2.out; omega⟩, by repeat (first | exact Drawn0.refl _ | apply Drawn0.step)⟩
   rw [if_neg c14] at H
   have c14b0 : (t257 == 3) = false := beq_eq_false_iff_ne.mpr c14
   have c14b1 : (t257 != 3) = true := bne_iff_ne.mpr c14
   simp only [Option.some.injEq, Prod.mk.injEq] at H
   obtain ⟨rfl, rfl⟩ := H
   have p12 : 0 ≤ (x24_2 : Int) := za
   have q12 : x24_2 < (a0.size : Int) := za
   have hx12 := bt_at a0 x24_2
   replace p12 := eq_true p12
   replace q12 := eq_true q12
   go_wp2_with (first | ((with_reducible refine gate_callee (f := 88) rfl ?_); refine zgl 30 Tryz.func88 #[.int .u8 (bt a0 x24_2)] ?_; (with_reducible refine (lexer_class.calls k2 (bt a0 x24_2) t257 _ A13.out).mono ?_); rintro e w' ⟨rfl, ⟨nd, rfl⟩⟩; refine ⟨_, rfl, ?_⟩))
   go_ret2
   exact ⟨by first | rfl | (simp; done) | (simp [*]; done), by repeat (first | exact Drawn0.refl _ | apply Drawn0.step)⟩
def slices_Index_string.l0 : Nat → List ByteArray → ByteArray → Int → Int → Option (Int)
  | 0, _, _, _, _ => none
  | k + 1, x0, x1, x7, x8 => if x8 < x7 then (if 0 ≤ x8 then (if x8 < (x0.length : Int) then (if x1.toList = (rdOf ByteArray.empty x0 x8).toList then (some x8) else (slices_Index_string.l0 k x0 x1 x7 (wrap64 (x8 + 1)))) else (none)) else (none)) else (some (-1))
def slices_Index_string.f (k : Nat) (l0 : List ByteArray) (a1 : ByteArray) : Option (Int) := slices_Index_string.l0 k l0 a1 (l0.length : Int) 0
theorem slices_Index_string.mono_l : ∀ k, (∀ y0 y1 y2 y3, LeO (slices_Index_string.l0 k y0 y1 y2 y3) (slices_Index_string.l0 (k + 1) y0 y1 y2 y3))
  | 0 => fun _ _ _ _ r h => by simp [slices_Index_string.l0] at h
  | k + 1 => by
    have ih0 := slices_Index_string.mono_l k
    · intro y0 y1 y2 y3
      unfold slices_Index_string.l0
      repeat' first
      | (with_reducible exact ih0 _ _ _ _)
      | (with_reducible exact LeO.refl _)
      | (with_reducible exact LeO.none _)
      | (with_reducible refine LeO.ite ?_ ?_)
      | (with_reducible refine LeO.bind ?_ (fun _ => ?_))
theorem slices_Index_string.mono : ∀ a0 a1 k, LeO (slices_Index_string.f k a0 a1) (slices_Index_string.f (k + 1) a0 a1) := by
  intro a0 a1 k
  have ih0 := slices_Index_string.mono_l k
  unfold slices_Index_string.f
  repeat' first
      | (with_reducible exact ih0 _ _ _ _)
      | (with_reducible exact LeO.refl _)
      | (with_reducible exact LeO.none _)
      | (with_reducible refine LeO.ite ?_ ?_)
      | (with_reducible refine LeO.bind ?_ (fun _ => ?_))
theorem slices_Index_string.calls (k : Nat) (A0 : Option Addr) (c0 : Nat) (l0 : List ByteArray) (a1 : ByteArray) (r : Int) (w : World) (hr0 : Kd.C Kd.string w A0 l0.length l0) (hc0 : l0.length ≤ c0) (h : slices_Index_string.f k l0 a1 = some r) :
 Calls Tryz.prog 74 #[.slice A0 l0.length c0, .string a1] w fun e w' => e = .returned (.int .i64 r) ∧ Drawn0 w w' := by
 have HR0 := Aside0.mk hr0; have HC0 := Aside0.mk hc0; clear hr0 hc0
 unfold slices_Index_string.f at h; have H := h
 clear h
 have H' := Aside0.mk H
 clear H
 go_enter Tryz.func74, Tryz.ntmps74
 go_wp2
 go_loopg [8] k (fun kq v8 w' => ∃ (x8_1 : Int), v8 = .int .i64 x8_1 ∧ Aside0 (slices_Index_string.l0 kq l0 a1 (l0.length : Int) x8_1 = some r) ∧ Aside0 (kq ≤ k) ∧ Drawn0 w w')
 case atStart => exact ⟨(0), zI, H', ⟨Nat.le_refl _⟩, by repeat (first | exact Drawn0.refl _ | apply Drawn0.step)⟩
 case round =>
  clear H'
  obtain ⟨x8_1, rfl, HA, HK1, ⟨m1, rfl⟩⟩ := hrel
  rcases gk with _ | k1
  · exact absurd HA.out (by simp [slices_Index_string.l0])
  have H := HA.out
  clear HA
  simp only [slices_Index_string.l0] at H
  by_cases c3 : x8_1 < (l0.length : Int)
  rotate_left
  · rw [if_neg c3] at H
    have c3b0 : decide (x8_1 < (l0.length : Int)) = false := decide_eq_false c3; clear c3
    obtain rfl := Option.some.inj H
    go_wp2
    go_ret
    exact ⟨by first | rfl | (simp; done) | (simp [*]; done), by repeat (first | exact Drawn0.refl _ | apply Drawn0.step)⟩
  rw [if_pos c3] at H
  have c3b0 : decide (x8_1 < (l0.length : Int)) = true := decide_eq_true c3; clear c3
  by_cases c4 : 0 ≤ x8_1
  rotate_left
  · rw [if_neg c4] at H
    exact absurd H (by simp)
  rw [if_pos c4] at H
  have c4b0 : decide (0 ≤ x8_1) = true := decide_eq_true c4; clear c4
  by_cases c5 : x8_1 < (l0.length : Int)
  rotate_left
  · rw [if_neg c5] at H
    exact absurd H (by simp)
  rw [if_pos c5] at H
  have c5b0 : decide (x8_1 < (l0.length : Int)) = true := decide_eq_true c5; clear c5
  by_cases c6 : a1.toList = (rdOf ByteArray.empty l0 x8_1).toList
  · rw [if_pos c6] at H
    have c6b0 : (a1.toList == (rdOf ByteArray.empty l0 x8_1).toList) = true := beq_iff_eq.mpr c6; have c6b1 : (a1.toList != (rdOf ByteArray.empty l0 x8_1).toList) = false := bne_eq_false_iff_eq.mpr c6; clear c6
    obtain rfl := Option.some.inj H
    have p256 : 0 ≤ (x8_1 : Int) := za
    have q256 : x8_1 < (l0.length : Int) := za
    obtain ⟨ad256, e256, hx256_0⟩ := Kd.at_string HR0.out x8_1 p256 q256
    cases e256
    replace p256 := eq_true p256
    replace q256 := eq_true q256
    go_wp2
    go_ret
    exact ⟨by first | rfl | (simp; done) | (simp [*]; done), by repeat (first | exact Drawn0.refl _ | apply Drawn0.step)⟩
  rw [if_neg c6] at H
  have c6b0 : (a1.toList == (rdOf ByteArray.empty l0 x8_1).toList) = false := beq_eq_false_iff_ne.mpr c6
  have c6b1 : (a1.toList != (rdOf ByteArray.empty l0 x8_1).toList) = true := bne_iff_ne.mpr c6
  have H' := Aside0.mk H
  clear H
  have p256 : 0 ≤ (x8_1 : Int) := za
  have q256 : x8_1 < (l0.length : Int) := za
  obtain ⟨ad256, e256, hx256_0⟩ := Kd.at_string HR0.out x8_1 p256 q256
  cases e256
  replace p256 := eq_true p256
  replace q256 := eq_true q256
  go_wp2
  go_roundg k1
  case measure => have := HK1.out; omega
  case rel => exact ⟨(wrap64 (x8_1 + 1)), zI, H', ⟨by have := HK1.out; omega⟩, by repeat (first | exact Drawn0.refl _ | apply Drawn0.step)⟩
end Go.Proofs.YtnphnhkinjppjaaGreatDoor.Q
end

section
set_option maxHeartbeats 8000000
set_option maxRecDepth 100000
namespace Go.Proofs.YtnphnhkinjppjaaGreatDoor.Q
open Go.RowKit Go.Proofs.YtnphnhkinjppjaaGreatDoorW.PrintWords Go.Proofs.YtnphnhkinjppjaaGreatDoorW.PrintLast Go.Proofs.YtnphnhkinjppjaaGreatDoorW.PrintMore
structure IsPar (w0 W : World) (p c : Nat) (L : List (S84)) (i e a : Int) : Prop where
  blk : W.heap[p]? = some (.cells #[.pointer (some ⟨c, 0, none⟩), .int .i64 e, .int .i64 a] 82 (0, 0))
  ge : w0.heap.size ≤ p
  cur : IsCur w0 W c L i
section
variable {w0 W W1 : World} {p c : Nat} {L : List (S84)} {i e a : Int}
theorem IsPar.ne (h : IsPar w0 W p c L i e a) : p ≠ c := by
  obtain ⟨A0, c0, h1, h2, h3⟩ := h.cur
  rintro rfl
  have := h.blk
  rw [h1] at this
  injection this with this
  injection this with _ ht _
  exact absurd ht (by decide)
theorem IsPar.lt (h : IsPar w0 W p c L i e a) : p < W.heap.size := blk_lt h.blk
theorem IsPar.below (h : IsPar w0 W p c L i e a) (hb : Below W.heap.size W W1) : IsPar w0 W1 p c L i e a := ⟨blk_below h.blk hb, h.ge, h.cur.below hb⟩
theorem IsPar.drew (h : IsPar w0 W p c L i e a) : IsPar w0 W.drew p c L i e a := ⟨h.blk, h.ge, h.cur.blk_ rfl⟩
theorem IsPar.alloc (h : IsPar w0 W p c L i e a) (o : Obj) : IsPar w0 (W.alloc o) p c L i e a := h.below (below_alloc (Below.refl _ _) o)
theorem IsPar.keep (h : IsPar w0 W p c L i e a) (hk : KeepBut W W1 c none) {j : Int} (hc : IsCur w0 W1 c L j) : IsPar w0 W1 p c L j e a := ⟨hk.blk h.blk h.ne (by simp), h.ge, hc⟩
theorem IsPar.far (h : IsPar w0 W p c L i e a) {q : Addr} (h1 : q.block ≠ p) (h2 : q.block ≠ c) (v : Value) : IsPar w0 (W.setCell q v) p c L i e a := ⟨(Below.heap_setCell W q v p (Ne.symm h1)).trans h.blk, h.ge, h.cur.far h2 v⟩
theorem IsPar.set (h : IsPar w0 W p c L i e a) (x y : Int) : IsPar w0 ((W.setCell ⟨p, 1, none⟩ (.int .i64 x)).setCell ⟨p, 2, none⟩ (.int .i64 y)) p c L i x y :=
  ⟨by simpa using blk_set (blk_set h.blk 1 (.int .i64 x)) 2 (.int .i64 y), h.ge, (h.cur.far h.ne _).far h.ne _⟩
theorem IsPar.cells (h : IsPar w0 W p c L i e a) : W.cell? ⟨p, 0, none⟩ = some (.pointer (some ⟨c, 0, none⟩)) ∧ W.cell? ⟨p, 1, none⟩ = some (.int .i64 e) ∧ W.cell? ⟨p, 2, none⟩ = some (.int .i64 a) := ⟨(blk_cell h.blk 0).trans rfl, (blk_cell h.blk 1).trans rfl, (blk_cell h.blk 2).trans rfl⟩
end
abbrev KeepPC (w W : World) (p c : Nat) : Prop := Kept w W (fun k => k = p ∨ k = c)
def failE (e ec : Int) : Int := if e = 0 then ec else e
def failA (e a x : Int) : Int := if e = 0 then x else a
theorem fail_walk (w0 w : World) (p c : Nat) (L : List (S84)) (i e a ec : Int) (t : S84) (hI : IsPar w0 w p c L i e a) (hB : Below w0.heap.size w0 w) :
    Calls Tryz.prog 71 #[.pointer (some ⟨p, 0, none⟩), .int .i64 ec, tokV t] w fun r w' => r = .returned (.tuple #[]) ∧ IsPar w0 w' p c L i (failE e ec) (failA e a t.f2) ∧ Below w0.heap.size w0 w' ∧ KeepPC w w' p c := by
  have hu := Tryz.underlying84
  have HI := Aside0.mk (hI.alloc (.cells #[.int .i64 t.f0, .string t.f1, .int .i64 t.f2] 84))
  have HB := Aside0.mk (hB.alloc hB.size (.cells #[.int .i64 t.f0, .string t.f1, .int .i64 t.f2] 84))
  have HK := Aside0.mk ((Kept.refl w (fun k => k = p ∨ k = c)).alloc (.cells #[.int .i64 t.f0, .string t.f1, .int .i64 t.f2] 84))
  have HX : Aside0 ((w.alloc (.cells #[.int .i64 t.f0, .string t.f1, .int .i64 t.f2] 84)).heap[w.heap.size]? = some (.cells #[.int .i64 t.f0, .string t.f1, .int .i64 t.f2] 84 (0, 0))) := ⟨heap_alloc_new _ _⟩
  have HN : Aside0 (p ≠ w.heap.size) := ⟨Nat.ne_of_lt hI.lt⟩
  clear hI hB
  go_enter Tryz.func71, Tryz.ntmps71
  go_upto_region 1 with (fail)
  obtain ⟨gb, hgb⟩ : ∃ gb, w.heap.size = gb := ⟨_, rfl⟩
  rw [hgb] at HX HN
  simp only [hgb]
  generalize w.alloc (.cells #[.int .i64 t.f0, .string t.f1, .int .i64 t.f2] 84) = W at HX HB HI HK ⊢
  obtain ⟨c0, c1, c2⟩ := HI.out.cells
  obtain ⟨f0, f1, f2⟩ := zf3 ⟨HI.out.blk⟩
  obtain ⟨d0, d1, d2⟩ := zc3 HX
  have hg0 : (gb = p) = False := eq_false (fun h => HN.out h.symm)
  have hg1 : (p = gb) = False := eq_false HN.out
  by_cases he : e = 0
  · have b1 : (e == 0) = true := beq_iff_eq.mpr he
    have HE : Aside0 (failE e ec = ec ∧ failA e a t.f2 = t.f2) := ⟨if_pos he, if_pos he⟩
    clear he
    go_wp2
    go_region
    go_end0
    refine ⟨rfl, by rw [HE.out.1, HE.out.2]; exact (HI.out.set _ _).drew, below_drew ((HB.out.setCell (p := ⟨p, 1, none⟩) HI.out.ge _).setCell (p := ⟨p, 2, none⟩) HI.out.ge _), ((HK.out.setCell (p := ⟨p, 1, none⟩) (.inl (.inl rfl)) _).setCell (p := ⟨p, 2, none⟩) (.inl (.inl rfl)) _).drew⟩
  · have b1 : (e == 0) = false := beq_eq_false_iff_ne.mpr he
    have HE : Aside0 (failE e ec = e ∧ failA e a t.f2 = a) := ⟨if_neg he, if_neg he⟩
    clear he
    go_wp2
    go_end0
    exact ⟨rfl, by rw [HE.out.1, HE.out.2]; exact HI.out, HB.out, HK.out⟩
def pword (L : List (S84)) (i e a : Int) : S84 × Int × Int × Int :=
  if e = 0 then (if (tokAt L i).f0 = 1 then (tokAt L i, nxt L i, e, a) else (z84, i, 14, (tokAt L i).f2)) else (z84, i, e, a)
structure PosIn (L : List (S84)) (i : Int) : Prop where
  ge : 0 ≤ i
  lt : i < L.length
  le : L.length ≤ 1000000
theorem PosIn.nxt {L : List (S84)} {i : Int} (h : PosIn L i) : PosIn L (nxt L i) := by
  obtain ⟨h0, h1, h2⟩ := h
  unfold Q.nxt
  split
  · exact ⟨by omega, by omega, h2⟩
  · exact ⟨h0, h1, h2⟩
theorem PosIn.word {L : List (S84)} {i e a : Int} (h : PosIn L i) : PosIn L (pword L i e a).2.1 := by
  unfold pword
  split
  · split
    · exact h.nxt
    · exact h
  · exact h
theorem word_walk (w0 w : World) (p c : Nat) (L : List (S84)) (i e a : Int) (hI : IsPar w0 w p c L i e a) (hB : Below w0.heap.size w0 w) (hP : PosIn L i) :
    Calls Tryz.prog 70 #[.pointer (some ⟨p, 0, none⟩)] w fun r w' => r = .returned (tokV (pword L i e a).1) ∧ IsPar w0 w' p c L (pword L i e a).2.1 (pword L i e a).2.2.1 (pword L i e a).2.2.2 ∧ Below w0.heap.size w0 w' ∧ KeepPC w w' p c := by
  have hu := Tryz.underlying84
  have HI := Aside0.mk (hI.alloc (.cells #[.int .i64 0, .string ⟨#[]⟩, .int .i64 0] 84))
  have HB := Aside0.mk (hB.alloc hB.size (.cells #[.int .i64 0, .string ⟨#[]⟩, .int .i64 0] 84))
  have HK := Aside0.mk ((Kept.refl w (fun k => k = p ∨ k = c)).alloc (.cells #[.int .i64 0, .string ⟨#[]⟩, .int .i64 0] 84))
  have HX : Aside0 ((w.alloc (.cells #[.int .i64 0, .string ⟨#[]⟩, .int .i64 0] 84)).heap[w.heap.size]? = some (.cells #[.int .i64 0, .string ⟨#[]⟩, .int .i64 0] 84 (0, 0))) := ⟨heap_alloc_new _ _⟩
  have HP := Aside0.mk hP
  have HN : Aside0 (p ≠ w.heap.size ∧ c ≠ w.heap.size ∧ w0.heap.size ≤ w.heap.size) := ⟨Nat.ne_of_lt hI.lt, Nat.ne_of_lt hI.cur.lt, hB.size⟩
  clear hI hB hP
  go_enter Tryz.func70, Tryz.ntmps70
  go_upto_region 1 with (fail)
  obtain ⟨gb, hgb⟩ : ∃ gb, w.heap.size = gb := ⟨_, rfl⟩
  rw [hgb] at HX HN
  have HS : Aside0 (w.heap.size ≤ gb) := ⟨Nat.le_of_eq hgb⟩
  simp only [hgb]
  clear hgb
  generalize w.alloc (.cells #[.int .i64 0, .string ⟨#[]⟩, .int .i64 0] 84) = W at HX HB HI HK ⊢
  obtain ⟨c0, c1, c2⟩ := HI.out.cells
  go_wp2_with fail
  refine (peek_walk w0 W c L i HI.out.cur HB.out HP.out.ge HP.out.lt).mono ?_
  rintro r w2 ⟨rfl, hb⟩
  replace HI := Aside0.mk (HI.out.below hb)
  replace HX := Aside0.mk (blk_below HX.out hb)
  replace HB := Aside0.mk (below_then HB.out HB.out.size hb)
  replace HK := Aside0.mk (HK.out.below hb)
  clear hb c0 c1 c2
  obtain ⟨t, ht⟩ : ∃ t, tokAt L i = t := ⟨_, rfl⟩
  rw [ht]
  have HV := Aside0.mk ht
  clear ht
  go_upto_region 2 with (fail)
  obtain ⟨gt, hgt⟩ : ∃ gt, w2.heap.size = gt := ⟨_, rfl⟩
  have HT : Aside0 ((w2.alloc (.cells #[.int .i64 t.f0, .string t.f1, .int .i64 t.f2] 84)).heap[w2.heap.size]? = some (.cells #[.int .i64 t.f0, .string t.f1, .int .i64 t.f2] 84 (0, 0))) := ⟨heap_alloc_new _ _⟩
  rw [hgt] at HT
  simp only [hgt]
  have HG : Aside0 (gt ≠ gb ∧ gt ≠ p ∧ gt ≠ c) := ⟨by have := blk_lt HX.out; omega, by have := HI.out.lt; omega, by have := HI.out.cur.lt; omega⟩
  replace HI := Aside0.mk (HI.out.alloc (.cells #[.int .i64 t.f0, .string t.f1, .int .i64 t.f2] 84))
  replace HX := Aside0.mk (blk_alloc HX.out (.cells #[.int .i64 t.f0, .string t.f1, .int .i64 t.f2] 84))
  replace HB := Aside0.mk (HB.out.alloc HB.out.size (.cells #[.int .i64 t.f0, .string t.f1, .int .i64 t.f2] 84))
  replace HK := Aside0.mk (HK.out.alloc (.cells #[.int .i64 t.f0, .string t.f1, .int .i64 t.f2] 84))
  clear hgt
  generalize w2.alloc (.cells #[.int .i64 t.f0, .string t.f1, .int .i64 t.f2] 84) = W3 at HI HX HB HK HT ⊢
  obtain ⟨c0, c1, c2⟩ := HI.out.cells
  obtain ⟨d0, d1, d2⟩ := zc3 HX
  obtain ⟨f0, f1, f2⟩ := zf3 HX
  obtain ⟨e0, e1, e2⟩ := zc3 HT
  have hz2 := blk_lt HX.out
  by_cases he : e = 0
  · have b1 : (e != 0) = false := by rw [he]; rfl
    by_cases hk : t.f0 = 1
    · have b2 : (t.f0 != 1) = false := by rw [hk]; rfl
      have HE : Aside0 (pword L i e a = (t, nxt L i, e, a)) := ⟨by unfold pword; rw [HV.out, if_pos he, if_pos hk]⟩
      clear he hk
      go_wp2_with fail
      refine (next_walk w0 W3 c L i HI.out.cur HB.out HP.out.ge HP.out.lt HP.out.le).mono ?_
      rintro r w4 ⟨rfl, hi, hb, hk⟩
      rw [HV.out]
      clear c0 c1 c2 d0 d1 d2 f0 f1 f2 e0 e1 e2 hz2
      have HI4 := Aside0.mk (HI.out.keep hk hi)
      have HX4 := Aside0.mk (hk.blk HX.out (Ne.symm HN.out.2.1) (by simp))
      have HB4 := Aside0.mk hb
      have HK4 := Aside0.mk (HK.out.of_keep hk (.inl (.inr rfl)))
      clear hi hb hk
      obtain ⟨d0, d1, d2⟩ := zc3 HX4
      obtain ⟨f0, f1, f2⟩ := zf3 HX4
      have hz2 := blk_lt HX4.out
      go_wp2
      refine bodyPost_ret (v := tokV t) (by simp [results, Tryz.results70, go_sem, d0, d1, d2, hz2]) rfl ⟨by rw [HE.out], ?_, ?_, ?_⟩
      · rw [HE.out]
        exact ((HI4.out.far (Ne.symm HN.out.1) (Ne.symm HN.out.2.1) _).far (Ne.symm HN.out.1) (Ne.symm HN.out.2.1) _).far (Ne.symm HN.out.1) (Ne.symm HN.out.2.1) _
      · exact ((HB4.out.setCell HN.out.2.2 _).setCell HN.out.2.2 _).setCell HN.out.2.2 _
      · exact ((HK4.out.setCell (.inr HS.out) _).setCell (.inr HS.out) _).setCell (.inr HS.out) _
    · have b2 : (t.f0 != 1) = true := bne_iff_ne.mpr hk
      have HE : Aside0 (pword L i e a = (z84, i, 14, t.f2)) := ⟨by unfold pword; rw [HV.out, if_pos he, if_neg hk]⟩
      have HE0 := Aside0.mk he
      clear he hk
      go_wp2_with fail
      refine (fail_walk w0 W3 p c L i e a 14 t HI.out HB.out).mono ?_
      rintro r w4 ⟨rfl, hi, hb, hk⟩
      rw [show failE e 14 = 14 from if_pos HE0.out, show failA e a t.f2 = t.f2 from if_pos HE0.out] at hi
      clear c0 c1 c2 d0 d1 d2 f0 f1 f2 e0 e1 e2 hz2
      have HI4 := Aside0.mk hi
      have HX4 := Aside0.mk (blk_kept HX.out hk (by rintro (h | h); exact HN.out.1 h.symm; exact HN.out.2.1 h.symm))
      have HB4 := Aside0.mk hb
      have HK4 := Aside0.mk (HK.out.then_ hk (fun _ h => .inl h))
      clear hi hb hk
      obtain ⟨d0, d1, d2⟩ := zc3 HX4
      obtain ⟨f0, f1, f2⟩ := zf3 HX4
      have hz2 := blk_lt HX4.out
      go_wp2
      refine bodyPost_ret (v := tokV z84) (by simp [results, Tryz.results70, go_sem, d0, d1, d2, hz2, z84]) rfl ⟨by rw [HE.out], ?_, ?_, ?_⟩
      · rw [HE.out]
        exact ((HI4.out.far (Ne.symm HN.out.1) (Ne.symm HN.out.2.1) _).far (Ne.symm HN.out.1) (Ne.symm HN.out.2.1) _).far (Ne.symm HN.out.1) (Ne.symm HN.out.2.1) _
      · exact ((HB4.out.setCell HN.out.2.2 _).setCell HN.out.2.2 _).setCell HN.out.2.2 _
      · exact ((HK4.out.setCell (.inr HS.out) _).setCell (.inr HS.out) _).setCell (.inr HS.out) _
  · have b1 : (e != 0) = true := bne_iff_ne.mpr he
    have HE : Aside0 (pword L i e a = (z84, i, e, a)) := ⟨by unfold pword; rw [if_neg he]⟩
    clear he
    go_wp2
    refine bodyPost_ret (v := tokV z84) (by simp [results, Tryz.results70, go_sem, d0, d1, d2, hz2, z84]) rfl ⟨by rw [HE.out], ?_, ?_, ?_⟩
    · rw [HE.out]
      exact ((HI.out.far (Ne.symm HN.out.1) (Ne.symm HN.out.2.1) _).far (Ne.symm HN.out.1) (Ne.symm HN.out.2.1) _).far (Ne.symm HN.out.1) (Ne.symm HN.out.2.1) _
    · exact ((HB.out.setCell HN.out.2.2 _).setCell HN.out.2.2 _).setCell HN.out.2.2 _
    · exact ((HK.out.setCell (.inr HS.out) _).setCell (.inr HS.out) _).setCell (.inr HS.out) _
def asset_parser_number.f (k : Nat) (L : List (S84)) (i e a : Int) : Option (Int × Int × Int × Int) :=
  (lexer_Number.f k (pword L i e a).1.f1).bind fun r => if r.2 = true then some (r.1, (pword L i e a).2.1, (pword L i e a).2.2.1, (pword L i e a).2.2.2) else some (r.1, (pword L i e a).2.1, failE (pword L i e a).2.2.1 4, failA (pword L i e a).2.2.1 (pword L i e a).2.2.2 (pword L i e a).1.f2)
theorem number_walk' (k : Nat) (w0 w : World) (p c : Nat) (L : List (S84)) (i e a n i' e' a' : Int) (hI : IsPar w0 w p c L i e a) (hB : Below w0.heap.size w0 w) (hP : PosIn L i) (h : asset_parser_number.f k L i e a = some (n, i', e', a')) :
    Calls Tryz.prog 76 #[.pointer (some ⟨p, 0, none⟩)] w fun r w' => r = .returned (.int .i64 n) ∧ IsPar w0 w' p c L i' e' a' ∧ Below w0.heap.size w0 w' ∧ KeepPC w w' p c := by
  have hu := Tryz.underlying84
  unfold asset_parser_number.f at h
  obtain ⟨⟨n1, ok⟩, h1, h2⟩ := Option.bind_eq_some_iff.1 h
  have H1 := Aside0.mk h1
  have H2 := Aside0.mk h2
  have HI := Aside0.mk hI
  have HB := Aside0.mk hB
  have HP := Aside0.mk hP
  clear hI hB hP h h1 h2
  go_enter Tryz.func76, Tryz.ntmps76
  go_wp2_with fail
  refine (word_walk w0 w p c L i e a HI.out HB.out HP.out).mono ?_
  rintro r w2 ⟨rfl, hi, hb, hk⟩
  replace HI := Aside0.mk hi
  replace HB := Aside0.mk hb
  have HK := Aside0.mk hk
  clear hi hb hk
  obtain ⟨⟨t, i2, e2, a2⟩, hq⟩ : ∃ q, pword L i e a = q := ⟨_, rfl⟩
  rw [hq] at HI H1 H2 ⊢
  have HQ := Aside0.mk hq
  clear hq
  go_upto_region 2 with (fail)
  obtain ⟨gt, hgt⟩ : ∃ gt, w2.heap.size = gt := ⟨_, rfl⟩
  have HT : Aside0 ((w2.alloc (.cells #[.int .i64 t.f0, .string t.f1, .int .i64 t.f2] 84)).heap[w2.heap.size]? = some (.cells #[.int .i64 t.f0, .string t.f1, .int .i64 t.f2] 84 (0, 0))) := ⟨heap_alloc_new _ _⟩
  rw [hgt] at HT
  simp only [hgt]
  have HN : Aside0 (p ≠ gt ∧ c ≠ gt) := ⟨by have := HI.out.lt; omega, by have := HI.out.cur.lt; omega⟩
  replace HI := Aside0.mk (HI.out.alloc (.cells #[.int .i64 t.f0, .string t.f1, .int .i64 t.f2] 84))
  replace HB := Aside0.mk (HB.out.alloc HB.out.size (.cells #[.int .i64 t.f0, .string t.f1, .int .i64 t.f2] 84))
  replace HK := Aside0.mk (HK.out.alloc (.cells #[.int .i64 t.f0, .string t.f1, .int .i64 t.f2] 84))
  clear hgt
  generalize w2.alloc (.cells #[.int .i64 t.f0, .string t.f1, .int .i64 t.f2] 84) = W3 at HI HB HK HT ⊢
  obtain ⟨d0, d1, d2⟩ := zc3 HT
  go_wp2_with fail
  refine (lexer_Number.calls k t.f1 n1 ok W3 H1.out).mono ?_
  rintro r w4 ⟨rfl, hb⟩
  clear d0 d1 d2
  replace hb : Below W3.heap.size W3 w4 := by first | exact hb | exact hb.below
  replace HI := Aside0.mk (HI.out.below hb)
  replace HT := Aside0.mk (blk_below HT.out hb)
  replace HB := Aside0.mk (below_then HB.out HB.out.size hb)
  replace HK := Aside0.mk (HK.out.below hb)
  clear hb
  obtain ⟨d0, d1, d2⟩ := zc3 HT
  cases ok with
  | true =>
    have HR := Aside0.mk (Option.some.inj H2.out)
    go_wp2
    go_ret
    have h := HR.out
    simp only [if_true, Prod.mk.injEq] at h
    obtain ⟨rfl, rfl, rfl, rfl⟩ := h
    exact ⟨rfl, HI.out, HB.out, HK.out⟩
  | false =>
    have HR := Aside0.mk (Option.some.inj H2.out)
    go_wp2_with fail
    refine (fail_walk w0 w4 p c L i2 e2 a2 4 t HI.out HB.out).mono ?_
    rintro r w5 ⟨rfl, hi, hb, hk⟩
    clear d0 d1 d2
    have HI5 := Aside0.mk hi
    have HB5 := Aside0.mk hb
    have HK5 := Aside0.mk (HK.out.then_ hk (fun _ h => .inl h))
    clear hi hb hk
    go_wp2
    go_ret
    have h := HR.out
    simp only [Bool.false_eq_true, if_false, Prod.mk.injEq] at h
    obtain ⟨rfl, rfl, rfl, rfl⟩ := h
    exact ⟨rfl, HI5.out, HB5.out, HK5.out⟩
def asset_parser_choice.f (k : Nat) (L : List (S84)) (i e a : Int) (l : List ByteArray) : Option (Int × Int × Int × Int) :=
  (slices_Index_string.f k l (pword L i e a).1.f1).bind fun n => if n < 0 then some (n, (pword L i e a).2.1, failE (pword L i e a).2.2.1 15, failA (pword L i e a).2.2.1 (pword L i e a).2.2.2 (pword L i e a).1.f2) else some (n, (pword L i e a).2.1, (pword L i e a).2.2.1, (pword L i e a).2.2.2)
theorem choice_walk (k : Nat) (w0 w : World) (p c : Nat) (L : List (S84)) (i e a n i' e' a' : Int) (A : Option Addr) (c0 : Nat) (l : List ByteArray) (hI : IsPar w0 w p c L i e a) (hB : Below w0.heap.size w0 w) (hP : PosIn L i)
    (hl : ∀ W', KeepPC w W' p c → Kd.C Kd.string W' A l.length l) (hc : l.length ≤ c0) (h : asset_parser_choice.f k L i e a l = some (n, i', e', a')) :
    Calls Tryz.prog 75 #[.pointer (some ⟨p, 0, none⟩), .slice A l.length c0] w fun r w' => r = .returned (.int .i64 n) ∧ IsPar w0 w' p c L i' e' a' ∧ Below w0.heap.size w0 w' ∧ KeepPC w w' p c := by
  have hu := Tryz.underlying84
  unfold asset_parser_choice.f at h
  obtain ⟨n1, h1, h2⟩ := Option.bind_eq_some_iff.1 h
  have H1 := Aside0.mk h1
  have H2 := Aside0.mk h2
  have HI := Aside0.mk hI
  have HB := Aside0.mk hB
  have HP := Aside0.mk hP
  have HL := Aside0.mk hl
  have HC := Aside0.mk hc
  clear hI hB hP h h1 h2 hl hc
  go_enter Tryz.func75, Tryz.ntmps75
  go_wp2_with fail
  refine (word_walk w0 w p c L i e a HI.out HB.out HP.out).mono ?_
  rintro r w2 ⟨rfl, hi, hb, hk⟩
  replace HI := Aside0.mk hi
  replace HB := Aside0.mk hb
  have HK := Aside0.mk hk
  clear hi hb hk
  obtain ⟨⟨t, i2, e2, a2⟩, hq⟩ : ∃ q, pword L i e a = q := ⟨_, rfl⟩
  rw [hq] at HI H1 H2 ⊢
  clear hq
  go_upto_region 2 with (fail)
  obtain ⟨gt, hgt⟩ : ∃ gt, w2.heap.size = gt := ⟨_, rfl⟩
  have HT : Aside0 ((w2.alloc (.cells #[.int .i64 t.f0, .string t.f1, .int .i64 t.f2] 84)).heap[w2.heap.size]? = some (.cells #[.int .i64 t.f0, .string t.f1, .int .i64 t.f2] 84 (0, 0))) := ⟨heap_alloc_new _ _⟩
  rw [hgt] at HT
  simp only [hgt]
  replace HI := Aside0.mk (HI.out.alloc (.cells #[.int .i64 t.f0, .string t.f1, .int .i64 t.f2] 84))
  replace HB := Aside0.mk (HB.out.alloc HB.out.size (.cells #[.int .i64 t.f0, .string t.f1, .int .i64 t.f2] 84))
  replace HK := Aside0.mk (HK.out.alloc (.cells #[.int .i64 t.f0, .string t.f1, .int .i64 t.f2] 84))
  clear hgt
  generalize w2.alloc (.cells #[.int .i64 t.f0, .string t.f1, .int .i64 t.f2] 84) = W3 at HI HB HK HT ⊢
  obtain ⟨d0, d1, d2⟩ := zc3 HT
  go_wp2_with fail
  refine (slices_Index_string.calls k A c0 l t.f1 n1 W3 (HL.out _ HK.out) HC.out H1.out).mono ?_
  rintro r w4 ⟨rfl, hb⟩
  clear d0 d1 d2
  replace hb : Below W3.heap.size W3 w4 := by first | exact hb | exact hb.below
  replace HI := Aside0.mk (HI.out.below hb)
  replace HT := Aside0.mk (blk_below HT.out hb)
  replace HB := Aside0.mk (below_then HB.out HB.out.size hb)
  replace HK := Aside0.mk (HK.out.below hb)
  clear hb
  obtain ⟨d0, d1, d2⟩ := zc3 HT
  by_cases hn : n1 < 0
  · have HR := Aside0.mk (Option.some.inj ((if_pos hn).symm.trans H2.out))
    have b1 : decide (n1 < 0) = true := decide_eq_true hn
    clear hn
    go_wp2_with fail
    refine (fail_walk w0 w4 p c L i2 e2 a2 15 t HI.out HB.out).mono ?_
    rintro r w5 ⟨rfl, hi, hb, hk⟩
    clear d0 d1 d2
    have HI5 := Aside0.mk hi
    have HB5 := Aside0.mk hb
    have HK5 := Aside0.mk (HK.out.then_ hk (fun _ h => .inl h))
    clear hi hb hk
    go_wp2
    go_ret
    have h := HR.out
    simp only [Prod.mk.injEq] at h
    obtain ⟨rfl, rfl, rfl, rfl⟩ := h
    exact ⟨rfl, HI5.out, HB5.out, HK5.out⟩
  · have HR := Aside0.mk (Option.some.inj ((if_neg hn).symm.trans H2.out))
    have b1 : decide (n1 < 0) = false := decide_eq_false hn
    clear hn
    go_wp2
    go_ret
    have h := HR.out
    simp only [Prod.mk.injEq] at h
    obtain ⟨rfl, rfl, rfl, rfl⟩ := h
    exact ⟨rfl, HI.out, HB.out, HK.out⟩
end Go.Proofs.YtnphnhkinjppjaaGreatDoor.Q
end

section
set_option maxHeartbeats 8000000
set_option maxRecDepth 100000
namespace Go.Proofs.YtnphnhkinjppjaaGreatDoor.Q
open Go.RowKit Go.Proofs.YtnphnhkinjppjaaGreatDoorW.PrintWords Go.Proofs.YtnphnhkinjppjaaGreatDoorW.PrintLast Go.Proofs.YtnphnhkinjppjaaGreatDoorW.PrintMore
attribute [local go_sem] max2_int min2_int max_two min_two max_three min_three max_four min_four
mutual
def address_number.j0 : Nat → ByteArray → Int → Bool → Option (Int × Bool)
  | 0, _, _, _ => none
  | k + 1, x0, x1, x24 => if x24 = true then (some (0, false)) else (address_number.l0 k x0 x1 0 (x0.size : Int) 0)
def address_number.l0 : Nat → ByteArray → Int → Int → Int → Int → Option (Int × Bool)
  | 0, _, _, _, _, _ => none
  | k + 1, x0, x1, x6, x26, x27 => if x27 < x26 then (if 0 ≤ x27 then (if x27 < (x0.size : Int) then (if (bt x0 x27) < 48 then (some (0, false)) else (if (bt x0 x27) > 57 then (some (0, false)) else (address_number.l0 k x0 x1 (wrap64 ((wrap64 (x6 * 10)) + (((bt x0 x27) - 48) % 256))) x26 (wrap64 (x27 + 1))))) else (none)) else (none)) else (some (x6, decide (x6 ≤ x1)))
end
def address_number.f (k : Nat) (a0 : ByteArray) (a1 : Int) : Option (Int × Bool) := if a0.toList = ([] : List UInt8) then (address_number.j0 k a0 a1 true) else (if (a0.size : Int) > 9 then (address_number.j0 k a0 a1 true) else (if 0 < (a0.size : Int) then (if (bt a0 0) = 48 then (address_number.j0 k a0 a1 (decide ((a0.size : Int) > 1))) else (address_number.j0 k a0 a1 false)) else (none)))
theorem address_number.mono_l : ∀ k, (∀ y0 y1 y2, LeO (address_number.j0 k y0 y1 y2) (address_number.j0 (k + 1) y0 y1 y2)) ∧ (∀ y0 y1 y2 y3 y4, LeO (address_number.l0 k y0 y1 y2 y3 y4) (address_number.l0 (k + 1) y0 y1 y2 y3 y4))
  | 0 => ⟨fun _ _ _ r h => by simp [address_number.j0] at h, fun _ _ _ _ _ r h => by simp [address_number.l0] at h⟩
  | k + 1 => by
    obtain ⟨ih0, ih1⟩ := address_number.mono_l k
    refine ⟨?_, ?_⟩
    · intro y0 y1 y2
      unfold address_number.j0
      repeat' first
      | (with_reducible exact ih0 _ _ _)
      | (with_reducible exact ih1 _ _ _ _ _)
      | (with_reducible exact LeO.refl _)
      | (with_reducible exact LeO.none _)
      | (with_reducible refine LeO.ite ?_ ?_)
      | (with_reducible refine LeO.bind ?_ (fun _ => ?_))
    · intro y0 y1 y2 y3 y4
      unfold address_number.l0
      repeat' first
      | (with_reducible exact ih0 _ _ _)
      | (with_reducible exact ih1 _ _ _ _ _)
      | (with_reducible exact LeO.refl _)
      | (with_reducible exact LeO.none _)
      | (with_reducible refine LeO.ite ?_ ?_)
      | (with_reducible refine LeO.bind ?_ (fun _ => ?_))
theorem address_number.mono : ∀ a0 a1 k, LeO (address_number.f k a0 a1) (address_number.f (k + 1) a0 a1) := by
  intro a0 a1 k
  obtain ⟨ih0, ih1⟩ := address_number.mono_l k
  unfold address_number.f
  repeat' first
      | (with_reducible exact ih0 _ _ _)
      | (with_reducible exact ih1 _ _ _ _ _)
      | (with_reducible exact LeO.refl _)
      | (with_reducible exact LeO.none _)
      | (with_reducible refine LeO.ite ?_ ?_)
      | (with_reducible refine LeO.bind ?_ (fun _ => ?_))
theorem address_number.calls (k : Nat) (a0 : ByteArray) (a1 : Int) (r1 : Int) (r2 : Bool) (w : World) (h : address_number.f k a0 a1 = some (r1, r2)) :
 Calls Tryz.prog 152 #[.string a0, .int .i64 a1] w fun e w' => e = .returned (.tuple #[.int .i64 r1, .bool r2]) ∧ Drawn0 w w' := by
 unfold address_number.f at h; have H := h
 clear h; have HC3 := Aside0.mk H; clear H
 go_enter Tryz.func152, Tryz.ntmps152
 go_upto_region 1 with (fail)
 go_cut [24] (fun v24 wc => ∃ (kq : Nat) (x24_2 : Bool), v24 = .bool x24_2 ∧ Aside0 (address_number.j0 kq a0 a1 x24_2 = some (r1, r2)) ∧ Aside0 (kq ≤ k) ∧ Drawn0 w wc)
 case first =>
  have H := HC3.out
  clear HC3
  by_cases c4 : a0.toList = ([] : List UInt8)
  · rw [if_pos c4] at H
    have c4b0 : (a0.toList == ([] : List UInt8)) = true := beq_iff_eq.mpr c4; have c4b1 : (a0.toList != ([] : List UInt8)) = false := bne_eq_false_iff_eq.mpr c4; clear c4
    (first | rw [c4b0] | (simp only [i64_w, i32_w]; rw [c4b0]) | skip)
    have H' := Aside0.mk H
    clear H
    go_wp2
    go_meet
    case rel => exact ⟨_, (true), zI, H', ⟨by first | omega | exact Nat.le_refl _⟩, by repeat (first | exact Drawn0.refl _ | apply Drawn0.step)⟩
  rw [if_neg c4] at H
  have c4b0 : (a0.toList == ([] : List UInt8)) = false := beq_eq_false_iff_ne.mpr c4
  have c4b1 : (a0.toList != ([] : List UInt8)) = true := bne_iff_ne.mpr c4
  (first | rw [c4b0] | (simp only [i64_w, i32_w]; rw [c4b0]) | skip)
  by_cases c5 : (a0.size : Int) > 9
  · rw [if_pos c5] at H
    have c5b0 : decide (9 < (a0.size : Int)) = true := decide_eq_true c5
    have c5b1 : decide (9 < a0.size) = true := decide_eq_true (by omega)
    clear c5
    have H' := Aside0.mk H
    clear H
    go_wp2
    go_meet
    case rel => exact ⟨_, (true), zI, H', ⟨by first | omega | exact Nat.le_refl _⟩, by repeat (first | exact Drawn0.refl _ | apply Drawn0.step)⟩
  rw [if_neg c5] at H; have c5b0 : decide (9 < (a0.size : Int)) = false := decide_eq_false c5
  have c5b1 : decide (9 < a0.size) = false := decide_eq_false (by omega)
  clear c5
  by_cases c6 : 0 < (a0.size : Int)
  rotate_left
  · rw [if_neg c6] at H
    exact absurd H (by simp)
  rw [if_pos c6] at H; have c6b0 : decide (0 < (a0.size : Int)) = true := decide_eq_true c6
  have c6b1 : decide (0 < a0.size) = true := decide_eq_true (by omega)
  clear c6
  by_cases c8 : (bt a0 0) = 48
  · rw [if_pos c8] at H
    have c8b0 : ((bt a0 0) == 48) = true := beq_iff_eq.mpr c8; have c8b1 : ((bt a0 0) != 48) = false := bne_eq_false_iff_eq.mpr c8; clear c8
    have H' := Aside0.mk H
    clear H
    have p7 : 0 ≤ (0 : Int) := (by omega)
    have q7 : 0 < a0.size := (by have : (0 : Int) < (a0.size : Int) := za; omega)
    have hx7 : ∀ h : 0 < a0.size, ((a0[0]'h).toNat : Int) = bt a0 0 := bt_at a0 0
    clear p7
    have qi7 : (0 < (a0.size : Int)) = True := eq_true (of_decide_eq_true (by first | (with_reducible assumption) | assumption))
    replace q7 := eq_true q7
    go_wp2
    go_meet
    case rel => exact ⟨_, (decide ((a0.size : Int) > 1)), zI, H', ⟨by first | omega | exact Nat.le_refl _⟩, by repeat (first | exact Drawn0.refl _ | apply Drawn0.step)⟩
  rw [if_neg c8] at H
  have c8b0 : ((bt a0 0) == 48) = false := beq_eq_false_iff_ne.mpr c8
  have c8b1 : ((bt a0 0) != 48) = true := bne_iff_ne.mpr c8
  have H' := Aside0.mk H
  clear H
  have p7 : 0 ≤ (0 : Int) := (by omega)
  have q7 : 0 < a0.size := (by have : (0 : Int) < (a0.size : Int) := za; omega)
  have hx7 : ∀ h : 0 < a0.size, ((a0[0]'h).toNat : Int) = bt a0 0 := bt_at a0 0
  clear p7
  have qi7 : (0 < (a0.size : Int)) = True := eq_true (of_decide_eq_true (by first | (with_reducible assumption) | assumption))
  replace q7 := eq_true q7
  go_wp2
  go_meet
  case rel => exact ⟨_, (false), zI, H', ⟨by first | omega | exact Nat.le_refl _⟩, by repeat (first | exact Drawn0.refl _ | apply Drawn0.step)⟩
 case rest =>
  clear HC3
  obtain ⟨kq, x24_2, rfl, HA, HJ2, ⟨mc2, rfl⟩⟩ := hcut
  rcases kq with _ | kj2
  · exact absurd HA.out (by simp [address_number.j0])
  have H := HA.out
  clear HA
  simp only [address_number.j0] at H
  by_cases c9 : x24_2 = true
  · subst c9
    rw [if_pos rfl] at H
    simp only [Option.some.injEq, Prod.mk.injEq] at H
    obtain ⟨rfl, rfl⟩ := H
    go_wp2
    go_ret2
    exact ⟨by first | rfl | (simp; done) | (simp [*]; done), by repeat (first | exact Drawn0.refl _ | apply Drawn0.step)⟩
  replace c9 := Bool.eq_false_iff.mpr c9
  subst c9; rw [if_neg zF] at H
  have H' := Aside0.mk H
  clear H
  go_wp2
  go_loopg [6, 27] kj2 (fun kq v6 v27 w' => ∃ (x6_2 : Int) (x27_2 : Int), v6 = .int .i64 x6_2 ∧ v27 = .int .i64 x27_2 ∧ Aside0 (address_number.l0 kq a0 a1 x6_2 (a0.size : Int) x27_2 = some (r1, r2)) ∧ Aside0 (kq ≤ kj2) ∧ Drawn0 w w')
  case atStart => exact ⟨(0), (0), zI, zI, H', ⟨Nat.le_refl _⟩, by repeat (first | exact Drawn0.refl _ | apply Drawn0.step)⟩
  case round =>
   clear H'
   try clear c9
   obtain ⟨x6_2, x27_2, rfl, rfl, HA, HK2, ⟨m2, rfl⟩⟩ := hrel
   rcases gk with _ | k2
   · exact absurd HA.out (by simp [address_number.l0])
   have H := HA.out
   clear HA
   simp only [address_number.l0] at H
   by_cases c10 : x27_2 < (a0.size : Int)
   rotate_left
   · rw [if_neg c10] at H
     have c10b0 : decide (x27_2 < (a0.size : Int)) = false := decide_eq_false c10; clear c10
     simp only [Option.some.injEq, Prod.mk.injEq] at H
     obtain ⟨rfl, rfl⟩ := H
     go_wp2
     go_ret2
     exact ⟨by first | rfl | (simp; done) | (simp [*]; done), by repeat (first | exact Drawn0.refl _ | apply Drawn0.step)⟩
   rw [if_pos c10] at H
   have c10b0 : decide (x27_2 < (a0.size : Int)) = true := decide_eq_true c10; clear c10
   by_cases c11 : 0 ≤ x27_2
   rotate_left
   · rw [if_neg c11] at H
     exact absurd H (by simp)
   rw [if_pos c11] at H
   have c11b0 : decide (0 ≤ x27_2) = true := decide_eq_true c11; clear c11
   by_cases c12 : x27_2 < (a0.size : Int)
   rotate_left
   · rw [if_neg c12] at H
     exact absurd H (by simp)
   rw [if_pos c12] at H
   have c12b0 : decide (x27_2 < (a0.size : Int)) = true := decide_eq_true c12; clear c12
   by_cases c14 : (bt a0 x27_2) < 48
   · rw [if_pos c14] at H
     have c14b0 : decide ((bt a0 x27_2) < 48) = true := decide_eq_true c14; clear c14
     simp only [Option.some.injEq, Prod.mk.injEq] at H
     obtain ⟨rfl, rfl⟩ := H
     have p13 : 0 ≤ (x27_2 : Int) := za
     have q13 : x27_2 < (a0.size : Int) := za
     have hx13 := bt_at a0 x27_2
     replace p13 := eq_true p13
     replace q13 := eq_true q13
     go_wp2
     go_ret2
     exact ⟨by first | rfl | (simp; done) | (simp [*]; done), by repeat (first | exact Drawn0.refl _ | apply Drawn0.step)⟩
   rw [if_neg c14] at H
   have c14b0 : decide ((bt a0 x27_2) < 48) = false := decide_eq_false c14; clear c14
   by_cases c16 : (bt a0 x27_2) > 57
   · rw [if_pos c16] at H
     have c16b0 : decide (57 < (bt a0 x27_2)) = true := decide_eq_true c16; clear c16
     simp only [Option.some.injEq, Prod.mk.injEq] at H
     obtain ⟨rfl, rfl⟩ := H
     have p13 : 0 ≤ (x27_2 : Int) := za
     have q13 : x27_2 < (a0.size : Int) := za
     have hx13 := bt_at a0 x27_2
     replace p13 := eq_true p13
     replace q13 := eq_true q13
     have p15 : 0 ≤ (x27_2 : Int) := za
     have q15 : x27_2 < (a0.size : Int) := za
     have hx15 := bt_at a0 x27_2
     replace p15 := eq_true p15
     replace q15 := eq_true q15
     go_wp2
     go_ret2
     exact ⟨by first | rfl | (simp; done) | (simp [*]; done), by repeat (first | exact Drawn0.refl _ | apply Drawn0.step)⟩
   rw [if_neg c16] at H
   have c16b0 : decide (57 < (bt a0 x27_2)) = false := decide_eq_false c16; clear c16
   have H' := Aside0.mk H
   clear H
   have p13 : 0 ≤ (x27_2 : Int) := za
   have q13 : x27_2 < (a0.size : Int) := za
   have hx13 := bt_at a0 x27_2
   replace p13 := eq_true p13
   replace q13 := eq_true q13
   have p15 : 0 ≤ (x27_2 : Int) := za
   have q15 : x27_2 < (a0.size : Int) := za
   have hx15 := bt_at a0 x27_2
   replace p15 := eq_true p15
   replace q15 := eq_true q15
   have p17 : 0 ≤ (x27_2 : Int) := za
   have q17 : x27_2 < (a0.size : Int) := za
   have hx17 := bt_at a0 x27_2
   replace p17 := eq_true p17
   replace q17 := eq_true q17
   go_wp2
   go_roundg k2
   case measure => have := HJ2.out; have := HK2.out; omega
   case rel => exact ⟨(wrap64 ((wrap64 (x6_2 * 10)) + (((bt a0 x27_2) - 48) % 256))), (wrap64 (x27_2 + 1)), zI, zI, H', ⟨by have := HJ2.out; have := HK2.out; omega⟩, by repeat (first | exact Drawn0.refl _ | apply Drawn0.step)⟩
def address_parse4.l0 : Nat → List ByteArray → Int → Int → Bool → Int → Int → Option (Bool × Int × Int × Bool)
  | 0, _, _, _, _, _, _ => none
  | k + 1, x16, x17, x18, x197000, x197001, x197002 => if x18 < x17 then (if 0 ≤ x18 then (if x18 < (x16.length : Int) then ((address_number.f k (rdOf ByteArray.empty x16 x18) 255).bind fun bt198 => (if bt198.2 = true then (address_parse4.l0 k x16 x17 (wrap64 (x18 + 1)) x197000 x197001 (Go.bits .or .u64 (IntKind.u64.wrap (x197002 * 256)) (IntKind.u64.wrap (bt198.1)))) else (some (false, 0, 0, false)))) else (none)) else (none)) else (some (x197000, x197001, x197002, true))
def address_parse4.f (k : Nat) (a0 : ByteArray) : Option (Bool × Int × Int × Bool) := (strings_Split.f a0 (⟨#[46]⟩ : ByteArray)).bind fun t193 => (if (t193.length : Int) = 4 then (address_parse4.l0 k t193 (t193.length : Int) 0 false 0 0) else (some (false, 0, 0, false)))
theorem address_parse4.mono_l : ∀ k, (∀ y0 y1 y2 y3 y4 y5, LeO (address_parse4.l0 k y0 y1 y2 y3 y4 y5) (address_parse4.l0 (k + 1) y0 y1 y2 y3 y4 y5))
  | 0 => fun _ _ _ _ _ _ r h => by simp [address_parse4.l0] at h
  | k + 1 => by
    have ih0 := address_parse4.mono_l k
    · intro y0 y1 y2 y3 y4 y5
      unfold address_parse4.l0
      repeat' first
      | (with_reducible exact ih0 _ _ _ _ _ _)
      | (with_reducible exact address_number.mono _ _ _)
      | (with_reducible exact LeO.refl _)
      | (with_reducible exact LeO.none _)
      | (with_reducible refine LeO.ite ?_ ?_)
      | (with_reducible refine LeO.bind ?_ (fun _ => ?_))
theorem address_parse4.mono : ∀ a0 k, LeO (address_parse4.f k a0) (address_parse4.f (k + 1) a0) := by
  intro a0 k
  have ih0 := address_parse4.mono_l k
  unfold address_parse4.f
  repeat' first
      | (with_reducible exact ih0 _ _ _ _ _ _)
      | (with_reducible exact address_number.mono _ _ _)
      | (with_reducible exact LeO.refl _)
      | (with_reducible exact LeO.none _)
      | (with_reducible refine LeO.ite ?_ ?_)
      | (with_reducible refine LeO.bind ?_ (fun _ => ?_))
theorem address_parse4.calls (k : Nat) (a0 : ByteArray) (r1 : Bool) (r2 : Int) (r3 : Int) (r4 : Bool) (w : World) (h : address_parse4.f k a0 = some (r1, r2, r3, r4)) (hW_ : WOK w) :
 Calls Tryz.prog 133 #[.string a0] w fun e w' => e = .returned (.tuple #[.agg #[.bool r1, .int .u64 r2, .int .u64 r3], .bool r4]) ∧ Below w.heap.size w w' := by
 have hu31 := Tryz.underlying31
 have HB := Aside0.mk (Below.refl w.heap.size w)
 unfold address_parse4.f at h; have H := h
 clear h
 replace H := Option.bind_eq_some_iff.mp H
 obtain ⟨t193, A20, H⟩ := H
 replace H : (if (t193.length : Int) = 4 then (address_parse4.l0 k t193 (t193.length : Int) 0 false 0 0) else (some (false, 0, 0, false))) = some (r1, r2, r3, r4) := H
 have A2 := Aside0.mk A20; clear A20
 by_cases c3 : (t193.length : Int) = 4
 rotate_left
 · rw [if_neg c3] at H
   have c3b0 : ((t193.length : Int) == 4) = false := beq_eq_false_iff_ne.mpr c3
   have c3b1 : ((t193.length : Int) != 4) = true := bne_iff_ne.mpr c3
   simp only [Option.some.injEq, Prod.mk.injEq] at H
   obtain ⟨rfl, rfl, rfl, rfl⟩ := H
   go_enter Tryz.func133, Tryz.ntmps133
   go_wp2_with (first | ((with_reducible refine gate_dst (N := 2) rfl ?_); refine zx 2 #[.bool false, .int .u64 0, .int .u64 0] 31 ?_; intro gb192 hg w20 hbox hb; have BK192 := Aside0.mk (hbox); have GW192 := zG HB hg; have GE192 := zG HB hg; replace HB := Aside0.mk (below_step (zB HB) hb); clear hb hbox hg) | ((with_reducible refine gate_callee (f := 151) rfl ?_); refine zgl 11 Tryz.func151 #[.string a0, .string (⟨#[46]⟩ : ByteArray)] ?_; (with_reducible refine (strings_Split.calls a0 (⟨#[46]⟩ : ByteArray) t193 _ A2.out (WOK.below hW_ (zB HB))).mono ?_); rintro e w21 ⟨v194, rfl, ho0, hb⟩; refine ⟨_, rfl, ?_⟩; have HO195 := Aside0.mk (Kd.R_lower ho0 (below_size (zB HB))); replace BK192 := zkb BK192 hb; replace HB := Aside0.mk (below_step (zB HB) hb); (try clear hb); (try clear ho0); obtain ⟨Ao22, co22, eo22⟩ := Kd.R_slice HO195.out; subst eo22; obtain ⟨hcz23_0, hcz23_1, hcz23_2⟩ := zc3 BK192; obtain ⟨hfz23_0, hfz23_1, hfz23_2⟩ := zf3 BK192))
   refine bodyPost_ret (results_ct rfl _ _ gb192 31 #[.bool false, .int .u64 0, .int .u64 0] (0, 0) _ rfl (by refine zL ?_; refine blk_put (cs := #[.bool false, .int .u64 0, .int .u64 0]) ?_ 2 _ rfl; refine zL ?_; refine blk_put (cs := #[.bool false, .int .u64 0, .int .u64 0]) ?_ 1 _ rfl; refine zL ?_; refine blk_put (cs := #[.bool false, .int .u64 0, .int .u64 0]) ?_ 0 _ rfl; refine zL ?_; exact BK192.out) Tryz.underlying31 rfl (by kernel_rfl)) rfl ?_
   exact ⟨zr, zB HB⟩
 rw [if_pos c3] at H
 have c3b0 : ((t193.length : Int) == 4) = true := beq_iff_eq.mpr c3; have c3b1 : ((t193.length : Int) != 4) = false := bne_eq_false_iff_eq.mpr c3; clear c3
 have H' := Aside0.mk H
 clear H
 go_enter Tryz.func133, Tryz.ntmps133
 go_wp2_with (first | ((with_reducible refine gate_dst (N := 2) rfl ?_); refine zx 2 #[.bool false, .int .u64 0, .int .u64 0] 31 ?_; intro gb192 hg w4 hbox hb; have BK192 := Aside0.mk (hbox); have GW192 := zG HB hg; have GE192 := zG HB hg; replace HB := Aside0.mk (below_step (zB HB) hb); clear hb hbox hg) | ((with_reducible refine gate_callee (f := 151) rfl ?_); refine zgl 11 Tryz.func151 #[.string a0, .string (⟨#[46]⟩ : ByteArray)] ?_; (with_reducible refine (strings_Split.calls a0 (⟨#[46]⟩ : ByteArray) t193 _ A2.out (WOK.below hW_ (zB HB))).mono ?_); rintro e w5 ⟨v194, rfl, ho0, hb⟩; refine ⟨_, rfl, ?_⟩; have HO195 := Aside0.mk (Kd.R_lower ho0 (below_size (zB HB))); replace BK192 := zkb BK192 hb; replace HB := Aside0.mk (below_step (zB HB) hb); (try clear hb); (try clear ho0); obtain ⟨Ao6, co6, eo6⟩ := Kd.R_slice HO195.out; subst eo6) | ((with_reducible refine gate_dst (N := 5) rfl ?_); refine zx 5 #[.bool false, .int .u64 0, .int .u64 0] 31 ?_; intro gb196 hg w7 hbox hb; replace HO195 := Aside0.mk (Kd.R_below (zR HO195) hb); have BK196 := Aside0.mk (hbox); have GW196 := zG HB hg; have GE196 := zG HB hg; replace HB := Aside0.mk (below_step (zB HB) hb); have NB192_196 := Aside0.mk ((by rw [hg]; exact Nat.ne_of_lt (blk_lt (g := gb192) (o := .cells #[.bool false, .int .u64 0, .int .u64 0] 31 (0, 0)) (zK BK192)) : gb192 ≠ gb196)); have NB196_192 := Aside0.mk ((by rw [hg]; exact Nat.ne_of_gt (blk_lt (g := gb192) (o := .cells #[.bool false, .int .u64 0, .int .u64 0] 31 (0, 0)) (zK BK192)) : gb196 ≠ gb192)); replace BK192 := zkb BK192 hb; clear hb hbox hg))
 go_loopg [18] k (fun kq v18 w' => ∃ (x18_1 : Int) (x193000_1 : Bool) (x193001_1 : Int) (x193002_1 : Int) (x197002_1 : Int), v18 = .int .i64 x18_1 ∧ Aside0 (address_parse4.l0 kq t193 (t193.length : Int) x18_1 false 0 x197002_1 = some (r1, r2, r3, r4)) ∧ Aside0 (kq ≤ k) ∧ Aside0 (Kd.R Kd.string 9 w' w.heap.size (fun _ => True) (.slice Ao6 t193.length co6) t193) ∧ Aside0 (w'.heap[gb192]? = some (.cells #[.bool x193000_1, .int .u64 x193001_1, .int .u64 x193002_1] 31 (0, 0))) ∧ Aside0 (w'.heap[gb196]? = some (.cells #[.bool false, .int .u64 0, .int .u64 x197002_1] 31 (0, 0))) ∧ Aside0 (Below w.heap.size w w'))
 case atStart => exact ⟨(0), (false), (0), (0), (0), zI, H', ⟨Nat.le_refl _⟩, ⟨zR HO195⟩, ⟨zK BK192⟩, ⟨zK BK196⟩, ⟨zB HB⟩⟩
 case round =>
  clear H'
  (try clear c3); (try clear c3b0); (try clear c3b1)
  obtain ⟨x18_1, x193000_1, x193001_1, x193002_1, x197002_1, rfl, HA, HK1, HO_16, BK192, BK196, HB⟩ := hrel
  rcases gk with _ | k1
  · exact absurd HA.out (by simp [address_parse4.l0])
  have H := HA.out
  clear HA
  simp only [address_parse4.l0] at H
  by_cases c8 : x18_1 < (t193.length : Int)
  rotate_left
  · rw [if_neg c8] at H
    have c8b0 : decide (x18_1 < (t193.length : Int)) = false := decide_eq_false c8; clear c8
    simp only [Option.some.injEq, Prod.mk.injEq] at H
    obtain ⟨rfl, rfl, rfl, rfl⟩ := H
    have hnb17 := NB196_192.out
    have hnc17 := NB192_196.out
    obtain ⟨hcz18_0, hcz18_1, hcz18_2⟩ := zc3 BK196; obtain ⟨hfz18_0, hfz18_1, hfz18_2⟩ := zf3 BK196; obtain ⟨hcz19_0, hcz19_1, hcz19_2⟩ := zc3 BK192; obtain ⟨hfz19_0, hfz19_1, hfz19_2⟩ := zf3 BK192
    go_wp2
    refine bodyPost_ret (results_ct rfl _ _ gb192 31 #[.bool false, .int .u64 0, .int .u64 x197002_1] (0, 0) _ rfl (by refine zL ?_; refine blk_put (cs := #[.bool false, .int .u64 0, .int .u64 x193002_1]) ?_ 2 _ rfl; refine zL ?_; refine blk_put (cs := #[.bool false, .int .u64 x193001_1, .int .u64 x193002_1]) ?_ 1 _ rfl; refine zL ?_; refine blk_put (cs := #[.bool x193000_1, .int .u64 x193001_1, .int .u64 x193002_1]) ?_ 0 _ rfl; refine zL ?_; exact BK192.out) Tryz.underlying31 rfl (by kernel_rfl)) rfl ?_
    exact ⟨zr, zB HB⟩
  rw [if_pos c8] at H
  have c8b0 : decide (x18_1 < (t193.length : Int)) = true := decide_eq_true c8; clear c8
  by_cases c9 : 0 ≤ x18_1
  rotate_left
  · rw [if_neg c9] at H
    exact absurd H (by simp)
  rw [if_pos c9] at H
  have c9b0 : decide (0 ≤ x18_1) = true := decide_eq_true c9; clear c9
  by_cases c10 : x18_1 < (t193.length : Int)
  rotate_left
  · rw [if_neg c10] at H
    exact absurd H (by simp)
  rw [if_pos c10] at H
  have c10b0 : decide (x18_1 < (t193.length : Int)) = true := decide_eq_true c10; clear c10
  replace H := Option.bind_eq_some_iff.mp H
  obtain ⟨⟨t198, t199⟩, A110, H⟩ := H
  replace H : (if t199 = true then (address_parse4.l0 k1 t193 (t193.length : Int) (wrap64 (x18_1 + 1)) false 0 (Go.bits .or .u64 (IntKind.u64.wrap (x197002_1 * 256)) (IntKind.u64.wrap (t198)))) else (some (false, 0, 0, false))) = some (r1, r2, r3, r4) := H
  have A11 := Aside0.mk A110; clear A110
  by_cases c12 : t199 = true
  · subst c12
    rw [if_pos rfl] at H
    have H' := Aside0.mk H
    clear H
    have p197 : 0 ≤ (x18_1 : Int) := za
    have q197 : x18_1 < (t193.length : Int) := za
    obtain ⟨ad197, e197, hx197_0⟩ := Kd.at_string (Kd.R_reads' HO_16.out).2.2 x18_1 p197 q197
    cases e197
    replace p197 := eq_true p197
    replace q197 := eq_true q197
    go_wp2_with (first | ((with_reducible refine gate_callee (f := 152) rfl ?_); refine zgl 24 Tryz.func152 #[.string (rdOf ByteArray.empty t193 x18_1), .int .i64 255] ?_; (with_reducible refine (address_number.calls k1 (rdOf ByteArray.empty t193 x18_1) 255 t198 true _ A11.out).mono ?_); rintro e w' ⟨rfl, ⟨nd, rfl⟩⟩; refine ⟨_, rfl, ?_⟩; (try (rw [drewN_self wr]; generalize hq_ : World.drewN wr _ = wr; have n0_ : Aside0 (Kd.R Kd.string 9 wr w.heap.size (fun _ => True) (.slice (some ad197) t193.length co6) t193) := ⟨by rw [← hq_]; exact (zR HO_16)⟩; have n1_ : Aside0 (wr.heap[gb192]? = some (.cells #[.bool x193000_1, .int .u64 x193001_1, .int .u64 x193002_1] 31 (0, 0))) := ⟨by rw [← hq_]; exact (zK BK192)⟩; have n2_ : Aside0 (wr.heap[gb196]? = some (.cells #[.bool false, .int .u64 0, .int .u64 x197002_1] 31 (0, 0))) := ⟨by rw [← hq_]; exact (zK BK196)⟩; have n3_ : Aside0 (Below w.heap.size w wr) := ⟨by rw [← hq_]; exact (zB HB)⟩; clear HO_16 BK192 BK196 HB hq_; have HO_16 := n0_; have BK192 := n1_; have BK196 := n2_; have HB := n3_; clear n0_ n1_ n2_ n3_)); have hnb13 := NB196_192.out; have hnc13 := NB192_196.out; obtain ⟨hcz14_0, hcz14_1, hcz14_2⟩ := zc3 BK196; obtain ⟨hfz14_0, hfz14_1, hfz14_2⟩ := zf3 BK196))
    go_roundg k1
    case measure => have := HK1.out; omega
    case rel => exact ⟨(wrap64 (x18_1 + 1)), (x193000_1), (x193001_1), (x193002_1), (Go.bits .or .u64 (IntKind.u64.wrap (x197002_1 * 256)) (IntKind.u64.wrap (t198))), zI, H', ⟨by have := HK1.out; omega⟩, ⟨by (with_reducible repeat (first | apply Kd.R_alloc | apply Kd.R_drewN | apply Kd.R_drew)); exact Kd.R_mono (Kd.R_far (p := ⟨gb196, 2, none⟩) (Kd.R_types HO_16.out BK196.out (by decide)) (fun _ hk => hk.2) (.int .u64 (Go.bits .or .u64 (IntKind.u64.wrap (x197002_1 * 256)) (IntKind.u64.wrap (t198))))) (fun _ hk => trivial)⟩, ⟨by refine zL ?_; refine blk_far ?_ NB192_196.out _; refine zL ?_; exact BK192.out⟩, ⟨by refine zL ?_; refine blk_put (cs := #[.bool false, .int .u64 0, .int .u64 x197002_1]) ?_ 2 _ rfl; refine zL ?_; exact BK196.out⟩, ⟨zB HB⟩⟩
  replace c12 := Bool.eq_false_iff.mpr c12
  subst c12; rw [if_neg zF] at H
  simp only [Option.some.injEq, Prod.mk.injEq] at H
  obtain ⟨rfl, rfl, rfl, rfl⟩ := H
  have p197 : 0 ≤ (x18_1 : Int) := za
  have q197 : x18_1 < (t193.length : Int) := za
  obtain ⟨ad197, e197, hx197_0⟩ := Kd.at_string (Kd.R_reads' HO_16.out).2.2 x18_1 p197 q197
  cases e197
  replace p197 := eq_true p197
  replace q197 := eq_true q197
  go_wp2_with (first | ((with_reducible refine gate_callee (f := 152) rfl ?_); refine zgl 24 Tryz.func152 #[.string (rdOf ByteArray.empty t193 x18_1), .int .i64 255] ?_; (with_reducible refine (address_number.calls k1 (rdOf ByteArray.empty t193 x18_1) 255 t198 false _ A11.out).mono ?_); rintro e w' ⟨rfl, ⟨nd, rfl⟩⟩; refine ⟨_, rfl, ?_⟩; (try (rw [drewN_self wr]; generalize hq_ : World.drewN wr _ = wr; have n0_ : Aside0 (Kd.R Kd.string 9 wr w.heap.size (fun _ => True) (.slice (some ad197) t193.length co6) t193) := ⟨by rw [← hq_]; exact (zR HO_16)⟩; have n1_ : Aside0 (wr.heap[gb192]? = some (.cells #[.bool x193000_1, .int .u64 x193001_1, .int .u64 x193002_1] 31 (0, 0))) := ⟨by rw [← hq_]; exact (zK BK192)⟩; have n2_ : Aside0 (wr.heap[gb196]? = some (.cells #[.bool false, .int .u64 0, .int .u64 x197002_1] 31 (0, 0))) := ⟨by rw [← hq_]; exact (zK BK196)⟩; have n3_ : Aside0 (Below w.heap.size w wr) := ⟨by rw [← hq_]; exact (zB HB)⟩; clear HO_16 BK192 BK196 HB hq_; have HO_16 := n0_; have BK192 := n1_; have BK196 := n2_; have HB := n3_; clear n0_ n1_ n2_ n3_)); have hnb15 := NB192_196.out; have hnc15 := NB196_192.out; obtain ⟨hcz16_0, hcz16_1, hcz16_2⟩ := zc3 BK192; obtain ⟨hfz16_0, hfz16_1, hfz16_2⟩ := zf3 BK192))
  refine bodyPost_ret (results_ct rfl _ _ gb192 31 #[.bool false, .int .u64 0, .int .u64 0] (0, 0) _ rfl (by refine zL ?_; refine blk_put (cs := #[.bool false, .int .u64 0, .int .u64 x193002_1]) ?_ 2 _ rfl; refine zL ?_; refine blk_put (cs := #[.bool false, .int .u64 x193001_1, .int .u64 x193002_1]) ?_ 1 _ rfl; refine zL ?_; refine blk_put (cs := #[.bool x193000_1, .int .u64 x193001_1, .int .u64 x193002_1]) ?_ 0 _ rfl; refine zL ?_; exact BK192.out) Tryz.underlying31 rfl (by kernel_rfl)) rfl ?_
  exact ⟨zr, zB HB⟩
end Go.Proofs.YtnphnhkinjppjaaGreatDoor.Q
end

section
set_option maxHeartbeats 8000000
set_option maxRecDepth 100000
namespace Go.Proofs.YtnphnhkinjppjaaGreatDoor.Q
open Go.RowKit Go.Proofs.YtnphnhkinjppjaaGreatDoorW.PrintWords Go.Proofs.YtnphnhkinjppjaaGreatDoorW.PrintLast Go.Proofs.YtnphnhkinjppjaaGreatDoorW.PrintMore
attribute [local go_sem] max2_int min2_int max_two min_two max_three min_three max_four min_four
mutual
def address_group.j0 : Nat → ByteArray → Bool → Option (Int × Bool)
  | 0, _, _ => none
  | k + 1, x0, x13 => if x13 = true then (some (0, false)) else (address_group.l0 k x0 0 (x0.size : Int) 0)
def address_group.l0 : Nat → ByteArray → Int → Int → Int → Option (Int × Bool)
  | 0, _, _, _, _ => none
  | k + 1, x0, x4, x15, x16 => if x16 < x15 then (if 0 ≤ x16 then (if x16 < (x0.size : Int) then (if (bt x0 x16) ≥ 48 then (address_group.j2 k x0 x4 (bt x0 x16) x15 x16 (decide ((bt x0 x16) ≤ 57))) else (address_group.j2 k x0 x4 (bt x0 x16) x15 x16 false)) else (none)) else (none)) else (some (x4, true))
def address_group.j2 : Nat → ByteArray → Int → Int → Int → Int → Bool → Option (Int × Bool)
  | 0, _, _, _, _, _, _ => none
  | k + 1, x0, x4, x6, x15, x16, x22 => if x22 = true then (address_group.l0 k x0 (Go.bits .or .u64 (IntKind.u64.wrap (x4 * 16)) ((x6 - 48) % 256)) x15 (wrap64 (x16 + 1))) else (if x6 ≥ 65 then (address_group.j3 k x0 x4 x6 x15 x16 (decide (x6 ≤ 70))) else (address_group.j3 k x0 x4 x6 x15 x16 false))
def address_group.j3 : Nat → ByteArray → Int → Int → Int → Int → Bool → Option (Int × Bool)
  | 0, _, _, _, _, _, _ => none
  | k + 1, x0, x4, x6, x15, x16, x29 => if x29 = true then (address_group.l0 k x0 (Go.bits .or .u64 (IntKind.u64.wrap (x4 * 16)) ((((((x6 + 32) % 256) - 97) % 256) + 10) % 256)) x15 (wrap64 (x16 + 1))) else (if x6 ≥ 97 then (if x6 ≤ 102 then (address_group.l0 k x0 (Go.bits .or .u64 (IntKind.u64.wrap (x4 * 16)) ((((x6 - 97) % 256) + 10) % 256)) x15 (wrap64 (x16 + 1))) else (some (0, false))) else (some (0, false)))
end
def address_group.f (k : Nat) (a0 : ByteArray) : Option (Int × Bool) := if a0.toList = ([] : List UInt8) then (address_group.j0 k a0 true) else (address_group.j0 k a0 (decide ((a0.size : Int) > 4)))
theorem address_group.mono_l : ∀ k, (∀ y0 y1, LeO (address_group.j0 k y0 y1) (address_group.j0 (k + 1) y0 y1)) ∧ (∀ y0 y1 y2 y3, LeO (address_group.l0 k y0 y1 y2 y3) (address_group.l0 (k + 1) y0 y1 y2 y3)) ∧ (∀ y0 y1 y2 y3 y4 y5, LeO (address_group.j2 k y0 y1 y2 y3 y4 y5) (address_group.j2 (k + 1) y0 y1 y2 y3 y4 y5)) ∧ (∀ y0 y1 y2 y3 y4 y5, LeO (address_group.j3 k y0 y1 y2 y3 y4 y5) (address_group.j3 (k + 1) y0 y1 y2 y3 y4 y5))
  | 0 => ⟨fun _ _ r h => by simp [address_group.j0] at h, fun _ _ _ _ r h => by simp [address_group.l0] at h, fun _ _ _ _ _ _ r h => by simp [address_group.j2] at h, fun _ _ _ _ _ _ r h => by simp [address_group.j3] at h⟩
  | k + 1 => by
    obtain ⟨ih0, ih1, ih2, ih3⟩ := address_group.mono_l k
    refine ⟨?_, ?_, ?_, ?_⟩
    · intro y0 y1
      unfold address_group.j0
      repeat' first
      | (with_reducible exact ih0 _ _)
      | (with_reducible exact ih1 _ _ _ _)
      | (with_reducible exact ih2 _ _ _ _ _ _)
      | (with_reducible exact ih3 _ _ _ _ _ _)
      | (with_reducible exact LeO.refl _)
      | (with_reducible exact LeO.none _)
      | (with_reducible refine LeO.ite ?_ ?_)
      | (with_reducible refine LeO.bind ?_ (fun _ => ?_))
    · intro y0 y1 y2 y3
      unfold address_group.l0
      repeat' first
      | (with_reducible exact ih0 _ _)
      | (with_reducible exact ih1 _ _ _ _)
      | (with_reducible exact ih2 _ _ _ _ _ _)
      | (with_reducible exact ih3 _ _ _ _ _ _)
      | (with_reducible exact LeO.refl _)
      | (with_reducible exact LeO.none _)
      | (with_reducible refine LeO.ite ?_ ?_)
      | (with_reducible refine LeO.bind ?_ (fun _ => ?_))
    · intro y0 y1 y2 y3 y4 y5
      unfold address_group.j2
      repeat' first
      | (with_reducible exact ih0 _ _)
      | (with_reducible exact ih1 _ _ _ _)
      | (with_reducible exact ih2 _ _ _ _ _ _)
      | (with_reducible exact ih3 _ _ _ _ _ _)
      | (with_reducible exact LeO.refl _)
      | (with_reducible exact LeO.none _)
      | (with_reducible refine LeO.ite ?_ ?_)
      | (with_reducible refine LeO.bind ?_ (fun _ => ?_))
    · intro y0 y1 y2 y3 y4 y5
      unfold address_group.j3
      repeat' first
      | (with_reducible exact ih0 _ _)
      | (with_reducible exact ih1 _ _ _ _)
      | (with_reducible exact ih2 _ _ _ _ _ _)
      | (with_reducible exact ih3 _ _ _ _ _ _)
      | (with_reducible exact LeO.refl _)
      | (with_reducible exact LeO.none _)
      | (with_reducible refine LeO.ite ?_ ?_)
      | (with_reducible refine LeO.bind ?_ (fun _ => ?_))
theorem address_group.mono : ∀ a0 k, LeO (address_group.f k a0) (address_group.f (k + 1) a0) := by
  intro a0 k
  obtain ⟨ih0, ih1, ih2, ih3⟩ := address_group.mono_l k
  unfold address_group.f
  repeat' first
      | (with_reducible exact ih0 _ _)
      | (with_reducible exact ih1 _ _ _ _)
      | (with_reducible exact ih2 _ _ _ _ _ _)
      | (with_reducible exact ih3 _ _ _ _ _ _)
      | (with_reducible exact LeO.refl _)
      | (with_reducible exact LeO.none _)
      | (with_reducible refine LeO.ite ?_ ?_)
      | (with_reducible refine LeO.bind ?_ (fun _ => ?_))
theorem address_group.calls (k : Nat) (a0 : ByteArray) (r1 : Int) (r2 : Bool) (w : World) (h : address_group.f k a0 = some (r1, r2)) :
 Calls Tryz.prog 166 #[.string a0] w fun e w' => e = .returned (.tuple #[.int .u64 r1, .bool r2]) ∧ Drawn0 w w' := by
 unfold address_group.f at h; have H := h
 clear h; have HC2 := Aside0.mk H; clear H
 go_enter Tryz.func166, Tryz.ntmps166
 go_upto_region 1 with (fail)
 go_cut [13] (fun v13 wc => ∃ (kq : Nat) (x13_1 : Bool), v13 = .bool x13_1 ∧ Aside0 (address_group.j0 kq a0 x13_1 = some (r1, r2)) ∧ Aside0 (kq ≤ k) ∧ Drawn0 w wc)
 case first =>
  have H := HC2.out
  clear HC2
  by_cases c3 : a0.toList = ([] : List UInt8)
  · rw [if_pos c3] at H
    have c3b0 : (a0.toList == ([] : List UInt8)) = true := beq_iff_eq.mpr c3; have c3b1 : (a0.toList != ([] : List UInt8)) = false := bne_eq_false_iff_eq.mpr c3; clear c3
    (first | rw [c3b0] | (simp only [i64_w, i32_w]; rw [c3b0]) | skip)
    have H' := Aside0.mk H
    clear H
    go_wp2
    go_meet
    case rel => exact ⟨_, (true), zI, H', ⟨by first | omega | exact Nat.le_refl _⟩, by repeat (first | exact Drawn0.refl _ | apply Drawn0.step)⟩
  rw [if_neg c3] at H
  have c3b0 : (a0.toList == ([] : List UInt8)) = false := beq_eq_false_iff_ne.mpr c3
  have c3b1 : (a0.toList != ([] : List UInt8)) = true := bne_iff_ne.mpr c3
  (first | rw [c3b0] | (simp only [i64_w, i32_w]; rw [c3b0]) | skip)
  have H' := Aside0.mk H
  clear H
  go_wp2
  go_meet
  case rel => exact ⟨_, (decide ((a0.size : Int) > 4)), zI, H', ⟨by first | omega | exact Nat.le_refl _⟩, by repeat (first | exact Drawn0.refl _ | apply Drawn0.step)⟩
 case rest =>
  clear HC2
  obtain ⟨kq, x13_1, rfl, HA, HJ1, ⟨mc1, rfl⟩⟩ := hcut
  rcases kq with _ | kj1
  · exact absurd HA.out (by simp [address_group.j0])
  have H := HA.out
  clear HA
  simp only [address_group.j0] at H
  by_cases c4 : x13_1 = true
  · subst c4
    rw [if_pos rfl] at H
    simp only [Option.some.injEq, Prod.mk.injEq] at H
    obtain ⟨rfl, rfl⟩ := H
    go_wp2
    go_ret2
    exact ⟨by first | rfl | (simp; done) | (simp [*]; done), by repeat (first | exact Drawn0.refl _ | apply Drawn0.step)⟩
  replace c4 := Bool.eq_false_iff.mpr c4
  subst c4; rw [if_neg zF] at H
  have H' := Aside0.mk H
  clear H
  go_wp2
  go_loopg [4, 16] kj1 (fun kq v4 v16 w' => ∃ (x4_2 : Int) (x16_2 : Int), v4 = .int .u64 x4_2 ∧ v16 = .int .i64 x16_2 ∧ Aside0 (address_group.l0 kq a0 x4_2 (a0.size : Int) x16_2 = some (r1, r2)) ∧ Aside0 (kq ≤ kj1) ∧ Drawn0 w w')
  case atStart => exact ⟨(0), (0), zI, zI, H', ⟨Nat.le_refl _⟩, by repeat (first | exact Drawn0.refl _ | apply Drawn0.step)⟩
  case round =>
   clear H'
   try clear c4
   obtain ⟨x4_2, x16_2, rfl, rfl, HA, HK2, ⟨m2, rfl⟩⟩ := hrel
   rcases gk with _ | k2
   · exact absurd HA.out (by simp [address_group.l0])
   have H := HA.out
   clear HA
   simp only [address_group.l0] at H
   by_cases c5 : x16_2 < (a0.size : Int)
   rotate_left
   · rw [if_neg c5] at H
     have c5b0 : decide (x16_2 < (a0.size : Int)) = false := decide_eq_false c5; clear c5
     simp only [Option.some.injEq, Prod.mk.injEq] at H
     obtain ⟨rfl, rfl⟩ := H
     go_wp2
     go_ret2
     exact ⟨by first | rfl | (simp; done) | (simp [*]; done), by repeat (first | exact Drawn0.refl _ | apply Drawn0.step)⟩
   rw [if_pos c5] at H
   have c5b0 : decide (x16_2 < (a0.size : Int)) = true := decide_eq_true c5; clear c5
   by_cases c6 : 0 ≤ x16_2
   rotate_left
   · rw [if_neg c6] at H
     exact absurd H (by simp)
   rw [if_pos c6] at H
   have c6b0 : decide (0 ≤ x16_2) = true := decide_eq_true c6; clear c6
   by_cases c7 : x16_2 < (a0.size : Int)
   rotate_left
   · rw [if_neg c7] at H
     exact absurd H (by simp)
   rw [if_pos c7] at H
   have c7b0 : decide (x16_2 < (a0.size : Int)) = true := decide_eq_true c7; clear c7; have HC9 := Aside0.mk H; clear H
   have p8 : 0 ≤ (x16_2 : Int) := za
   have q8 : x16_2 < (a0.size : Int) := za
   have hx8 := bt_at a0 x16_2
   replace p8 := eq_true p8
   replace q8 := eq_true q8
   go_upto_region 8 with (fail)
   go_cut [22] (fun v22 wc => ∃ (kq : Nat) (x22_8 : Bool), v22 = .bool x22_8 ∧ Aside0 (address_group.j2 kq a0 x4_2 (bt a0 x16_2) (a0.size : Int) x16_2 x22_8 = some (r1, r2)) ∧ Aside0 (kq ≤ k2) ∧ Drawn0 w wc)
   case first =>
    have H := HC9.out
    clear HC9
    by_cases c10 : (bt a0 x16_2) ≥ 48
    · rw [if_pos c10] at H
      have c10b0 : decide (48 ≤ (bt a0 x16_2)) = true := decide_eq_true c10; clear c10
      (first | rw [c10b0] | (simp only [i64_w, i32_w]; rw [c10b0]) | skip)
      have H' := Aside0.mk H
      clear H
      go_wp2
      go_meet
      case rel => exact ⟨_, (decide ((bt a0 x16_2) ≤ 57)), zI, H', ⟨by have := HJ1.out; have := HK2.out; first | omega | exact Nat.le_refl _⟩, by repeat (first | exact Drawn0.refl _ | apply Drawn0.step)⟩
    rw [if_neg c10] at H
    have c10b0 : decide (48 ≤ (bt a0 x16_2)) = false := decide_eq_false c10; clear c10
    (first | rw [c10b0] | (simp only [i64_w, i32_w]; rw [c10b0]) | skip)
    have H' := Aside0.mk H
    clear H
    go_wp2
    go_meet
    case rel => exact ⟨_, (false), zI, H', ⟨by have := HJ1.out; have := HK2.out; first | omega | exact Nat.le_refl _⟩, by repeat (first | exact Drawn0.refl _ | apply Drawn0.step)⟩
   case rest =>
    clear HC9
    (try clear c5); (try clear c5b0); (try clear c6); (try clear c6b0); (try clear c7); (try clear c7b0); (try clear p8); (try clear q8); (try clear hx8)
    obtain ⟨kq, x22_8, rfl, HA, HJ8, ⟨mc8, rfl⟩⟩ := hcut
    rcases kq with _ | kj8
    · exact absurd HA.out (by simp [address_group.j2])
    have H := HA.out
    clear HA
    simp only [address_group.j2] at H
    by_cases c11 : x22_8 = true
    · subst c11
      rw [if_pos rfl] at H
      have H' := Aside0.mk H
      clear H
      go_wp2
      go_roundg kj8
      case measure => have := HJ1.out; have := HK2.out; have := HJ8.out; omega
      case rel => exact ⟨(Go.bits .or .u64 (IntKind.u64.wrap (x4_2 * 16)) (((bt a0 x16_2) - 48) % 256)), (wrap64 (x16_2 + 1)), zI, zI, H', ⟨by have := HJ1.out; have := HK2.out; have := HJ8.out; omega⟩, by repeat (first | exact Drawn0.refl _ | apply Drawn0.step)⟩
    replace c11 := Bool.eq_false_iff.mpr c11
    subst c11; rw [if_neg zF] at H; have HC12 := Aside0.mk H; clear H
    go_upto_region 9 with (fail)
    go_cut [29] (fun v29 wc => ∃ (kq : Nat) (x29_11 : Bool), v29 = .bool x29_11 ∧ Aside0 (address_group.j3 kq a0 x4_2 (bt a0 x16_2) (a0.size : Int) x16_2 x29_11 = some (r1, r2)) ∧ Aside0 (kq ≤ kj8) ∧ Drawn0 w wc)
    case first =>
     have H := HC12.out
     clear HC12
     by_cases c13 : (bt a0 x16_2) ≥ 65
     · rw [if_pos c13] at H
       have c13b0 : decide (65 ≤ (bt a0 x16_2)) = true := decide_eq_true c13; clear c13
       (first | rw [c13b0] | (simp only [i64_w, i32_w]; rw [c13b0]) | skip)
       have H' := Aside0.mk H
       clear H
       go_wp2
       go_meet
       case rel => exact ⟨_, (decide ((bt a0 x16_2) ≤ 70)), zI, H', ⟨by have := HJ1.out; have := HK2.out; have := HJ8.out; first | omega | exact Nat.le_refl _⟩, by repeat (first | exact Drawn0.refl _ | apply Drawn0.step)⟩
     rw [if_neg c13] at H
     have c13b0 : decide (65 ≤ (bt a0 x16_2)) = false := decide_eq_false c13; clear c13
     (first | rw [c13b0] | (simp only [i64_w, i32_w]; rw [c13b0]) | skip)
     have H' := Aside0.mk H
     clear H
     go_wp2
     go_meet
     case rel => exact ⟨_, (false), zI, H', ⟨by have := HJ1.out; have := HK2.out; have := HJ8.out; first | omega | exact Nat.le_refl _⟩, by repeat (first | exact Drawn0.refl _ | apply Drawn0.step)⟩
    case rest =>
     clear HC12
     try clear c11
     obtain ⟨kq, x29_11, rfl, HA, HJ11, ⟨mc11, rfl⟩⟩ := hcut
     rcases kq with _ | kj11
     · exact absurd HA.out (by simp [address_group.j3])
     have H := HA.out
     clear HA
     simp only [address_group.j3] at H
     by_cases c14 : x29_11 = true
     · subst c14
       rw [if_pos rfl] at H
       have H' := Aside0.mk H
       clear H
       go_wp2
       go_roundg kj11
       case measure => have := HJ1.out; have := HK2.out; have := HJ8.out; have := HJ11.out; omega
       case rel => exact ⟨(Go.bits .or .u64 (IntKind.u64.wrap (x4_2 * 16)) (((((((bt a0 x16_2) + 32) % 256) - 97) % 256) + 10) % 256)), (wrap64 (x16_2 + 1)), zI, zI, H', ⟨by have := HJ1.out; have := HK2.out; have := HJ8.out; have := HJ11.out; omega⟩, by repeat (first | exact Drawn0.refl _ | apply Drawn0.step)⟩
     replace c14 := Bool.eq_false_iff.mpr c14
     subst c14; rw [if_neg zF] at H
     by_cases c15 : (bt a0 x16_2) ≥ 97
     · rw [if_pos c15] at H
       have c15b0 : decide (97 ≤ (bt a0 x16_2)) = true := decide_eq_true c15; clear c15
       by_cases c16 : (bt a0 x16_2) ≤ 102
       · rw [if_pos c16] at H
         have c16b0 : decide ((bt a0 x16_2) ≤ 102) = true := decide_eq_true c16; clear c16
         have H' := Aside0.mk H
         clear H
         go_wp2
         go_roundg kj11
         case measure => have := HJ1.out; have := HK2.out; have := HJ8.out; have := HJ11.out; omega
         case rel => exact ⟨(Go.bits .or .u64 (IntKind.u64.wrap (x4_2 * 16)) (((((bt a0 x16_2) - 97) % 256) + 10) % 256)), (wrap64 (x16_2 + 1)), zI, zI, H', ⟨by have := HJ1.out; have := HK2.out; have := HJ8.out; have := HJ11.out; omega⟩, by repeat (first | exact Drawn0.refl _ | apply Drawn0.step)⟩
       rw [if_neg c16] at H
       have c16b0 : decide ((bt a0 x16_2) ≤ 102) = false := decide_eq_false c16; clear c16
       simp only [Option.some.injEq, Prod.mk.injEq] at H
       obtain ⟨rfl, rfl⟩ := H
       go_wp2
       go_ret2
       exact ⟨by first | rfl | (simp; done) | (simp [*]; done), by repeat (first | exact Drawn0.refl _ | apply Drawn0.step)⟩
     rw [if_neg c15] at H
     have c15b0 : decide (97 ≤ (bt a0 x16_2)) = false := decide_eq_false c15; clear c15
     simp only [Option.some.injEq, Prod.mk.injEq] at H
     obtain ⟨rfl, rfl⟩ := H
     go_wp2
     go_ret2
     exact ⟨by first | rfl | (simp; done) | (simp [*]; done), by repeat (first | exact Drawn0.refl _ | apply Drawn0.step)⟩
def address_groups.l0 : Nat → List Int → List ByteArray → Int → Int → Option (List Int × Bool)
  | 0, _, _, _, _ => none
  | k + 1, x4, x12, x13, x14 => if x14 < x13 then (if 0 ≤ x14 then (if x14 < (x12.length : Int) then ((address_group.f k (rdOf ByteArray.empty x12 x14)).bind fun bt204 => (if bt204.2 = true then (if x4.length < 17592186044416 then (address_groups.l0 k (x4 ++ [bt204.1]) x12 x13 (wrap64 (x14 + 1))) else (none)) else (some (([] : List Int), false)))) else (none)) else (none)) else (some (x4, true))
def address_groups.f (k : Nat) (a0 : ByteArray) : Option (List Int × Bool) := if a0.toList = ([] : List UInt8) then (some (([] : List Int), true)) else ((strings_Split.f a0 (⟨#[58]⟩ : ByteArray)).bind fun t200 => (address_groups.l0 k ([] : List Int) t200 (t200.length : Int) 0))
theorem address_groups.mono_l : ∀ k, (∀ y0 y1 y2 y3, LeO (address_groups.l0 k y0 y1 y2 y3) (address_groups.l0 (k + 1) y0 y1 y2 y3))
  | 0 => fun _ _ _ _ r h => by simp [address_groups.l0] at h
  | k + 1 => by
    have ih0 := address_groups.mono_l k
    · intro y0 y1 y2 y3
      unfold address_groups.l0
      repeat' first
      | (with_reducible exact ih0 _ _ _ _)
      | (with_reducible exact address_group.mono _ _)
      | (with_reducible exact LeO.refl _)
      | (with_reducible exact LeO.none _)
      | (with_reducible refine LeO.ite ?_ ?_)
      | (with_reducible refine LeO.bind ?_ (fun _ => ?_))
theorem address_groups.mono : ∀ a0 k, LeO (address_groups.f k a0) (address_groups.f (k + 1) a0) := by
  intro a0 k
  have ih0 := address_groups.mono_l k
  unfold address_groups.f
  repeat' first
      | (with_reducible exact ih0 _ _ _ _)
      | (with_reducible exact address_group.mono _ _)
      | (with_reducible exact LeO.refl _)
      | (with_reducible exact LeO.none _)
      | (with_reducible refine LeO.ite ?_ ?_)
      | (with_reducible refine LeO.bind ?_ (fun _ => ?_))
theorem address_groups.calls (k : Nat) (a0 : ByteArray) (r1 : List Int) (r2 : Bool) (w : World) (h : address_groups.f k a0 = some (r1, r2)) (hW_ : WOK w) :
 Calls Tryz.prog 153 #[.string a0] w fun e w' => ∃ v0_ : Value, e = .returned (.tuple #[v0_, .bool r2]) ∧ Kd.R (Kd.int .u64) 29 w' w.heap.size (fun _ => True) v0_ r1 ∧ Below w.heap.size w w' := by
 have HB := Aside0.mk (Below.refl w.heap.size w)
 unfold address_groups.f at h; have H := h
 clear h
 by_cases c2 : a0.toList = ([] : List UInt8)
 · rw [if_pos c2] at H
   have c2b0 : (a0.toList == ([] : List UInt8)) = true := beq_iff_eq.mpr c2; have c2b1 : (a0.toList != ([] : List UInt8)) = false := bne_eq_false_iff_eq.mpr c2; clear c2
   simp only [Option.some.injEq, Prod.mk.injEq] at H
   obtain ⟨rfl, rfl⟩ := H
   go_enter Tryz.func153, Tryz.ntmps153
   go_wp2
   go_ret2
   exact ⟨_, by first | rfl | (simp [errW_none, errW_some] <;> rfl) | (simp [*, errW_none, errW_some] <;> rfl), by first | exact Kd.R_nil _ _ _ _ _ | exact Kd.N_nil _ _ _ _ _ | exact Kd.V_nil _ _ _ _ _ | exact Kd.Q_nil _ _ _ _ _ | exact Kd.S_nil _ _ _ _ _, by repeat (first | (with_reducible first | exact HB.out | apply below_alloc | apply pw_below_drewN | apply below_drew1) | exact HB.out)⟩
 rw [if_neg c2] at H
 have c2b0 : (a0.toList == ([] : List UInt8)) = false := beq_eq_false_iff_ne.mpr c2
 have c2b1 : (a0.toList != ([] : List UInt8)) = true := bne_iff_ne.mpr c2
 replace H := Option.bind_eq_some_iff.mp H
 obtain ⟨t200, A30, H⟩ := H
 replace H : (address_groups.l0 k ([] : List Int) t200 (t200.length : Int) 0) = some (r1, r2) := H
 have A3 := Aside0.mk A30; clear A30
 have H' := Aside0.mk H
 clear H
 go_enter Tryz.func153, Tryz.ntmps153
 go_wp2_with (first | ((with_reducible refine gate_callee (f := 151) rfl ?_); refine zgl 12 Tryz.func151 #[.string a0, .string (⟨#[58]⟩ : ByteArray)] ?_; (with_reducible refine (strings_Split.calls a0 (⟨#[58]⟩ : ByteArray) t200 _ A3.out (WOK.below hW_ (zB HB))).mono ?_); rintro e w4 ⟨v201, rfl, ho0, hb⟩; refine ⟨_, rfl, ?_⟩; have HO202 := Aside0.mk (Kd.R_lower ho0 (below_size (zB HB))); replace HB := Aside0.mk (below_step (zB HB) hb); (try clear hb); (try clear ho0); obtain ⟨Ao5, co5, eo5⟩ := Kd.R_slice HO202.out; subst eo5))
 go_loopg [4, 14] k (fun kq v4 v14 w' => ∃ (x4_1 : List Int) (x14_1 : Int), v14 = .int .i64 x14_1 ∧ Aside0 (address_groups.l0 kq x4_1 t200 (t200.length : Int) x14_1 = some (r1, r2)) ∧ Aside0 (kq ≤ k) ∧ Aside0 (Kd.R (Kd.int .u64) 29 w' w.heap.size (fun _ => True) v4 x4_1) ∧ Aside0 (Kd.R Kd.string 9 w' w.heap.size (fun _ => True) (.slice Ao5 t200.length co5) t200) ∧ Aside0 (Below w.heap.size w w'))
 case atStart => exact ⟨(([] : List Int)), (0), zI, H', ⟨Nat.le_refl _⟩, ⟨by first | exact Kd.R_nil _ _ _ _ _ | exact Kd.N_nil _ _ _ _ _ | exact Kd.V_nil _ _ _ _ _ | exact Kd.Q_nil _ _ _ _ _ | exact Kd.S_nil _ _ _ _ _⟩, ⟨zR HO202⟩, ⟨zB HB⟩⟩
 case round =>
  clear H'
  (try clear c2); (try clear c2b0); (try clear c2b1)
  obtain ⟨x4_1, x14_1, rfl, HA, HK1, HO_4, HO_12, HB⟩ := hrel
  rcases gk with _ | k1
  · exact absurd HA.out (by simp [address_groups.l0])
  have H := HA.out
  clear HA
  simp only [address_groups.l0] at H
  by_cases c6 : x14_1 < (t200.length : Int)
  rotate_left
  · rw [if_neg c6] at H
    have c6b0 : decide (x14_1 < (t200.length : Int)) = false := decide_eq_false c6; clear c6
    simp only [Option.some.injEq, Prod.mk.injEq] at H
    obtain ⟨rfl, rfl⟩ := H
    go_wp2
    go_ret2
    exact ⟨_, by first | rfl | (simp [errW_none, errW_some] <;> rfl) | (simp [*, errW_none, errW_some] <;> rfl), by (with_reducible repeat (first | apply Kd.R_alloc | apply Kd.R_drewN | apply Kd.R_drew)); exact HO_4.out, by repeat (first | (with_reducible first | exact HB.out | apply below_alloc | apply pw_below_drewN | apply below_drew1) | exact HB.out)⟩
  rw [if_pos c6] at H
  have c6b0 : decide (x14_1 < (t200.length : Int)) = true := decide_eq_true c6; clear c6
  by_cases c7 : 0 ≤ x14_1
  rotate_left
  · rw [if_neg c7] at H
    exact absurd H (by simp)
  rw [if_pos c7] at H
  have c7b0 : decide (0 ≤ x14_1) = true := decide_eq_true c7; clear c7
  by_cases c8 : x14_1 < (t200.length : Int)
  rotate_left
  · rw [if_neg c8] at H
    exact absurd H (by simp)
  rw [if_pos c8] at H
  have c8b0 : decide (x14_1 < (t200.length : Int)) = true := decide_eq_true c8; clear c8
  replace H := Option.bind_eq_some_iff.mp H
  obtain ⟨⟨t204, t205⟩, A90, H⟩ := H
  replace H : (if t205 = true then (if x4_1.length < 17592186044416 then (address_groups.l0 k1 (x4_1 ++ [t204]) t200 (t200.length : Int) (wrap64 (x14_1 + 1))) else (none)) else (some (([] : List Int), false))) = some (r1, r2) := H
  have A9 := Aside0.mk A90; clear A90
  by_cases c10 : t205 = true
  · subst c10
    rw [if_pos rfl] at H
    by_cases c11 : x4_1.length < 17592186044416
    rotate_left
    · rw [if_neg c11] at H
      exact absurd H (by simp)
    rw [if_pos c11] at H; have LMc11 := Aside0.mk c11; clear c11
    obtain ⟨y206, hy206⟩ : ∃ y_ : List Int, y_ = (x4_1 ++ [t204]) := ⟨_, rfl⟩
    rw [← hy206] at H; try dsimp only [Option.bind_some] at H
    have Ny206 := Aside0.mk hy206; clear hy206
    have H' := Aside0.mk H
    clear H
    have p203 : 0 ≤ (x14_1 : Int) := za
    have q203 : x14_1 < (t200.length : Int) := za
    obtain ⟨ad203, e203, hx203_0⟩ := Kd.at_string (Kd.R_reads' HO_12.out).2.2 x14_1 p203 q203
    cases e203
    replace p203 := eq_true p203
    replace q203 := eq_true q203
    go_wp2_with (first | ((with_reducible refine gate_callee (f := 166) rfl ?_); refine zgl 20 Tryz.func166 #[.string (rdOf ByteArray.empty t200 x14_1)] ?_; (with_reducible refine (address_group.calls k1 (rdOf ByteArray.empty t200 x14_1) t204 true _ A9.out).mono ?_); rintro e w' ⟨rfl, ⟨nd, rfl⟩⟩; refine ⟨_, rfl, ?_⟩) | ((with_reducible refine gate_builtin (b := .append) (xs := #[.tmp 25, .tmp 27]) rfl ?_); at_builtin; refine Kd.R_append (Kd.int .u64) (w0 := w) w.heap.size rfl (.tmp 25) (.tmp 27) 174 29 (.int .u64 0) 8 rfl Tryz.underlying174 info29 rfl (by decide) (by omega) u4 x4_1 t204 [.int .u64 t204] (fun _ => True) (fun _ => False) rfl rfl ?aP (fun _ hk => hk.elim) ?aF ?aO ?aB ?aS ?aL ?_; (case aP => exact rfl); (case aB => exact (zB HB)); (case aF => exact (fun _ _ => trivial)); (case aO => exact (zR HO_4)); (case aS => exact (below_size (zB HB))); (case aL => have := LMc11.out; omega); intro v207 w12 ho hb hg hat; rw [← Ny206.out] at ho; replace HO_12 := Aside0.mk (Kd.R_over' (zR HO_12) (Kd.R_typed (zR HO_4)) (by decide) hg); replace HB := Aside0.mk (hb); have HO208 := Aside0.mk (ho); clear HO_4; clear ho hb hg hat))
    go_roundg k1
    case measure => have := HK1.out; omega
    case rel => exact ⟨(y206), (wrap64 (x14_1 + 1)), zI, H', ⟨by have := HK1.out; omega⟩, ⟨zR HO208⟩, ⟨zR HO_12⟩, ⟨zB HB⟩⟩
  replace c10 := Bool.eq_false_iff.mpr c10
  subst c10; rw [if_neg zF] at H
  simp only [Option.some.injEq, Prod.mk.injEq] at H
  obtain ⟨rfl, rfl⟩ := H
  have p203 : 0 ≤ (x14_1 : Int) := za
  have q203 : x14_1 < (t200.length : Int) := za
  obtain ⟨ad203, e203, hx203_0⟩ := Kd.at_string (Kd.R_reads' HO_12.out).2.2 x14_1 p203 q203
  cases e203
  replace p203 := eq_true p203
  replace q203 := eq_true q203
  go_wp2_with (first | ((with_reducible refine gate_callee (f := 166) rfl ?_); refine zgl 20 Tryz.func166 #[.string (rdOf ByteArray.empty t200 x14_1)] ?_; (with_reducible refine (address_group.calls k1 (rdOf ByteArray.empty t200 x14_1) t204 false _ A9.out).mono ?_); rintro e w' ⟨rfl, ⟨nd, rfl⟩⟩; refine ⟨_, rfl, ?_⟩))
  go_ret2
  exact ⟨_, by first | rfl | (simp [errW_none, errW_some] <;> rfl) | (simp [*, errW_none, errW_some] <;> rfl), by first | exact Kd.R_nil _ _ _ _ _ | exact Kd.N_nil _ _ _ _ _ | exact Kd.V_nil _ _ _ _ _ | exact Kd.Q_nil _ _ _ _ _ | exact Kd.S_nil _ _ _ _ _, by repeat (first | (with_reducible first | exact HB.out | apply below_alloc | apply pw_below_drewN | apply below_drew1) | exact HB.out)⟩
end Go.Proofs.YtnphnhkinjppjaaGreatDoor.Q
end

section
set_option maxHeartbeats 8000000
set_option maxRecDepth 100000
namespace Go.Proofs.YtnphnhkinjppjaaGreatDoor.Q
open Go.RowKit Go.Proofs.YtnphnhkinjppjaaGreatDoorW.PrintWords Go.Proofs.YtnphnhkinjppjaaGreatDoorW.PrintLast Go.Proofs.YtnphnhkinjppjaaGreatDoorW.PrintMore
attribute [local go_sem] max2_int min2_int max_two min_two max_three min_three max_four min_four
mutual
def address_parse6.j2 : Nat → List Int → List Int → Option (Bool × Int × Int × Bool)
  | 0, _, _ => none
  | k + 1, x7, x9 => address_parse6.l0 k x7 x9
def address_parse6.l0 : Nat → List Int → List Int → Option (Bool × Int × Int × Bool)
  | 0, _, _ => none
  | k + 1, x7, x9 => if (wrap64 ((x7.length : Int) + (x9.length : Int))) < 8 then (if x7.length < 17592186044416 then (address_parse6.l0 k (x7 ++ [0]) x9) else (none)) else (if x7.length + x9.length < 17592186044416 then ((some (x7 ++ x9 : List Int)).bind fun y225 => (address_parse6.l1 k y225 (y225.length : Int) 0 true 0 0)) else (none))
def address_parse6.l1 : Nat → List Int → Int → Int → Bool → Int → Int → Option (Bool × Int × Int × Bool)
  | 0, _, _, _, _, _, _ => none
  | k + 1, x70, x71, x72, x225000, x225001, x225002 => if x72 < x71 then (if 0 ≤ x72 then (if x72 < (x70.length : Int) then (if x72 < 4 then (address_parse6.l1 k x70 x71 (wrap64 (x72 + 1)) x225000 (Go.bits .or .u64 (IntKind.u64.wrap (x225001 * 65536)) (rd x70 x72)) x225002) else (address_parse6.l1 k x70 x71 (wrap64 (x72 + 1)) x225000 x225001 (Go.bits .or .u64 (IntKind.u64.wrap (x225002 * 65536)) (rd x70 x72)))) else (none)) else (none)) else (some (x225000, x225001, x225002, true))
def address_parse6.j0 : Nat → Bool → List Int → List Int → Bool → Option (Bool × Int × Int × Bool)
  | 0, _, _, _, _ => none
  | k + 1, x6, x7, x9, x30 => if x30 = true then (some (false, 0, 0, false)) else (if x6 = true then (address_parse6.j1 k x6 x7 x9 false) else (address_parse6.j1 k x6 x7 x9 ((x7.length : Int) != 8)))
def address_parse6.j1 : Nat → Bool → List Int → List Int → Bool → Option (Bool × Int × Int × Bool)
  | 0, _, _, _, _ => none
  | k + 1, x6, x7, x9, x38 => if x38 = true then (some (false, 0, 0, false)) else (if x6 = true then (if (wrap64 ((x7.length : Int) + (x9.length : Int))) > 7 then (some (false, 0, 0, false)) else (address_parse6.j2 k x7 x9)) else (address_parse6.j2 k x7 x9))
end
def address_parse6.f (k : Nat) (a0 : ByteArray) : Option (Bool × Int × Int × Bool) := (strings_Cut.f a0 (⟨#[58, 58]⟩ : ByteArray)).bind fun bt210 => ((address_groups.f k bt210.1).bind fun bt213 => ((address_groups.f k bt210.2.1).bind fun bt217 => (if bt213.2 = true then (address_parse6.j0 k bt210.2.2 bt213.1 bt217.1 (!bt217.2)) else (address_parse6.j0 k bt210.2.2 bt213.1 bt217.1 true))))
theorem address_parse6.mono_l : ∀ k, (∀ y0 y1, LeO (address_parse6.j2 k y0 y1) (address_parse6.j2 (k + 1) y0 y1)) ∧ (∀ y0 y1, LeO (address_parse6.l0 k y0 y1) (address_parse6.l0 (k + 1) y0 y1)) ∧ (∀ y0 y1 y2 y3 y4 y5, LeO (address_parse6.l1 k y0 y1 y2 y3 y4 y5) (address_parse6.l1 (k + 1) y0 y1 y2 y3 y4 y5)) ∧ (∀ y0 y1 y2 y3, LeO (address_parse6.j0 k y0 y1 y2 y3) (address_parse6.j0 (k + 1) y0 y1 y2 y3)) ∧ (∀ y0 y1 y2 y3, LeO (address_parse6.j1 k y0 y1 y2 y3) (address_parse6.j1 (k + 1) y0 y1 y2 y3))
  | 0 => ⟨fun _ _ r h => by simp [address_parse6.j2] at h, fun _ _ r h => by simp [address_parse6.l0] at h, fun _ _ _ _ _ _ r h => by simp [address_parse6.l1] at h, fun _ _ _ _ r h => by simp [address_parse6.j0] at h, fun _ _ _ _ r h => by simp [address_parse6.j1] at h⟩
  | k + 1 => by
    obtain ⟨ih0, ih1, ih2, ih3, ih4⟩ := address_parse6.mono_l k
    refine ⟨?_, ?_, ?_, ?_, ?_⟩
    · intro y0 y1
      unfold address_parse6.j2
      repeat' first
      | (with_reducible exact ih0 _ _)
      | (with_reducible exact ih1 _ _)
      | (with_reducible exact ih2 _ _ _ _ _ _)
      | (with_reducible exact ih3 _ _ _ _)
      | (with_reducible exact ih4 _ _ _ _)
      | (with_reducible exact address_groups.mono _ _)
      | (with_reducible exact LeO.refl _)
      | (with_reducible exact LeO.none _)
      | (with_reducible refine LeO.ite ?_ ?_)
      | (with_reducible refine LeO.bind ?_ (fun _ => ?_))
    · intro y0 y1
      unfold address_parse6.l0
      repeat' first
      | (with_reducible exact ih0 _ _)
      | (with_reducible exact ih1 _ _)
      | (with_reducible exact ih2 _ _ _ _ _ _)
      | (with_reducible exact ih3 _ _ _ _)
      | (with_reducible exact ih4 _ _ _ _)
      | (with_reducible exact address_groups.mono _ _)
      | (with_reducible exact LeO.refl _)
      | (with_reducible exact LeO.none _)
      | (with_reducible refine LeO.ite ?_ ?_)
      | (with_reducible refine LeO.bind ?_ (fun _ => ?_))
    · intro y0 y1 y2 y3 y4 y5
      unfold address_parse6.l1
      repeat' first
      | (with_reducible exact ih0 _ _)
      | (with_reducible exact ih1 _ _)
      | (with_reducible exact ih2 _ _ _ _ _ _)
      | (with_reducible exact ih3 _ _ _ _)
      | (with_reducible exact ih4 _ _ _ _)
      | (with_reducible exact address_groups.mono _ _)
      | (with_reducible exact LeO.refl _)
      | (with_reducible exact LeO.none _)
      | (with_reducible refine LeO.ite ?_ ?_)
      | (with_reducible refine LeO.bind ?_ (fun _ => ?_))
    · intro y0 y1 y2 y3
      unfold address_parse6.j0
      repeat' first
      | (with_reducible exact ih0 _ _)
      | (with_reducible exact ih1 _ _)
      | (with_reducible exact ih2 _ _ _ _ _ _)
      | (with_reducible exact ih3 _ _ _ _)
      | (with_reducible exact ih4 _ _ _ _)
      | (with_reducible exact address_groups.mono _ _)
      | (with_reducible exact LeO.refl _)
      | (with_reducible exact LeO.none _)
      | (with_reducible refine LeO.ite ?_ ?_)
      | (with_reducible refine LeO.bind ?_ (fun _ => ?_))
    · intro y0 y1 y2 y3
      unfold address_parse6.j1
      repeat' first
      | (with_reducible exact ih0 _ _)
      | (with_reducible exact ih1 _ _)
      | (with_reducible exact ih2 _ _ _ _ _ _)
      | (with_reducible exact ih3 _ _ _ _)
      | (with_reducible exact ih4 _ _ _ _)
      | (with_reducible exact address_groups.mono _ _)
      | (with_reducible exact LeO.refl _)
      | (with_reducible exact LeO.none _)
      | (with_reducible refine LeO.ite ?_ ?_)
      | (with_reducible refine LeO.bind ?_ (fun _ => ?_))
theorem address_parse6.mono : ∀ a0 k, LeO (address_parse6.f k a0) (address_parse6.f (k + 1) a0) := by
  intro a0 k
  obtain ⟨ih0, ih1, ih2, ih3, ih4⟩ := address_parse6.mono_l k
  unfold address_parse6.f
  repeat' first
      | (with_reducible exact ih0 _ _)
      | (with_reducible exact ih1 _ _)
      | (with_reducible exact ih2 _ _ _ _ _ _)
      | (with_reducible exact ih3 _ _ _ _)
      | (with_reducible exact ih4 _ _ _ _)
      | (with_reducible exact address_groups.mono _ _)
      | (with_reducible exact LeO.refl _)
      | (with_reducible exact LeO.none _)
      | (with_reducible refine LeO.ite ?_ ?_)
      | (with_reducible refine LeO.bind ?_ (fun _ => ?_))
theorem address_parse6.calls (k : Nat) (a0 : ByteArray) (r1 : Bool) (r2 : Int) (r3 : Int) (r4 : Bool) (w : World) (h : address_parse6.f k a0 = some (r1, r2, r3, r4)) (hW_ : WOK w) :
 Calls Tryz.prog 134 #[.string a0] w fun e w' => e = .returned (.tuple #[.agg #[.bool r1, .int .u64 r2, .int .u64 r3], .bool r4]) ∧ Below w.heap.size w w' := by
 have hu31 := Tryz.underlying31
 have HB := Aside0.mk (Below.refl w.heap.size w)
 unfold address_parse6.f at h; have H := h
 clear h
 replace H := Option.bind_eq_some_iff.mp H
 obtain ⟨⟨t210, t211, t212⟩, A20, H⟩ := H
 replace H : ((address_groups.f k t210).bind fun bt213 => ((address_groups.f k t211).bind fun bt217 => (if bt213.2 = true then (address_parse6.j0 k t212 bt213.1 bt217.1 (!bt217.2)) else (address_parse6.j0 k t212 bt213.1 bt217.1 true)))) = some (r1, r2, r3, r4) := H
 have A2 := Aside0.mk A20; clear A20
 replace H := Option.bind_eq_some_iff.mp H
 obtain ⟨⟨t213, t214⟩, A30, H⟩ := H
 replace H : ((address_groups.f k t211).bind fun bt217 => (if t214 = true then (address_parse6.j0 k t212 t213 bt217.1 (!bt217.2)) else (address_parse6.j0 k t212 t213 bt217.1 true))) = some (r1, r2, r3, r4) := H
 have A3 := Aside0.mk A30; clear A30
 replace H := Option.bind_eq_some_iff.mp H
 obtain ⟨⟨t217, t218⟩, A40, H⟩ := H
 replace H : (if t214 = true then (address_parse6.j0 k t212 t213 t217 (!t218)) else (address_parse6.j0 k t212 t213 t217 true)) = some (r1, r2, r3, r4) := H
 have A4 := Aside0.mk A40; clear A40; have HC5 := Aside0.mk H; clear H
 go_enter Tryz.func134, Tryz.ntmps134
 go_upto_block 0 with (first | ((with_reducible refine gate_dst (N := 2) rfl ?_); (try (refine gate_guard (by rfl) ?_; dsimp only)); refine zx 2 #[.bool false, .int .u64 0, .int .u64 0] 31 ?_; intro gb209 hg w6 hbox hb; have BK209 := Aside0.mk (hbox); have GW209 := zG HB hg; have GE209 := zG HB hg; replace HB := Aside0.mk (below_step (zB HB) hb); clear hb hbox hg) | ((with_reducible refine gate_callee (f := 104) rfl ?_); refine zgl 16 Tryz.func104 #[.string a0, .string (⟨#[58, 58]⟩ : ByteArray)] ?_; (with_reducible refine (strings_Cut.calls a0 (⟨#[58, 58]⟩ : ByteArray) t210 t211 t212 _ A2.out (WOK.below hW_ (zB HB))).mono ?_); rintro e w7 ⟨rfl, hb⟩; refine ⟨_, rfl, ?_⟩; replace BK209 := zkb BK209 hb; replace HB := Aside0.mk (below_step (zB HB) hb); (try clear hb)) | ((with_reducible refine gate_callee (f := 153) rfl ?_); refine zgl 22 Tryz.func153 #[.string t210] ?_; (with_reducible refine (address_groups.calls k t210 t213 t214 _ A3.out (WOK.below hW_ (zB HB))).mono ?_); rintro e w8 ⟨v215, rfl, ho0, hb⟩; refine ⟨_, rfl, ?_⟩; have HO216 := Aside0.mk (Kd.R_lower ho0 (below_size (zB HB))); replace BK209 := zkb BK209 hb; replace HB := Aside0.mk (below_step (zB HB) hb); (try clear hb); (try clear ho0)) | ((with_reducible refine gate_callee (f := 153) rfl ?_); refine zgl 27 Tryz.func153 #[.string t211] ?_; (with_reducible refine (address_groups.calls k t211 t217 t218 _ A4.out (WOK.below hW_ (zB HB))).mono ?_); rintro e w9 ⟨v219, rfl, ho0, hb⟩; refine ⟨_, rfl, ?_⟩; have HO220 := Aside0.mk (Kd.R_lower (Kd.R_new' ho0 (Kd.R_lt (zR HO216))) (below_size (zB HB))); replace HO216 := Aside0.mk (Kd.R_elder' (zR HO216) (Kd.R_base ho0) hb); replace BK209 := zkb BK209 hb; replace HB := Aside0.mk (below_step (zB HB) hb); (try clear hb); (try clear ho0)))
 (try simp only [Act.put, List.setIfInBounds_toArray, List.set_cons_zero, List.set_cons_succ])
 go_cut [] (fun wc => ∃ (kq : Nat) (x210000_4 : Bool) (x210001_4 : Int) (x210002_4 : Int), Aside0 (address_parse6.j2 kq t213 t217 = some (r1, r2, r3, r4)) ∧ Aside0 (kq ≤ k) ∧ Aside0 (Kd.R (Kd.int .u64) 29 wc w.heap.size (fun k_ => some k_ ≠ (v219 : Value).ownBlock) v215 t213) ∧ Aside0 (Kd.R (Kd.int .u64) 29 wc w.heap.size (fun k_ => some k_ ≠ (v215 : Value).ownBlock) v219 t217) ∧ Aside0 (wc.heap[gb209]? = some (.cells #[.bool x210000_4, .int .u64 x210001_4, .int .u64 x210002_4] 31 (0, 0))) ∧ Aside0 (Below w.heap.size w wc))
 case first =>
  have H := HC5.out
  clear HC5; have HC10 := Aside0.mk H; clear H
  go_upto_region 4 with (fail)
  go_cut [30] (fun v30 wc => ∃ (kq : Nat) (x30_9 : Bool), v30 = .bool x30_9 ∧ Aside0 (address_parse6.j0 kq t212 t213 t217 x30_9 = some (r1, r2, r3, r4)) ∧ Aside0 (kq ≤ k) ∧ Aside0 (Kd.R (Kd.int .u64) 29 wc w.heap.size (fun k_ => some k_ ≠ (v219 : Value).ownBlock) v215 t213) ∧ Aside0 (Kd.R (Kd.int .u64) 29 wc w.heap.size (fun k_ => some k_ ≠ (v215 : Value).ownBlock) v219 t217) ∧ Aside0 (wc.heap[gb209]? = some (.cells #[.bool false, .int .u64 0, .int .u64 0] 31 (0, 0))) ∧ Aside0 (Below w.heap.size w wc))
  case first =>
   have H := HC10.out
   clear HC10
   by_cases c11 : t214 = true
   · subst c11
     rw [if_pos rfl] at H
     have H' := Aside0.mk H
     clear H
     go_wp2
     go_meet
     case rel => exact ⟨_, (!t218), zI, H', ⟨by first | omega | exact Nat.le_refl _⟩, ⟨by (with_reducible repeat (first | apply Kd.R_alloc | apply Kd.R_drewN | apply Kd.R_drew)); exact Kd.R_mono HO216.out (fun _ hk => hk.2)⟩, ⟨by (with_reducible repeat (first | apply Kd.R_alloc | apply Kd.R_drewN | apply Kd.R_drew)); exact Kd.R_mono HO220.out (fun _ hk => hk.2)⟩, ⟨zK BK209⟩, ⟨zB HB⟩⟩
   replace c11 := Bool.eq_false_iff.mpr c11
   subst c11; rw [if_neg zF] at H
   have H' := Aside0.mk H
   clear H
   go_wp2
   go_meet
   case rel => exact ⟨_, (true), zI, H', ⟨by first | omega | exact Nat.le_refl _⟩, ⟨by (with_reducible repeat (first | apply Kd.R_alloc | apply Kd.R_drewN | apply Kd.R_drew)); exact Kd.R_mono HO216.out (fun _ hk => hk.2)⟩, ⟨by (with_reducible repeat (first | apply Kd.R_alloc | apply Kd.R_drewN | apply Kd.R_drew)); exact Kd.R_mono HO220.out (fun _ hk => hk.2)⟩, ⟨zK BK209⟩, ⟨zB HB⟩⟩
  case rest =>
   clear HC10
   obtain ⟨kq, x30_9, rfl, HA, HJ9, HO_7, HO_9, BK209, HB⟩ := hcut
   rcases kq with _ | kj9
   · exact absurd HA.out (by simp [address_parse6.j0])
   have H := HA.out
   clear HA
   simp only [address_parse6.j0] at H
   by_cases c12 : x30_9 = true
   · subst c12
     rw [if_pos rfl] at H
     simp only [Option.some.injEq, Prod.mk.injEq] at H
     obtain ⟨rfl, rfl, rfl, rfl⟩ := H
     obtain ⟨hcz13_0, hcz13_1, hcz13_2⟩ := zc3 BK209; obtain ⟨hfz13_0, hfz13_1, hfz13_2⟩ := zf3 BK209
     go_wp2
     refine bodyPost_ret (results_ct rfl _ _ gb209 31 #[.bool false, .int .u64 0, .int .u64 0] (0, 0) _ rfl (by refine zL ?_; refine blk_put (cs := #[.bool false, .int .u64 0, .int .u64 0]) ?_ 2 _ rfl; refine zL ?_; refine blk_put (cs := #[.bool false, .int .u64 0, .int .u64 0]) ?_ 1 _ rfl; refine zL ?_; refine blk_put (cs := #[.bool false, .int .u64 0, .int .u64 0]) ?_ 0 _ rfl; refine zL ?_; exact BK209.out) Tryz.underlying31 rfl (by kernel_rfl)) rfl ?_
     exact ⟨zr, zB HB⟩
   replace c12 := Bool.eq_false_iff.mpr c12
   subst c12; rw [if_neg zF] at H; have HC14 := Aside0.mk H; clear H
   go_upto_region 6 with (fail)
   go_cut [38] (fun v38 wc => ∃ (kq : Nat) (x38_13 : Bool), v38 = .bool x38_13 ∧ Aside0 (address_parse6.j1 kq t212 t213 t217 x38_13 = some (r1, r2, r3, r4)) ∧ Aside0 (kq ≤ kj9) ∧ Aside0 (Kd.R (Kd.int .u64) 29 wc w.heap.size (fun k_ => some k_ ≠ (v219 : Value).ownBlock) v215 t213) ∧ Aside0 (Kd.R (Kd.int .u64) 29 wc w.heap.size (fun k_ => some k_ ≠ (v215 : Value).ownBlock) v219 t217) ∧ Aside0 (wc.heap[gb209]? = some (.cells #[.bool false, .int .u64 0, .int .u64 0] 31 (0, 0))) ∧ Aside0 (Below w.heap.size w wc))
   case first =>
    have H := HC14.out
    clear HC14
    by_cases c15 : t212 = true
    · subst c15
      rw [if_pos rfl] at H
      have H' := Aside0.mk H
      clear H
      go_wp2
      go_meet
      case rel => exact ⟨_, (false), zI, H', ⟨by have := HJ9.out; first | omega | exact Nat.le_refl _⟩, ⟨zR HO_7⟩, ⟨zR HO_9⟩, ⟨zK BK209⟩, ⟨zB HB⟩⟩
    replace c15 := Bool.eq_false_iff.mpr c15
    subst c15; rw [if_neg zF] at H
    have H' := Aside0.mk H
    clear H
    obtain ⟨Ao16, co16, eo16⟩ := Kd.R_slice HO_7.out
    subst eo16
    go_wp2
    go_meet
    case rel => exact ⟨_, (((t213.length : Int) != 8)), zI, H', ⟨by have := HJ9.out; first | omega | exact Nat.le_refl _⟩, ⟨zR HO_7⟩, ⟨zR HO_9⟩, ⟨zK BK209⟩, ⟨zB HB⟩⟩
   case rest =>
    clear HC14
    try clear c12
    obtain ⟨kq, x38_13, rfl, HA, HJ13, HO_7, HO_9, BK209, HB⟩ := hcut
    rcases kq with _ | kj13
    · exact absurd HA.out (by simp [address_parse6.j1])
    have H := HA.out
    clear HA
    simp only [address_parse6.j1] at H
    by_cases c17 : x38_13 = true
    · subst c17
      rw [if_pos rfl] at H
      simp only [Option.some.injEq, Prod.mk.injEq] at H
      obtain ⟨rfl, rfl, rfl, rfl⟩ := H
      obtain ⟨hcz18_0, hcz18_1, hcz18_2⟩ := zc3 BK209; obtain ⟨hfz18_0, hfz18_1, hfz18_2⟩ := zf3 BK209
      go_wp2
      refine bodyPost_ret (results_ct rfl _ _ gb209 31 #[.bool false, .int .u64 0, .int .u64 0] (0, 0) _ rfl (by refine zL ?_; refine blk_put (cs := #[.bool false, .int .u64 0, .int .u64 0]) ?_ 2 _ rfl; refine zL ?_; refine blk_put (cs := #[.bool false, .int .u64 0, .int .u64 0]) ?_ 1 _ rfl; refine zL ?_; refine blk_put (cs := #[.bool false, .int .u64 0, .int .u64 0]) ?_ 0 _ rfl; refine zL ?_; exact BK209.out) Tryz.underlying31 rfl (by kernel_rfl)) rfl ?_
      exact ⟨zr, zB HB⟩
    replace c17 := Bool.eq_false_iff.mpr c17
    subst c17; rw [if_neg zF] at H
    by_cases c19 : t212 = true
    rotate_left
    · replace c19 := Bool.eq_false_iff.mpr c19
      subst c19; rw [if_neg zF] at H
      have H' := Aside0.mk H
      clear H
      go_wp2
      go_meet
      case rel => exact ⟨_, (false), (0), (0), H', ⟨by have := HJ9.out; have := HJ13.out; first | omega | exact Nat.le_refl _⟩, ⟨zR HO_7⟩, ⟨zR HO_9⟩, ⟨zK BK209⟩, ⟨zB HB⟩⟩
    subst c19; rw [if_pos rfl] at H
    by_cases c20 : (wrap64 ((t213.length : Int) + (t217.length : Int))) > 7
    · rw [if_pos c20] at H
      have c20b0 : decide (7 < (wrap64 ((t213.length : Int) + (t217.length : Int)))) = true := decide_eq_true c20; clear c20
      simp only [Option.some.injEq, Prod.mk.injEq] at H
      obtain ⟨rfl, rfl, rfl, rfl⟩ := H
      obtain ⟨Ao21, co21, eo21⟩ := Kd.R_slice HO_7.out
      subst eo21
      obtain ⟨Ao22, co22, eo22⟩ := Kd.R_slice HO_9.out
      subst eo22; obtain ⟨hcz23_0, hcz23_1, hcz23_2⟩ := zc3 BK209; obtain ⟨hfz23_0, hfz23_1, hfz23_2⟩ := zf3 BK209
      go_wp2
      refine bodyPost_ret (results_ct rfl _ _ gb209 31 #[.bool false, .int .u64 0, .int .u64 0] (0, 0) _ rfl (by refine zL ?_; refine blk_put (cs := #[.bool false, .int .u64 0, .int .u64 0]) ?_ 2 _ rfl; refine zL ?_; refine blk_put (cs := #[.bool false, .int .u64 0, .int .u64 0]) ?_ 1 _ rfl; refine zL ?_; refine blk_put (cs := #[.bool false, .int .u64 0, .int .u64 0]) ?_ 0 _ rfl; refine zL ?_; exact BK209.out) Tryz.underlying31 rfl (by kernel_rfl)) rfl ?_
      exact ⟨zr, zB HB⟩
    rw [if_neg c20] at H
    have c20b0 : decide (7 < (wrap64 ((t213.length : Int) + (t217.length : Int)))) = false := decide_eq_false c20; clear c20
    have H' := Aside0.mk H
    clear H
    obtain ⟨Ao24, co24, eo24⟩ := Kd.R_slice HO_7.out
    subst eo24
    obtain ⟨Ao25, co25, eo25⟩ := Kd.R_slice HO_9.out
    subst eo25
    go_wp2
    go_meet
    case rel => exact ⟨_, (false), (0), (0), H', ⟨by have := HJ9.out; have := HJ13.out; first | omega | exact Nat.le_refl _⟩, ⟨zR HO_7⟩, ⟨zR HO_9⟩, ⟨zK BK209⟩, ⟨zB HB⟩⟩
 case rest =>
  clear HC5
  obtain ⟨kq, x210000_4, x210001_4, x210002_4, HA, HJ4, HO_7, HO_9, BK209, HB⟩ := hcut
  rcases kq with _ | kj4
  · exact absurd HA.out (by simp [address_parse6.j2])
  have H := HA.out
  clear HA
  simp only [address_parse6.j2] at H
  have H' := Aside0.mk H
  clear H
  go_wp2
  go_loopg [7] kj4 (fun kq v7 w' => ∃ (x7_2 : List Int), Aside0 (address_parse6.l0 kq x7_2 t217 = some (r1, r2, r3, r4)) ∧ Aside0 (kq ≤ kj4) ∧ Aside0 (Kd.R (Kd.int .u64) 29 w' w.heap.size (fun k_ => some k_ ≠ (v219 : Value).ownBlock) v7 x7_2) ∧ Aside0 (Kd.R (Kd.int .u64) 29 w' w.heap.size (fun k_ => some k_ ≠ (v7 : Value).ownBlock) v219 t217) ∧ Aside0 (w'.heap[gb209]? = some (.cells #[.bool x210000_4, .int .u64 x210001_4, .int .u64 x210002_4] 31 (0, 0))) ∧ Aside0 (Below w.heap.size w w'))
  case atStart => exact ⟨(t213), H', ⟨Nat.le_refl _⟩, ⟨zR HO_7⟩, ⟨zR HO_9⟩, ⟨zK BK209⟩, ⟨zB HB⟩⟩
  case round =>
   clear H'
   obtain ⟨x7_2, HA, HK2, HO_7, HO_9, BK209, HB⟩ := hrel
   rcases gk with _ | k2
   · exact absurd HA.out (by simp [address_parse6.l0])
   have H := HA.out
   clear HA
   simp only [address_parse6.l0] at H
   by_cases c26 : (wrap64 ((x7_2.length : Int) + (t217.length : Int))) < 8
   · rw [if_pos c26] at H
     have c26b0 : decide ((wrap64 ((x7_2.length : Int) + (t217.length : Int))) < 8) = true := decide_eq_true c26; clear c26
     by_cases c27 : x7_2.length < 17592186044416
     rotate_left
     · rw [if_neg c27] at H
       exact absurd H (by simp)
     rw [if_pos c27] at H; have LMc27 := Aside0.mk c27; clear c27
     obtain ⟨y221, hy221⟩ : ∃ y_ : List Int, y_ = (x7_2 ++ [0]) := ⟨_, rfl⟩
     rw [← hy221] at H; try dsimp only [Option.bind_some] at H
     have Ny221 := Aside0.mk hy221; clear hy221
     have H' := Aside0.mk H
     clear H
     obtain ⟨Ao28, co28, eo28⟩ := Kd.R_slice HO_7.out
     subst eo28
     obtain ⟨Ao29, co29, eo29⟩ := Kd.R_slice HO_9.out
     subst eo29
     go_wp2_with (first | ((with_reducible refine gate_builtin (b := .append) (xs := #[.tmp 64, .tmp 65]) rfl ?_); (try (refine gate_guard (by rfl) ?_; dsimp only)); at_builtin; refine Kd.R_append (Kd.int .u64) (w0 := w) w.heap.size rfl (.tmp 64) (.tmp 65) 174 29 (.int .u64 0) 8 rfl Tryz.underlying174 info29 rfl (by decide) (by omega) (.slice Ao28 x7_2.length co28) x7_2 0 [.int .u64 0] (fun k_ => some k_ ≠ (.slice Ao29 t217.length co29 : Value).ownBlock) (fun _ => False) rfl rfl ?aP (fun _ hk => hk.elim) ?aF ?aO ?aB ?aS ?aL ?_; (case aP => exact rfl); (case aB => exact (zB HB)); (case aF => exact (fun k_ hk => Kd.fresh' (Kd.R_lt (zR HO_9)) k_ hk)); (case aO => exact (zR HO_7)); (case aS => exact (below_size (zB HB))); (case aL => have := LMc27.out; omega); intro v222 w30 ho hb hg hat; rw [← Ny221.out] at ho; replace HO_9 := Aside0.mk (Kd.R_after (ok := (fun _ => True)) (by (with_reducible repeat (first | apply Kd.R_alloc | apply Kd.R_drewN | apply Kd.R_drew)); exact Kd.R_mono HO_9.out (fun _ hk => ⟨trivial, hk⟩)) hg hat); replace BK209 := Aside0.mk (blk_grown (g := gb209) (o := .cells #[.bool x210000_4, .int .u64 x210001_4, .int .u64 x210002_4] 31 (0, 0)) (zK BK209) hg (Kd.R_ne HO_7.out BK209.out (by decide))); replace HB := Aside0.mk (hb); have HO223 := Aside0.mk (ho); clear HO_7; clear ho hb hg hat))
     go_roundg k2
     case measure => have := HJ4.out; have := HK2.out; omega
     case rel => exact ⟨(y221), H', ⟨by have := HJ4.out; have := HK2.out; omega⟩, ⟨zR HO223⟩, ⟨by (with_reducible repeat (first | apply Kd.R_alloc | apply Kd.R_drewN | apply Kd.R_drew)); exact Kd.R_mono HO_9.out (fun _ hk => hk.2)⟩, ⟨zK BK209⟩, ⟨zB HB⟩⟩
   rw [if_neg c26] at H
   have c26b0 : decide ((wrap64 ((x7_2.length : Int) + (t217.length : Int))) < 8) = false := decide_eq_false c26; clear c26
   by_cases c31 : x7_2.length + t217.length < 17592186044416
   rotate_left
   · rw [if_neg c31] at H
     exact absurd H (by simp)
   rw [if_pos c31] at H; have LMc31 := Aside0.mk c31; clear c31
   obtain ⟨y225, hy225⟩ : ∃ y_ : List Int, y_ = (x7_2 ++ t217) := ⟨_, rfl⟩
   rw [← hy225] at H; try dsimp only [Option.bind_some] at H
   have Ny225 := Aside0.mk hy225; clear hy225
   have H' := Aside0.mk H
   clear H
   obtain ⟨Ao32, co32, eo32⟩ := Kd.R_slice HO_7.out
   subst eo32
   obtain ⟨Ao33, co33, eo33⟩ := Kd.R_slice HO_9.out
   subst eo33
   go_wp2_with (first | ((with_reducible refine gate_dst (N := 11) rfl ?_); (try (refine gate_guard (by rfl) ?_; dsimp only)); refine zx 11 #[.bool false, .int .u64 0, .int .u64 0] 31 ?_; intro gb224 hg w34 hbox hb; replace HO_7 := Aside0.mk (Kd.R_below (zR HO_7) hb); replace HO_9 := Aside0.mk (Kd.R_below (zR HO_9) hb); have BK224 := Aside0.mk (hbox); have GW224 := zG HB hg; have GE224 := zG HB hg; replace HB := Aside0.mk (below_step (zB HB) hb); have NB209_224 := Aside0.mk ((by rw [hg]; exact Nat.ne_of_lt (blk_lt (g := gb209) (o := .cells #[.bool x210000_4, .int .u64 x210001_4, .int .u64 x210002_4] 31 (0, 0)) (zK BK209)) : gb209 ≠ gb224)); have NB224_209 := Aside0.mk ((by rw [hg]; exact Nat.ne_of_gt (blk_lt (g := gb209) (o := .cells #[.bool x210000_4, .int .u64 x210001_4, .int .u64 x210002_4] 31 (0, 0)) (zK BK209)) : gb224 ≠ gb209)); replace BK209 := zkb BK209 hb; clear hb hbox hg; have hnb35 := NB224_209.out; have hnc35 := NB209_224.out; obtain ⟨hcz36_0, hcz36_1, hcz36_2⟩ := zc3 BK224; obtain ⟨hfz36_0, hfz36_1, hfz36_2⟩ := zf3 BK224) | ((with_reducible refine gate_builtin (b := .append) (xs := #[.tmp 68, .tmp 69]) rfl ?_); (try (refine gate_guard (by rfl) ?_; dsimp only)); at_builtin; refine Kd.R_append_rows (Kd.int .u64) (w0 := w) w.heap.size rfl (.tmp 68) (.tmp 69) 174 29 (.int .u64 0) 8 rfl Tryz.underlying174 info29 rfl (by decide) (by omega) (.slice Ao32 x7_2.length co32) x7_2 t217 _ _ _ (fun k_ => some k_ ≠ (.slice Ao33 t217.length co33 : Value).ownBlock) (fun _ => False) rfl rfl ?aO ?aR (fun _ _ h => h) (fun _ h => h.elim) ?aF ?aB ?aS ?aL ?_; (case aR => refine (Kd.R_reads' (e := 29) (base := w.heap.size) (ok := fun k_ => some k_ ≠ (.slice Ao32 x7_2.length co32 : Value).ownBlock) (n := t217.length) (c := co33) ?_).2.2; exact (zQ (Kd.R_mono (Kd.R_far (p := ⟨gb224, 2, none⟩) (Kd.R_far (p := ⟨gb224, 1, none⟩) (Kd.R_far (p := ⟨gb224, 0, none⟩) (Kd.R_types HO_9.out BK224.out (by decide)) (fun _ hk => hk.2) (.bool true)) (fun _ hk => hk.2) (.int .u64 0)) (fun _ hk => hk.2) (.int .u64 0)) (fun _ h_ => h_.1)))); (case aB => exact (zB HB)); (case aF => exact (fun k_ hk => Kd.fresh' (Kd.R_lt (zQ (Kd.R_mono (Kd.R_far (p := ⟨gb224, 2, none⟩) (Kd.R_far (p := ⟨gb224, 1, none⟩) (Kd.R_far (p := ⟨gb224, 0, none⟩) (Kd.R_types HO_9.out BK224.out (by decide)) (fun _ hk => hk.2) (.bool true)) (fun _ hk => hk.2) (.int .u64 0)) (fun _ hk => hk.2) (.int .u64 0)) (fun _ h_ => h_.1)))) k_ hk)); (case aO => exact (by (with_reducible repeat (first | apply Kd.R_alloc | apply Kd.R_drewN | apply Kd.R_drew)); exact Kd.R_mono (Kd.R_far (p := ⟨gb224, 2, none⟩) (Kd.R_far (p := ⟨gb224, 1, none⟩) (Kd.R_far (p := ⟨gb224, 0, none⟩) (Kd.R_types HO_7.out BK224.out (by decide)) (fun _ hk => hk.2) (.bool true)) (fun _ hk => hk.2) (.int .u64 0)) (fun _ hk => hk.2) (.int .u64 0)) (fun _ hk => hk.1))); (case aS => exact (below_size (zB HB))); (case aL => have := LMc31.out; omega); intro v226 w37 ho hb hg hat; rw [← Ny225.out] at ho; replace HO_9 := Aside0.mk (Kd.R_after (ok := (fun _ => True)) (by (with_reducible repeat (first | apply Kd.R_alloc | apply Kd.R_drewN | apply Kd.R_drew)); exact Kd.R_mono (Kd.R_far (p := ⟨gb224, 2, none⟩) (Kd.R_far (p := ⟨gb224, 1, none⟩) (Kd.R_far (p := ⟨gb224, 0, none⟩) (Kd.R_types HO_9.out BK224.out (by decide)) (fun _ hk => hk.2) (.bool true)) (fun _ hk => hk.2) (.int .u64 0)) (fun _ hk => hk.2) (.int .u64 0)) (fun _ hk => ⟨trivial, hk.1⟩)) hg hat); replace BK209 := Aside0.mk (blk_grown (g := gb209) (o := .cells #[.bool x210000_4, .int .u64 x210001_4, .int .u64 x210002_4] 31 (0, 0)) (by refine zL ?_; refine blk_far ?_ NB209_224.out _; refine zL ?_; refine blk_far ?_ NB209_224.out _; refine zL ?_; refine blk_far ?_ NB209_224.out _; refine zL ?_; exact BK209.out) hg (Kd.R_ne HO_7.out BK209.out (by decide))); replace BK224 := Aside0.mk (blk_grown (g := gb224) (o := .cells #[.bool true, .int .u64 0, .int .u64 0] 31 (0, 0)) (by refine zL ?_; refine blk_put (cs := #[.bool true, .int .u64 0, .int .u64 0]) ?_ 2 _ rfl; refine zL ?_; refine blk_put (cs := #[.bool true, .int .u64 0, .int .u64 0]) ?_ 1 _ rfl; refine zL ?_; refine blk_put (cs := #[.bool false, .int .u64 0, .int .u64 0]) ?_ 0 _ rfl; refine zL ?_; exact BK224.out) hg (Kd.R_ne HO_7.out BK224.out (by decide))); replace HB := Aside0.mk (hb); have HO227 := Aside0.mk (ho); clear HO_7; clear ho hb hg hat; obtain ⟨Ao38, co38, eo38⟩ := Kd.R_slice HO227.out; subst eo38))
   go_loopg [72] k2 (fun kq v72 w' => ∃ (x72_3 : Int) (x225001_3 : Int) (x225002_3 : Int), v72 = .int .i64 x72_3 ∧ Aside0 (address_parse6.l1 kq y225 (y225.length : Int) x72_3 true x225001_3 x225002_3 = some (r1, r2, r3, r4)) ∧ Aside0 (kq ≤ k2) ∧ Aside0 (Kd.R (Kd.int .u64) 29 w' w.heap.size (fun _ => True) (.slice Ao38 y225.length co38) y225) ∧ Aside0 (w'.heap[gb209]? = some (.cells #[.bool x210000_4, .int .u64 x210001_4, .int .u64 x210002_4] 31 (0, 0))) ∧ Aside0 (w'.heap[gb224]? = some (.cells #[.bool true, .int .u64 x225001_3, .int .u64 x225002_3] 31 (0, 0))) ∧ Aside0 (Below w.heap.size w w'))
   case atStart => exact ⟨(0), (0), (0), zI, H', ⟨Nat.le_refl _⟩, ⟨by (with_reducible repeat (first | apply Kd.R_alloc | apply Kd.R_drewN | apply Kd.R_drew)); exact Kd.R_mono HO227.out (fun _ hk => trivial)⟩, ⟨zK BK209⟩, ⟨zK BK224⟩, ⟨zB HB⟩⟩
   case round =>
    clear H'
    (try clear c26); (try clear c26b0); (try clear c31); (try clear hcz36_0 hcz36_1 hcz36_2); (try clear hfz36_0 hfz36_1 hfz36_2)
    obtain ⟨x72_3, x225001_3, x225002_3, rfl, HA, HK3, HO_70, BK209, BK224, HB⟩ := hrel
    rcases gk with _ | k3
    · exact absurd HA.out (by simp [address_parse6.l1])
    have H := HA.out
    clear HA
    simp only [address_parse6.l1] at H
    by_cases c39 : x72_3 < (y225.length : Int)
    rotate_left
    · rw [if_neg c39] at H
      have c39b0 : decide (x72_3 < (y225.length : Int)) = false := decide_eq_false c39; clear c39
      simp only [Option.some.injEq, Prod.mk.injEq] at H
      obtain ⟨rfl, rfl, rfl, rfl⟩ := H
      have hnb47 := NB224_209.out
      have hnc47 := NB209_224.out
      obtain ⟨hcz48_0, hcz48_1, hcz48_2⟩ := zc3 BK224; obtain ⟨hfz48_0, hfz48_1, hfz48_2⟩ := zf3 BK224; obtain ⟨hcz49_0, hcz49_1, hcz49_2⟩ := zc3 BK209; obtain ⟨hfz49_0, hfz49_1, hfz49_2⟩ := zf3 BK209
      go_wp2
      refine bodyPost_ret (results_ct rfl _ _ gb209 31 #[.bool true, .int .u64 x225001_3, .int .u64 x225002_3] (0, 0) _ rfl (by refine zL ?_; refine blk_put (cs := #[.bool true, .int .u64 x225001_3, .int .u64 x210002_4]) ?_ 2 _ rfl; refine zL ?_; refine blk_put (cs := #[.bool true, .int .u64 x210001_4, .int .u64 x210002_4]) ?_ 1 _ rfl; refine zL ?_; refine blk_put (cs := #[.bool x210000_4, .int .u64 x210001_4, .int .u64 x210002_4]) ?_ 0 _ rfl; refine zL ?_; exact BK209.out) Tryz.underlying31 rfl (by kernel_rfl)) rfl ?_
      exact ⟨zr, zB HB⟩
    rw [if_pos c39] at H
    have c39b0 : decide (x72_3 < (y225.length : Int)) = true := decide_eq_true c39; clear c39
    by_cases c40 : 0 ≤ x72_3
    rotate_left
    · rw [if_neg c40] at H
      exact absurd H (by simp)
    rw [if_pos c40] at H
    have c40b0 : decide (0 ≤ x72_3) = true := decide_eq_true c40; clear c40
    by_cases c41 : x72_3 < (y225.length : Int)
    rotate_left
    · rw [if_neg c41] at H
      exact absurd H (by simp)
    rw [if_pos c41] at H
    have c41b0 : decide (x72_3 < (y225.length : Int)) = true := decide_eq_true c41; clear c41
    by_cases c42 : x72_3 < 4
    · rw [if_pos c42] at H
      have c42b0 : decide (x72_3 < 4) = true := decide_eq_true c42; clear c42
      have H' := Aside0.mk H
      clear H
      have p228 : 0 ≤ (x72_3 : Int) := za
      have q228 : x72_3 < (y225.length : Int) := za
      obtain ⟨ad228, e228, hx228_0⟩ := Kd.at_int (Kd.R_reads' HO_70.out).2.2 x72_3 p228 q228
      cases e228
      replace p228 := eq_true p228
      replace q228 := eq_true q228
      have hnb43 := NB224_209.out
      have hnc43 := NB209_224.out
      obtain ⟨hcz44_0, hcz44_1, hcz44_2⟩ := zc3 BK224; obtain ⟨hfz44_0, hfz44_1, hfz44_2⟩ := zf3 BK224
      go_wp2
      go_roundg k3
      case measure => have := HJ4.out; have := HK2.out; have := HK3.out; omega
      case rel => exact ⟨(wrap64 (x72_3 + 1)), (Go.bits .or .u64 (IntKind.u64.wrap (x225001_3 * 65536)) (rd y225 x72_3)), (x225002_3), zI, H', ⟨by have := HJ4.out; have := HK2.out; have := HK3.out; omega⟩, ⟨by (with_reducible repeat (first | apply Kd.R_alloc | apply Kd.R_drewN | apply Kd.R_drew)); exact Kd.R_mono (Kd.R_far (p := ⟨gb224, 1, none⟩) (Kd.R_types HO_70.out BK224.out (by decide)) (fun _ hk => hk.2) (.int .u64 (Go.bits .or .u64 (IntKind.u64.wrap (x225001_3 * 65536)) (rd y225 x72_3)))) (fun _ hk => trivial)⟩, ⟨by refine zL ?_; refine blk_far ?_ NB209_224.out _; refine zL ?_; exact BK209.out⟩, ⟨by refine zL ?_; refine blk_put (cs := #[.bool true, .int .u64 x225001_3, .int .u64 x225002_3]) ?_ 1 _ rfl; refine zL ?_; exact BK224.out⟩, ⟨zB HB⟩⟩
    rw [if_neg c42] at H
    have c42b0 : decide (x72_3 < 4) = false := decide_eq_false c42; clear c42
    have H' := Aside0.mk H
    clear H
    have p228 : 0 ≤ (x72_3 : Int) := za
    have q228 : x72_3 < (y225.length : Int) := za
    obtain ⟨ad228, e228, hx228_0⟩ := Kd.at_int (Kd.R_reads' HO_70.out).2.2 x72_3 p228 q228
    cases e228
    replace p228 := eq_true p228
    replace q228 := eq_true q228
    have hnb45 := NB224_209.out
    have hnc45 := NB209_224.out
    obtain ⟨hcz46_0, hcz46_1, hcz46_2⟩ := zc3 BK224; obtain ⟨hfz46_0, hfz46_1, hfz46_2⟩ := zf3 BK224
    go_wp2
    go_roundg k3
    case measure => have := HJ4.out; have := HK2.out; have := HK3.out; omega
    case rel => exact ⟨(wrap64 (x72_3 + 1)), (x225001_3), (Go.bits .or .u64 (IntKind.u64.wrap (x225002_3 * 65536)) (rd y225 x72_3)), zI, H', ⟨by have := HJ4.out; have := HK2.out; have := HK3.out; omega⟩, ⟨by (with_reducible repeat (first | apply Kd.R_alloc | apply Kd.R_drewN | apply Kd.R_drew)); exact Kd.R_mono (Kd.R_far (p := ⟨gb224, 2, none⟩) (Kd.R_types HO_70.out BK224.out (by decide)) (fun _ hk => hk.2) (.int .u64 (Go.bits .or .u64 (IntKind.u64.wrap (x225002_3 * 65536)) (rd y225 x72_3)))) (fun _ hk => trivial)⟩, ⟨by refine zL ?_; refine blk_far ?_ NB209_224.out _; refine zL ?_; exact BK209.out⟩, ⟨by refine zL ?_; refine blk_put (cs := #[.bool true, .int .u64 x225001_3, .int .u64 x225002_3]) ?_ 2 _ rfl; refine zL ?_; exact BK224.out⟩, ⟨zB HB⟩⟩
def address_Parse.f (k : Nat) (a0 : ByteArray) : Option (Bool × Int × Int × Int) := if (a0.size : Int) > 64 then (some (false, 0, 0, 3)) else ((address_parse4.f k a0).bind fun bt230 => (if bt230.2.2.2 = true then (some (bt230.1, bt230.2.1, bt230.2.2.1, 0)) else ((address_parse6.f k a0).bind fun bt235 => (if bt235.2.2.2 = true then (some (bt235.1, bt235.2.1, bt235.2.2.1, 0)) else (some (false, 0, 0, 2))))))
theorem address_Parse.mono : ∀ a0 k, LeO (address_Parse.f k a0) (address_Parse.f (k + 1) a0) := by
  intro a0 k
  unfold address_Parse.f
  repeat' first
      | (with_reducible exact address_parse4.mono _ _)
      | (with_reducible exact address_parse6.mono _ _)
      | (with_reducible exact LeO.refl _)
      | (with_reducible exact LeO.none _)
      | (with_reducible refine LeO.ite ?_ ?_)
      | (with_reducible refine LeO.bind ?_ (fun _ => ?_))
theorem address_Parse.calls (k : Nat) (a0 : ByteArray) (r1 : Bool) (r2 : Int) (r3 : Int) (r4 : Int) (w : World) (h : address_Parse.f k a0 = some (r1, r2, r3, r4)) (hW_ : WOK w) :
 Calls Tryz.prog 105 #[.string a0] w fun e w' => e = .returned (.tuple #[.agg #[.bool r1, .int .u64 r2, .int .u64 r3], .int .i64 r4]) ∧ Below w.heap.size w w' := by
 have hu31 := Tryz.underlying31
 have HB := Aside0.mk (Below.refl w.heap.size w)
 unfold address_Parse.f at h; have H := h
 clear h
 by_cases c2 : (a0.size : Int) > 64
 · rw [if_pos c2] at H
   have c2b0 : decide (64 < (a0.size : Int)) = true := decide_eq_true c2
   have c2b1 : decide (64 < a0.size) = true := decide_eq_true (by omega)
   clear c2
   simp only [Option.some.injEq, Prod.mk.injEq] at H
   obtain ⟨rfl, rfl, rfl, rfl⟩ := H
   go_enter Tryz.func105, Tryz.ntmps105
   go_wp2_with (first | ((with_reducible refine gate_dst (N := 2) rfl ?_); refine zx 2 #[.bool false, .int .u64 0, .int .u64 0] 31 ?_; intro gb229 hg w3 hbox hb; have BK229 := Aside0.mk (hbox); have GW229 := zG HB hg; have GE229 := zG HB hg; replace HB := Aside0.mk (below_step (zB HB) hb); clear hb hbox hg; obtain ⟨hcz4_0, hcz4_1, hcz4_2⟩ := zc3 BK229; obtain ⟨hfz4_0, hfz4_1, hfz4_2⟩ := zf3 BK229))
   refine bodyPost_ret (results_ct rfl _ _ gb229 31 #[.bool false, .int .u64 0, .int .u64 0] (0, 0) _ rfl (by refine zL ?_; refine blk_put (cs := #[.bool false, .int .u64 0, .int .u64 0]) ?_ 2 _ rfl; refine zL ?_; refine blk_put (cs := #[.bool false, .int .u64 0, .int .u64 0]) ?_ 1 _ rfl; refine zL ?_; refine blk_put (cs := #[.bool false, .int .u64 0, .int .u64 0]) ?_ 0 _ rfl; refine zL ?_; exact BK229.out) Tryz.underlying31 rfl (by kernel_rfl)) rfl ?_
   exact ⟨zr, zB HB⟩
 rw [if_neg c2] at H; have c2b0 : decide (64 < (a0.size : Int)) = false := decide_eq_false c2
 have c2b1 : decide (64 < a0.size) = false := decide_eq_false (by omega)
 clear c2
 replace H := Option.bind_eq_some_iff.mp H
 obtain ⟨⟨t230, t231, t232, t233⟩, A50, H⟩ := H
 replace H : (if t233 = true then (some (t230, t231, t232, 0)) else ((address_parse6.f k a0).bind fun bt235 => (if bt235.2.2.2 = true then (some (bt235.1, bt235.2.1, bt235.2.2.1, 0)) else (some (false, 0, 0, 2))))) = some (r1, r2, r3, r4) := H
 have A5 := Aside0.mk A50; clear A50
 by_cases c6 : t233 = true
 · subst c6
   rw [if_pos rfl] at H
   simp only [Option.some.injEq, Prod.mk.injEq] at H
   obtain ⟨rfl, rfl, rfl, rfl⟩ := H
   go_enter Tryz.func105, Tryz.ntmps105
   go_wp2_with (first | ((with_reducible refine gate_dst (N := 2) rfl ?_); refine zx 2 #[.bool false, .int .u64 0, .int .u64 0] 31 ?_; intro gb229 hg w7 hbox hb; have BK229 := Aside0.mk (hbox); have GW229 := zG HB hg; have GE229 := zG HB hg; replace HB := Aside0.mk (below_step (zB HB) hb); clear hb hbox hg) | ((with_reducible refine gate_callee (f := 133) rfl ?_); refine zgl 14 Tryz.func133 #[.string a0] ?_; (with_reducible refine (address_parse4.calls k a0 t230 t231 t232 true _ A5.out (WOK.below hW_ (zB HB))).mono ?_); rintro e w8 ⟨rfl, hb⟩; refine ⟨_, rfl, ?_⟩; replace BK229 := zkb BK229 hb; replace HB := Aside0.mk (below_step (zB HB) hb); (try clear hb)) | ((with_reducible refine gate_dst (N := 4) rfl ?_); refine zx 4 #[.bool false, .int .u64 0, .int .u64 0] 31 ?_; intro gb234 hg w9 hbox hb; have BK234 := Aside0.mk (hbox); have GW234 := zG HB hg; have GE234 := zG HB hg; replace HB := Aside0.mk (below_step (zB HB) hb); have NB229_234 := Aside0.mk ((by rw [hg]; exact Nat.ne_of_lt (blk_lt (g := gb229) (o := .cells #[.bool false, .int .u64 0, .int .u64 0] 31 (0, 0)) (zK BK229)) : gb229 ≠ gb234)); have NB234_229 := Aside0.mk ((by rw [hg]; exact Nat.ne_of_gt (blk_lt (g := gb229) (o := .cells #[.bool false, .int .u64 0, .int .u64 0] 31 (0, 0)) (zK BK229)) : gb234 ≠ gb229)); replace BK229 := zkb BK229 hb; clear hb hbox hg; have hnb10 := NB234_229.out; have hnc10 := NB229_234.out; obtain ⟨hcz11_0, hcz11_1, hcz11_2⟩ := zc3 BK234; obtain ⟨hfz11_0, hfz11_1, hfz11_2⟩ := zf3 BK234; obtain ⟨hcz12_0, hcz12_1, hcz12_2⟩ := zc3 BK229; obtain ⟨hfz12_0, hfz12_1, hfz12_2⟩ := zf3 BK229))
   refine bodyPost_ret (results_ct rfl _ _ gb229 31 #[.bool t230, .int .u64 t231, .int .u64 t232] (0, 0) _ rfl (by refine zL ?_; refine blk_put (cs := #[.bool t230, .int .u64 t231, .int .u64 0]) ?_ 2 _ rfl; refine zL ?_; refine blk_put (cs := #[.bool t230, .int .u64 0, .int .u64 0]) ?_ 1 _ rfl; refine zL ?_; refine blk_put (cs := #[.bool false, .int .u64 0, .int .u64 0]) ?_ 0 _ rfl; refine zL ?_; refine blk_far ?_ NB229_234.out _; refine zL ?_; refine blk_far ?_ NB229_234.out _; refine zL ?_; refine blk_far ?_ NB229_234.out _; refine zL ?_; exact BK229.out) Tryz.underlying31 rfl (by kernel_rfl)) rfl ?_
   exact ⟨zr, zB HB⟩
 replace c6 := Bool.eq_false_iff.mpr c6
 subst c6; rw [if_neg zF] at H
 replace H := Option.bind_eq_some_iff.mp H
 obtain ⟨⟨t235, t236, t237, t238⟩, A130, H⟩ := H
 replace H : (if t238 = true then (some (t235, t236, t237, 0)) else (some (false, 0, 0, 2))) = some (r1, r2, r3, r4) := H
 have A13 := Aside0.mk A130; clear A130
 by_cases c14 : t238 = true
 · subst c14
   rw [if_pos rfl] at H
   simp only [Option.some.injEq, Prod.mk.injEq] at H
   obtain ⟨rfl, rfl, rfl, rfl⟩ := H
   go_enter Tryz.func105, Tryz.ntmps105
   go_wp2_with (first | ((with_reducible refine gate_dst (N := 2) rfl ?_); refine zx 2 #[.bool false, .int .u64 0, .int .u64 0] 31 ?_; intro gb229 hg w15 hbox hb; have BK229 := Aside0.mk (hbox); have GW229 := zG HB hg; have GE229 := zG HB hg; replace HB := Aside0.mk (below_step (zB HB) hb); clear hb hbox hg) | ((with_reducible refine gate_callee (f := 133) rfl ?_); refine zgl 14 Tryz.func133 #[.string a0] ?_; (with_reducible refine (address_parse4.calls k a0 t230 t231 t232 false _ A5.out (WOK.below hW_ (zB HB))).mono ?_); rintro e w16 ⟨rfl, hb⟩; refine ⟨_, rfl, ?_⟩; replace BK229 := zkb BK229 hb; replace HB := Aside0.mk (below_step (zB HB) hb); (try clear hb)) | ((with_reducible refine gate_dst (N := 4) rfl ?_); refine zx 4 #[.bool false, .int .u64 0, .int .u64 0] 31 ?_; intro gb234 hg w17 hbox hb; have BK234 := Aside0.mk (hbox); have GW234 := zG HB hg; have GE234 := zG HB hg; replace HB := Aside0.mk (below_step (zB HB) hb); have NB229_234 := Aside0.mk ((by rw [hg]; exact Nat.ne_of_lt (blk_lt (g := gb229) (o := .cells #[.bool false, .int .u64 0, .int .u64 0] 31 (0, 0)) (zK BK229)) : gb229 ≠ gb234)); have NB234_229 := Aside0.mk ((by rw [hg]; exact Nat.ne_of_gt (blk_lt (g := gb229) (o := .cells #[.bool false, .int .u64 0, .int .u64 0] 31 (0, 0)) (zK BK229)) : gb234 ≠ gb229)); replace BK229 := zkb BK229 hb; clear hb hbox hg; have hnb18 := NB234_229.out; have hnc18 := NB229_234.out; obtain ⟨hcz19_0, hcz19_1, hcz19_2⟩ := zc3 BK234; obtain ⟨hfz19_0, hfz19_1, hfz19_2⟩ := zf3 BK234) | ((with_reducible refine gate_callee (f := 134) rfl ?_); refine zgl 21 Tryz.func134 #[.string a0] ?_; (with_reducible refine (address_parse6.calls k a0 t235 t236 t237 true _ A13.out (WOK.below hW_ (zB HB))).mono ?_); rintro e w20 ⟨rfl, hb⟩; refine ⟨_, rfl, ?_⟩; replace BK229 := Aside0.mk (blk_below (g := gb229) (o := .cells #[.bool false, .int .u64 0, .int .u64 0] 31 (0, 0)) (by refine zL ?_; refine blk_far ?_ NB229_234.out _; refine zL ?_; refine blk_far ?_ NB229_234.out _; refine zL ?_; refine blk_far ?_ NB229_234.out _; refine zL ?_; exact BK229.out) hb); replace BK234 := Aside0.mk (blk_below (g := gb234) (o := .cells #[.bool t230, .int .u64 t231, .int .u64 t232] 31 (0, 0)) (by refine zL ?_; refine blk_put (cs := #[.bool t230, .int .u64 t231, .int .u64 0]) ?_ 2 _ rfl; refine zL ?_; refine blk_put (cs := #[.bool t230, .int .u64 0, .int .u64 0]) ?_ 1 _ rfl; refine zL ?_; refine blk_put (cs := #[.bool false, .int .u64 0, .int .u64 0]) ?_ 0 _ rfl; refine zL ?_; exact BK234.out) hb); replace HB := Aside0.mk (below_step (zB HB) hb); (try clear hb)) | ((with_reducible refine gate_dst (N := 6) rfl ?_); refine zx 6 #[.bool false, .int .u64 0, .int .u64 0] 31 ?_; intro gb239 hg w21 hbox hb; have BK239 := Aside0.mk (hbox); have GW239 := zG HB hg; have GE239 := zG HB hg; replace HB := Aside0.mk (below_step (zB HB) hb); have NB229_239 := Aside0.mk ((by rw [hg]; exact Nat.ne_of_lt (blk_lt (g := gb229) (o := .cells #[.bool false, .int .u64 0, .int .u64 0] 31 (0, 0)) (zK BK229)) : gb229 ≠ gb239)); have NB239_229 := Aside0.mk ((by rw [hg]; exact Nat.ne_of_gt (blk_lt (g := gb229) (o := .cells #[.bool false, .int .u64 0, .int .u64 0] 31 (0, 0)) (zK BK229)) : gb239 ≠ gb229)); replace BK229 := zkb BK229 hb; have NB234_239 := Aside0.mk ((by rw [hg]; exact Nat.ne_of_lt (blk_lt (g := gb234) (o := .cells #[.bool t230, .int .u64 t231, .int .u64 t232] 31 (0, 0)) (zK BK234)) : gb234 ≠ gb239)); have NB239_234 := Aside0.mk ((by rw [hg]; exact Nat.ne_of_gt (blk_lt (g := gb234) (o := .cells #[.bool t230, .int .u64 t231, .int .u64 t232] 31 (0, 0)) (zK BK234)) : gb239 ≠ gb234)); replace BK234 := zkb BK234 hb; clear hb hbox hg; have hnb22 := NB239_229.out; have hnc22 := NB229_239.out; have hnb23 := NB239_234.out; have hnc23 := NB234_239.out; obtain ⟨hcz24_0, hcz24_1, hcz24_2⟩ := zc3 BK239; obtain ⟨hfz24_0, hfz24_1, hfz24_2⟩ := zf3 BK239; obtain ⟨hcz25_0, hcz25_1, hcz25_2⟩ := zc3 BK229; obtain ⟨hfz25_0, hfz25_1, hfz25_2⟩ := zf3 BK229))
   refine bodyPost_ret (results_ct rfl _ _ gb229 31 #[.bool t235, .int .u64 t236, .int .u64 t237] (0, 0) _ rfl (by refine zL ?_; refine blk_put (cs := #[.bool t235, .int .u64 t236, .int .u64 0]) ?_ 2 _ rfl; refine zL ?_; refine blk_put (cs := #[.bool t235, .int .u64 0, .int .u64 0]) ?_ 1 _ rfl; refine zL ?_; refine blk_put (cs := #[.bool false, .int .u64 0, .int .u64 0]) ?_ 0 _ rfl; refine zL ?_; refine blk_far ?_ NB229_239.out _; refine zL ?_; refine blk_far ?_ NB229_239.out _; refine zL ?_; refine blk_far ?_ NB229_239.out _; refine zL ?_; exact BK229.out) Tryz.underlying31 rfl (by kernel_rfl)) rfl ?_
   exact ⟨zr, zB HB⟩
 replace c14 := Bool.eq_false_iff.mpr c14
 subst c14; rw [if_neg zF] at H
 simp only [Option.some.injEq, Prod.mk.injEq] at H
 obtain ⟨rfl, rfl, rfl, rfl⟩ := H
 go_enter Tryz.func105, Tryz.ntmps105
 go_wp2_with (first | ((with_reducible refine gate_dst (N := 2) rfl ?_); refine zx 2 #[.bool false, .int .u64 0, .int .u64 0] 31 ?_; intro gb229 hg w26 hbox hb; have BK229 := Aside0.mk (hbox); have GW229 := zG HB hg; have GE229 := zG HB hg; replace HB := Aside0.mk (below_step (zB HB) hb); clear hb hbox hg) | ((with_reducible refine gate_callee (f := 133) rfl ?_); refine zgl 14 Tryz.func133 #[.string a0] ?_; (with_reducible refine (address_parse4.calls k a0 t230 t231 t232 false _ A5.out (WOK.below hW_ (zB HB))).mono ?_); rintro e w27 ⟨rfl, hb⟩; refine ⟨_, rfl, ?_⟩; replace BK229 := zkb BK229 hb; replace HB := Aside0.mk (below_step (zB HB) hb); (try clear hb)) | ((with_reducible refine gate_dst (N := 4) rfl ?_); refine zx 4 #[.bool false, .int .u64 0, .int .u64 0] 31 ?_; intro gb234 hg w28 hbox hb; have BK234 := Aside0.mk (hbox); have GW234 := zG HB hg; have GE234 := zG HB hg; replace HB := Aside0.mk (below_step (zB HB) hb); have NB229_234 := Aside0.mk ((by rw [hg]; exact Nat.ne_of_lt (blk_lt (g := gb229) (o := .cells #[.bool false, .int .u64 0, .int .u64 0] 31 (0, 0)) (zK BK229)) : gb229 ≠ gb234)); have NB234_229 := Aside0.mk ((by rw [hg]; exact Nat.ne_of_gt (blk_lt (g := gb229) (o := .cells #[.bool false, .int .u64 0, .int .u64 0] 31 (0, 0)) (zK BK229)) : gb234 ≠ gb229)); replace BK229 := zkb BK229 hb; clear hb hbox hg; have hnb29 := NB234_229.out; have hnc29 := NB229_234.out; obtain ⟨hcz30_0, hcz30_1, hcz30_2⟩ := zc3 BK234; obtain ⟨hfz30_0, hfz30_1, hfz30_2⟩ := zf3 BK234) | ((with_reducible refine gate_callee (f := 134) rfl ?_); refine zgl 21 Tryz.func134 #[.string a0] ?_; (with_reducible refine (address_parse6.calls k a0 t235 t236 t237 false _ A13.out (WOK.below hW_ (zB HB))).mono ?_); rintro e w31 ⟨rfl, hb⟩; refine ⟨_, rfl, ?_⟩; replace BK229 := Aside0.mk (blk_below (g := gb229) (o := .cells #[.bool false, .int .u64 0, .int .u64 0] 31 (0, 0)) (by refine zL ?_; refine blk_far ?_ NB229_234.out _; refine zL ?_; refine blk_far ?_ NB229_234.out _; refine zL ?_; refine blk_far ?_ NB229_234.out _; refine zL ?_; exact BK229.out) hb); replace BK234 := Aside0.mk (blk_below (g := gb234) (o := .cells #[.bool t230, .int .u64 t231, .int .u64 t232] 31 (0, 0)) (by refine zL ?_; refine blk_put (cs := #[.bool t230, .int .u64 t231, .int .u64 0]) ?_ 2 _ rfl; refine zL ?_; refine blk_put (cs := #[.bool t230, .int .u64 0, .int .u64 0]) ?_ 1 _ rfl; refine zL ?_; refine blk_put (cs := #[.bool false, .int .u64 0, .int .u64 0]) ?_ 0 _ rfl; refine zL ?_; exact BK234.out) hb); replace HB := Aside0.mk (below_step (zB HB) hb); (try clear hb)) | ((with_reducible refine gate_dst (N := 6) rfl ?_); refine zx 6 #[.bool false, .int .u64 0, .int .u64 0] 31 ?_; intro gb239 hg w32 hbox hb; have BK239 := Aside0.mk (hbox); have GW239 := zG HB hg; have GE239 := zG HB hg; replace HB := Aside0.mk (below_step (zB HB) hb); have NB229_239 := Aside0.mk ((by rw [hg]; exact Nat.ne_of_lt (blk_lt (g := gb229) (o := .cells #[.bool false, .int .u64 0, .int .u64 0] 31 (0, 0)) (zK BK229)) : gb229 ≠ gb239)); have NB239_229 := Aside0.mk ((by rw [hg]; exact Nat.ne_of_gt (blk_lt (g := gb229) (o := .cells #[.bool false, .int .u64 0, .int .u64 0] 31 (0, 0)) (zK BK229)) : gb239 ≠ gb229)); replace BK229 := zkb BK229 hb; have NB234_239 := Aside0.mk ((by rw [hg]; exact Nat.ne_of_lt (blk_lt (g := gb234) (o := .cells #[.bool t230, .int .u64 t231, .int .u64 t232] 31 (0, 0)) (zK BK234)) : gb234 ≠ gb239)); have NB239_234 := Aside0.mk ((by rw [hg]; exact Nat.ne_of_gt (blk_lt (g := gb234) (o := .cells #[.bool t230, .int .u64 t231, .int .u64 t232] 31 (0, 0)) (zK BK234)) : gb239 ≠ gb234)); replace BK234 := zkb BK234 hb; clear hb hbox hg; have hnb33 := NB239_229.out; have hnc33 := NB229_239.out; have hnb34 := NB239_234.out; have hnc34 := NB234_239.out; obtain ⟨hcz35_0, hcz35_1, hcz35_2⟩ := zc3 BK239; obtain ⟨hfz35_0, hfz35_1, hfz35_2⟩ := zf3 BK239; obtain ⟨hcz36_0, hcz36_1, hcz36_2⟩ := zc3 BK229; obtain ⟨hfz36_0, hfz36_1, hfz36_2⟩ := zf3 BK229))
 refine bodyPost_ret (results_ct rfl _ _ gb229 31 #[.bool false, .int .u64 0, .int .u64 0] (0, 0) _ rfl (by refine zL ?_; refine blk_put (cs := #[.bool false, .int .u64 0, .int .u64 0]) ?_ 2 _ rfl; refine zL ?_; refine blk_put (cs := #[.bool false, .int .u64 0, .int .u64 0]) ?_ 1 _ rfl; refine zL ?_; refine blk_put (cs := #[.bool false, .int .u64 0, .int .u64 0]) ?_ 0 _ rfl; refine zL ?_; refine blk_far ?_ NB229_239.out _; refine zL ?_; refine blk_far ?_ NB229_239.out _; refine zL ?_; refine blk_far ?_ NB229_239.out _; refine zL ?_; exact BK229.out) Tryz.underlying31 rfl (by kernel_rfl)) rfl ?_
 exact ⟨zr, zB HB⟩
end Go.Proofs.YtnphnhkinjppjaaGreatDoor.Q
end

section
set_option maxHeartbeats 8000000
set_option maxRecDepth 100000
namespace Go.Proofs.YtnphnhkinjppjaaGreatDoor.Q
open Go.RowKit Go.Proofs.YtnphnhkinjppjaaGreatDoorW.PrintWords Go.Proofs.YtnphnhkinjppjaaGreatDoorW.PrintLast Go.Proofs.YtnphnhkinjppjaaGreatDoorW.PrintMore
attribute [local go_sem] max2_int min2_int max_two min_two max_three min_three max_four min_four
mutual
def address_digits.j0 : Nat → ByteArray → Bool → Option (Int × Bool)
  | 0, _, _ => none
  | k + 1, x0, x17 => if x17 = true then (some (0, false)) else (address_digits.l0 k x0 0 (x0.size : Int) 0)
def address_digits.l0 : Nat → ByteArray → Int → Int → Int → Option (Int × Bool)
  | 0, _, _, _, _ => none
  | k + 1, x0, x4, x19, x20 => if x20 < x19 then (if 0 ≤ x20 then (if x20 < (x0.size : Int) then (if (bt x0 x20) < 48 then (some (0, false)) else (if (bt x0 x20) > 57 then (some (0, false)) else (address_digits.l0 k x0 (mn 1000 (wrap64 ((wrap64 (x4 * 10)) + (((bt x0 x20) - 48) % 256)))) x19 (wrap64 (x20 + 1))))) else (none)) else (none)) else (some (x4, true))
end
def address_digits.f (k : Nat) (a0 : ByteArray) : Option (Int × Bool) := if a0.toList = ([] : List UInt8) then (address_digits.j0 k a0 true) else (if 0 < (a0.size : Int) then (if (bt a0 0) = 48 then (address_digits.j0 k a0 (decide ((a0.size : Int) > 1))) else (address_digits.j0 k a0 false)) else (none))
theorem address_digits.mono_l : ∀ k, (∀ y0 y1, LeO (address_digits.j0 k y0 y1) (address_digits.j0 (k + 1) y0 y1)) ∧ (∀ y0 y1 y2 y3, LeO (address_digits.l0 k y0 y1 y2 y3) (address_digits.l0 (k + 1) y0 y1 y2 y3))
  | 0 => ⟨fun _ _ r h => by simp [address_digits.j0] at h, fun _ _ _ _ r h => by simp [address_digits.l0] at h⟩
  | k + 1 => by
    obtain ⟨ih0, ih1⟩ := address_digits.mono_l k
    refine ⟨?_, ?_⟩
    · intro y0 y1
      unfold address_digits.j0
      repeat' first
      | (with_reducible exact ih0 _ _)
      | (with_reducible exact ih1 _ _ _ _)
      | (with_reducible exact LeO.refl _)
      | (with_reducible exact LeO.none _)
      | (with_reducible refine LeO.ite ?_ ?_)
      | (with_reducible refine LeO.bind ?_ (fun _ => ?_))
    · intro y0 y1 y2 y3
      unfold address_digits.l0
      repeat' first
      | (with_reducible exact ih0 _ _)
      | (with_reducible exact ih1 _ _ _ _)
      | (with_reducible exact LeO.refl _)
      | (with_reducible exact LeO.none _)
      | (with_reducible refine LeO.ite ?_ ?_)
      | (with_reducible refine LeO.bind ?_ (fun _ => ?_))
theorem address_digits.mono : ∀ a0 k, LeO (address_digits.f k a0) (address_digits.f (k + 1) a0) := by
  intro a0 k
  obtain ⟨ih0, ih1⟩ := address_digits.mono_l k
  unfold address_digits.f
  repeat' first
      | (with_reducible exact ih0 _ _)
      | (with_reducible exact ih1 _ _ _ _)
      | (with_reducible exact LeO.refl _)
      | (with_reducible exact LeO.none _)
      | (with_reducible refine LeO.ite ?_ ?_)
      | (with_reducible refine LeO.bind ?_ (fun _ => ?_))
theorem address_digits.calls (k : Nat) (a0 : ByteArray) (r1 : Int) (r2 : Bool) (w : World) (h : address_digits.f k a0 = some (r1, r2)) :
 Calls Tryz.prog 106 #[.string a0] w fun e w' => e = .returned (.tuple #[.int .i64 r1, .bool r2]) ∧ Below w.heap.size w w' := by
 have HB := Aside0.mk (Below.refl w.heap.size w)
 unfold address_digits.f at h; have H := h
 clear h; have HC2 := Aside0.mk H; clear H
 go_enter Tryz.func106, Tryz.ntmps106
 go_upto_region 1 with (fail)
 go_cut [17] (fun v17 wc => ∃ (kq : Nat) (x17_1 : Bool), v17 = .bool x17_1 ∧ Aside0 (address_digits.j0 kq a0 x17_1 = some (r1, r2)) ∧ Aside0 (kq ≤ k) ∧ Aside0 (Below w.heap.size w wc))
 case first =>
  have H := HC2.out
  clear HC2
  by_cases c3 : a0.toList = ([] : List UInt8)
  · rw [if_pos c3] at H
    have c3b0 : (a0.toList == ([] : List UInt8)) = true := beq_iff_eq.mpr c3; have c3b1 : (a0.toList != ([] : List UInt8)) = false := bne_eq_false_iff_eq.mpr c3; clear c3
    (first | rw [c3b0] | (simp only [i64_w, i32_w]; rw [c3b0]) | skip)
    have H' := Aside0.mk H
    clear H
    go_wp2
    go_meet
    case rel => exact ⟨_, (true), zI, H', ⟨by first | omega | exact Nat.le_refl _⟩, ⟨zB HB⟩⟩
  rw [if_neg c3] at H
  have c3b0 : (a0.toList == ([] : List UInt8)) = false := beq_eq_false_iff_ne.mpr c3
  have c3b1 : (a0.toList != ([] : List UInt8)) = true := bne_iff_ne.mpr c3
  (first | rw [c3b0] | (simp only [i64_w, i32_w]; rw [c3b0]) | skip)
  by_cases c4 : 0 < (a0.size : Int)
  rotate_left
  · rw [if_neg c4] at H
    exact absurd H (by simp)
  rw [if_pos c4] at H; have c4b0 : decide (0 < (a0.size : Int)) = true := decide_eq_true c4
  have c4b1 : decide (0 < a0.size) = true := decide_eq_true (by omega)
  clear c4
  by_cases c6 : (bt a0 0) = 48
  · rw [if_pos c6] at H
    have c6b0 : ((bt a0 0) == 48) = true := beq_iff_eq.mpr c6; have c6b1 : ((bt a0 0) != 48) = false := bne_eq_false_iff_eq.mpr c6; clear c6
    have H' := Aside0.mk H
    clear H
    have p5 : 0 ≤ (0 : Int) := (by omega)
    have q5 : 0 < a0.size := (by have : (0 : Int) < (a0.size : Int) := za; omega)
    have hx5 : ∀ h : 0 < a0.size, ((a0[0]'h).toNat : Int) = bt a0 0 := bt_at a0 0
    clear p5
    have qi5 : (0 < (a0.size : Int)) = True := eq_true (of_decide_eq_true (by first | (with_reducible assumption) | assumption))
    replace q5 := eq_true q5
    go_wp2
    go_meet
    case rel => exact ⟨_, (decide ((a0.size : Int) > 1)), zI, H', ⟨by first | omega | exact Nat.le_refl _⟩, ⟨zB HB⟩⟩
  rw [if_neg c6] at H
  have c6b0 : ((bt a0 0) == 48) = false := beq_eq_false_iff_ne.mpr c6
  have c6b1 : ((bt a0 0) != 48) = true := bne_iff_ne.mpr c6
  have H' := Aside0.mk H
  clear H
  have p5 : 0 ≤ (0 : Int) := (by omega)
  have q5 : 0 < a0.size := (by have : (0 : Int) < (a0.size : Int) := za; omega)
  have hx5 : ∀ h : 0 < a0.size, ((a0[0]'h).toNat : Int) = bt a0 0 := bt_at a0 0
  clear p5
  have qi5 : (0 < (a0.size : Int)) = True := eq_true (of_decide_eq_true (by first | (with_reducible assumption) | assumption))
  replace q5 := eq_true q5
  go_wp2
  go_meet
  case rel => exact ⟨_, (false), zI, H', ⟨by first | omega | exact Nat.le_refl _⟩, ⟨zB HB⟩⟩
 case rest =>
  clear HC2
  obtain ⟨kq, x17_1, rfl, HA, HJ1, HB⟩ := hcut
  rcases kq with _ | kj1
  · exact absurd HA.out (by simp [address_digits.j0])
  have H := HA.out
  clear HA
  simp only [address_digits.j0] at H
  by_cases c7 : x17_1 = true
  · subst c7
    rw [if_pos rfl] at H
    simp only [Option.some.injEq, Prod.mk.injEq] at H
    obtain ⟨rfl, rfl⟩ := H
    go_wp2
    go_ret2
    exact ⟨zr, zB HB⟩
  replace c7 := Bool.eq_false_iff.mpr c7
  subst c7; rw [if_neg zF] at H
  have H' := Aside0.mk H
  clear H
  go_wp2
  go_loopg [4, 20] kj1 (fun kq v4 v20 w' => ∃ (x4_2 : Int) (x20_2 : Int), v4 = .int .i64 x4_2 ∧ v20 = .int .i64 x20_2 ∧ Aside0 (address_digits.l0 kq a0 x4_2 (a0.size : Int) x20_2 = some (r1, r2)) ∧ Aside0 (kq ≤ kj1) ∧ Aside0 (Below w.heap.size w w'))
  case atStart => exact ⟨(0), (0), zI, zI, H', ⟨Nat.le_refl _⟩, ⟨zB HB⟩⟩
  case round =>
   clear H'
   try clear c7
   obtain ⟨x4_2, x20_2, rfl, rfl, HA, HK2, HB⟩ := hrel
   rcases gk with _ | k2
   · exact absurd HA.out (by simp [address_digits.l0])
   have H := HA.out
   clear HA
   simp only [address_digits.l0] at H
   by_cases c8 : x20_2 < (a0.size : Int)
   rotate_left
   · rw [if_neg c8] at H
     have c8b0 : decide (x20_2 < (a0.size : Int)) = false := decide_eq_false c8; clear c8
     simp only [Option.some.injEq, Prod.mk.injEq] at H
     obtain ⟨rfl, rfl⟩ := H
     go_wp2
     go_ret2
     exact ⟨zr, zB HB⟩
   rw [if_pos c8] at H
   have c8b0 : decide (x20_2 < (a0.size : Int)) = true := decide_eq_true c8; clear c8
   by_cases c9 : 0 ≤ x20_2
   rotate_left
   · rw [if_neg c9] at H
     exact absurd H (by simp)
   rw [if_pos c9] at H
   have c9b0 : decide (0 ≤ x20_2) = true := decide_eq_true c9; clear c9
   by_cases c10 : x20_2 < (a0.size : Int)
   rotate_left
   · rw [if_neg c10] at H
     exact absurd H (by simp)
   rw [if_pos c10] at H
   have c10b0 : decide (x20_2 < (a0.size : Int)) = true := decide_eq_true c10; clear c10
   by_cases c12 : (bt a0 x20_2) < 48
   · rw [if_pos c12] at H
     have c12b0 : decide ((bt a0 x20_2) < 48) = true := decide_eq_true c12; clear c12
     simp only [Option.some.injEq, Prod.mk.injEq] at H
     obtain ⟨rfl, rfl⟩ := H
     have p11 : 0 ≤ (x20_2 : Int) := za
     have q11 : x20_2 < (a0.size : Int) := za
     have hx11 := bt_at a0 x20_2
     replace p11 := eq_true p11
     replace q11 := eq_true q11
     go_wp2
     go_ret2
     exact ⟨zr, zB HB⟩
   rw [if_neg c12] at H
   have c12b0 : decide ((bt a0 x20_2) < 48) = false := decide_eq_false c12; clear c12
   by_cases c14 : (bt a0 x20_2) > 57
   · rw [if_pos c14] at H
     have c14b0 : decide (57 < (bt a0 x20_2)) = true := decide_eq_true c14; clear c14
     simp only [Option.some.injEq, Prod.mk.injEq] at H
     obtain ⟨rfl, rfl⟩ := H
     have p11 : 0 ≤ (x20_2 : Int) := za
     have q11 : x20_2 < (a0.size : Int) := za
     have hx11 := bt_at a0 x20_2
     replace p11 := eq_true p11
     replace q11 := eq_true q11
     have p13 : 0 ≤ (x20_2 : Int) := za
     have q13 : x20_2 < (a0.size : Int) := za
     have hx13 := bt_at a0 x20_2
     replace p13 := eq_true p13
     replace q13 := eq_true q13
     go_wp2
     go_ret2
     exact ⟨zr, zB HB⟩
   rw [if_neg c14] at H
   have c14b0 : decide (57 < (bt a0 x20_2)) = false := decide_eq_false c14; clear c14
   obtain ⟨ji16, hji16⟩ : ∃ j_ : Int, (mn 1000 (wrap64 ((wrap64 (x4_2 * 10)) + (((bt a0 x20_2) - 48) % 256)))) = j_ := ⟨_, rfl⟩
   replace H : (address_digits.l0 k2 a0 ji16 (a0.size : Int) (wrap64 (x20_2 + 1))) = some (r1, r2) := by first | (rw [hji16] at H; exact H) | (simp only [hji16] at H ⊢; exact H)
   have hji16_ : (if (wrap64 ((wrap64 (x4_2 * 10)) + (((bt a0 x20_2) - 48) % 256))) < 1000 then (wrap64 ((wrap64 (x4_2 * 10)) + (((bt a0 x20_2) - 48) % 256))) else 1000) = ji16 := hji16
   have H' := Aside0.mk H
   clear H
   have p11 : 0 ≤ (x20_2 : Int) := za
   have q11 : x20_2 < (a0.size : Int) := za
   have hx11 := bt_at a0 x20_2
   replace p11 := eq_true p11
   replace q11 := eq_true q11
   have p13 : 0 ≤ (x20_2 : Int) := za
   have q13 : x20_2 < (a0.size : Int) := za
   have hx13 := bt_at a0 x20_2
   replace p13 := eq_true p13
   replace q13 := eq_true q13
   have p15 : 0 ≤ (x20_2 : Int) := za
   have q15 : x20_2 < (a0.size : Int) := za
   have hx15 := bt_at a0 x20_2
   replace p15 := eq_true p15
   replace q15 := eq_true q15
   go_wp2
   go_roundg k2
   case measure => have := HJ1.out; have := HK2.out; omega
   case rel => exact ⟨(ji16), (wrap64 (x20_2 + 1)), (by first | rfl | (simp; done) | (simp only [← hji16] <;> (first | rfl | simp)) | (simp [*]; done)), zI, (by first | exact H' | (rw [hji16]; exact H') | (rw [← hji16]; exact H') | (simp only [hji16] at H' ⊢; exact H') | (simp only [← hji16] at H' ⊢; exact H')), ⟨by have := HJ1.out; have := HK2.out; omega⟩, ⟨zB HB⟩⟩
def address_ParsePrefix.f (k : Nat) (a0 : ByteArray) : Option (Bool × Int × Int × Int × Int) := if (a0.size : Int) > 64 then (some (false, 0, 0, 0, 3)) else ((strings_Cut.f a0 (⟨#[47]⟩ : ByteArray)).bind fun bt241 => ((address_Parse.f k bt241.1).bind fun bt244 => (if bt244.2.2.2 = 0 then ((address_size.f bt244.1 bt244.2.1 bt244.2.2.1).bind fun t249 => (if bt241.2.2 = true then ((address_digits.f k bt241.2.1).bind fun bt251 => (if bt251.2 = true then ((address_size.f bt244.1 bt244.2.1 bt244.2.2.1).bind fun t253 => (if bt251.1 > t253 then (some (false, 0, 0, 0, 4)) else ((address_ValidPrefix.f bt244.1 bt244.2.1 bt244.2.2.1 bt251.1).bind fun t254 => (if t254 = true then (some (bt244.1, bt244.2.1, bt244.2.2.1, bt251.1, 0)) else (some (false, 0, 0, 0, 2)))))) else (some (false, 0, 0, 0, 2)))) else ((address_ValidPrefix.f bt244.1 bt244.2.1 bt244.2.2.1 t249).bind fun t255 => (if t255 = true then (some (bt244.1, bt244.2.1, bt244.2.2.1, t249, 0)) else (some (false, 0, 0, 0, 2)))))) else (some (false, 0, 0, 0, 2)))))
theorem address_ParsePrefix.mono : ∀ a0 k, LeO (address_ParsePrefix.f k a0) (address_ParsePrefix.f (k + 1) a0) := by
  intro a0 k
  unfold address_ParsePrefix.f
  repeat' first
      | (with_reducible exact address_Parse.mono _ _)
      | (with_reducible exact address_digits.mono _ _)
      | (with_reducible exact LeO.refl _)
      | (with_reducible exact LeO.none _)
      | (with_reducible refine LeO.ite ?_ ?_)
      | (with_reducible refine LeO.bind ?_ (fun _ => ?_))
theorem put4 {w : World} {g : Nat} {t : TypeId} {u0 u1 u2 u3 v0 v1 v2 v3 : Value} (h : w.heap[g]? = some (.cells #[u0, u1, u2, u3] t (0, 0))) : ((((w.setCell ⟨g, 0, none⟩ v0).setCell ⟨g, 1, none⟩ v1).setCell ⟨g, 2, none⟩ v2).setCell ⟨g, 3, none⟩ v3).heap[g]? = some (.cells #[v0, v1, v2, v3] t (0, 0)) := by
  refine blk_put (cs := #[v0, v1, v2, u3]) ?_ 3 _ rfl
  refine blk_put (cs := #[v0, v1, u2, u3]) ?_ 2 _ rfl
  refine blk_put (cs := #[v0, u1, u2, u3]) ?_ 1 _ rfl
  refine blk_put (cs := #[u0, u1, u2, u3]) ?_ 0 _ rfl
  exact h
theorem far4 {w : World} {g h : Nat} {o : Obj} {v0 v1 v2 v3 : Value} (hh : w.heap[h]? = some o) (hne : h ≠ g) : ((((w.setCell ⟨g, 0, none⟩ v0).setCell ⟨g, 1, none⟩ v1).setCell ⟨g, 2, none⟩ v2).setCell ⟨g, 3, none⟩ v3).heap[h]? = some o := by
  repeat (refine (Below.heap_setCell _ _ _ _ hne).trans ?_)
  exact hh
theorem below4 {w W : World} {g : Nat} {v0 v1 v2 v3 : Value} (h : Below w.heap.size w W) (hg : w.heap.size ≤ g) : Below w.heap.size w ((((W.setCell ⟨g, 0, none⟩ v0).setCell ⟨g, 1, none⟩ v1).setCell ⟨g, 2, none⟩ v2).setCell ⟨g, 3, none⟩ v3) := by
  repeat (refine below_set ?_ hg)
  exact h
theorem address_ParsePrefix.calls (k : Nat) (a0 : ByteArray) (r1 : Bool) (r2 : Int) (r3 : Int) (r4 : Int) (r5 : Int) (w : World) (h : address_ParsePrefix.f k a0 = some (r1, r2, r3, r4, r5)) (hW_ : WOK w) :
 Calls Tryz.prog 72 #[.string a0] w fun e w' => e = .returned (.tuple #[.agg #[.bool r1, .int .u64 r2, .int .u64 r3, .int .i64 r4], .int .i64 r5]) ∧ Below w.heap.size w w' := by
  have hu33 := Tryz.underlying33
  have hu31 := Tryz.underlying31
  have HW := Aside0.mk hW_; clear hW_; have HB := Aside0.mk (Below.refl w.heap.size w)
  unfold address_ParsePrefix.f at h
  have HH := Aside0.mk h; clear h
  go_enter Tryz.func72, Tryz.ntmps72
  go_upto_region 1 with (fail)
  have HY : Aside0 ((w.alloc (.cells #[.bool false, .int .u64 0, .int .u64 0, .int .i64 0] 33)).heap[w.heap.size]? = some (.cells #[.bool false, .int .u64 0, .int .u64 0, .int .i64 0] 33 (0, 0))) := ⟨heap_alloc_new _ _⟩
  replace HB := Aside0.mk (below_alloc HB.out (.cells #[.bool false, .int .u64 0, .int .u64 0, .int .i64 0] 33))
  obtain ⟨gr, hg⟩ : ∃ x, w.heap.size = x := ⟨_, rfl⟩
  have HYE := Aside0.mk hg
  rw [hg] at HY
  simp only [hg]
  clear hg
  change Code.wp _ _ _ _ (w.alloc (.cells #[.bool false, .int .u64 0, .int .u64 0, .int .i64 0] 33))
  generalize w.alloc (.cells #[.bool false, .int .u64 0, .int .u64 0, .int .i64 0] 33) = W1 at HY HB ⊢
  have HG : Aside0 (w.heap.size ≤ gr) := ⟨by rw [HYE.out]; exact Nat.le_refl _⟩
  have h := HH.out
  clear HH HYE
  by_cases c2 : (a0.size : Int) > 64
  · rw [if_pos c2] at h
    have c2a : decide (64 < (a0.size : Int)) = true := decide_eq_true c2
    have c2b : decide (64 < a0.size) = true := decide_eq_true (by omega)
    clear c2
    simp only [Option.some.injEq, Prod.mk.injEq] at h
    obtain ⟨rfl, rfl, rfl, rfl, rfl⟩ := h
    obtain ⟨x0, x1, x2, x3⟩ := zc4 HY; obtain ⟨f0, f1, f2, f3⟩ := zf4 HY
    go_wp2
    exact bodyPost_ret (results_ct rfl _ _ gr 33 #[.bool false, .int .u64 0, .int .u64 0, .int .i64 0] (0, 0) _ rfl (put4 HY.out) hu33 rfl (by kernel_rfl)) rfl ⟨rfl, below4 HB.out HG.out⟩
  rw [if_neg c2] at h
  have c2a : decide (64 < (a0.size : Int)) = false := decide_eq_false c2
  have c2b : decide (64 < a0.size) = false := decide_eq_false (by omega)
  clear c2
  replace h := Option.bind_eq_some_iff.mp h
  obtain ⟨⟨t1, t2, t3⟩, e1, h⟩ := h
  replace h := Option.bind_eq_some_iff.mp h
  obtain ⟨⟨b0, b1, b2, er⟩, e2, h⟩ := h
  try dsimp only at e1 e2 h
  have HH := Aside0.mk h; have E1 := Aside0.mk e1; have E2 := Aside0.mk e2; clear h e1 e2
  go_wp2_with fail
  refine (strings_Cut.calls a0 _ t1 t2 t3 W1 E1.out (HW.out.below HB.out)).mono ?_
  rintro e w2 ⟨rfl, hb⟩
  replace HY := Aside0.mk (blk_below HY.out hb); replace HB := Aside0.mk (below_then HB.out HB.out.size hb); clear hb; clear c2a c2b
  go_wp2_with fail
  refine (address_Parse.calls k t1 b0 b1 b2 er w2 E2.out (HW.out.below HB.out)).mono ?_
  rintro e w3 ⟨rfl, hb⟩
  replace HY := Aside0.mk (blk_below HY.out hb); replace HB := Aside0.mk (below_then HB.out HB.out.size hb); clear hb
  go_upto_region 5 with (fail)
  have HA : Aside0 ((w3.alloc (.cells #[.bool b0, .int .u64 b1, .int .u64 b2] 31)).heap[w3.heap.size]? = some (.cells #[.bool b0, .int .u64 b1, .int .u64 b2] 31 (0, 0))) := ⟨heap_alloc_new _ _⟩
  replace HY := Aside0.mk (blk_alloc HY.out (.cells #[.bool b0, .int .u64 b1, .int .u64 b2] 31)); replace HB := Aside0.mk (below_alloc HB.out (.cells #[.bool b0, .int .u64 b1, .int .u64 b2] 31))
  obtain ⟨ga, hg⟩ : ∃ x, w3.heap.size = x := ⟨_, rfl⟩
  have HAE := Aside0.mk hg
  rw [hg] at HA
  simp only [hg]
  clear hg
  change Code.wp _ _ _ _ (w3.alloc (.cells #[.bool b0, .int .u64 b1, .int .u64 b2] 31))
  generalize w3.alloc (.cells #[.bool b0, .int .u64 b1, .int .u64 b2] 31) = W4 at HA HY HB ⊢
  clear HAE
  have h := HH.out
  clear HH
  by_cases c3 : er = 0
  rotate_left
  · rw [if_neg c3] at h
    have c3a : (er != 0) = true := bne_iff_ne.mpr c3; clear c3
    simp only [Option.some.injEq, Prod.mk.injEq] at h
    obtain ⟨rfl, rfl, rfl, rfl, rfl⟩ := h
    obtain ⟨x0, x1, x2, x3⟩ := zc4 HY; obtain ⟨f0, f1, f2, f3⟩ := zf4 HY
    go_wp2
    exact bodyPost_ret (results_ct rfl _ _ gr 33 #[.bool false, .int .u64 0, .int .u64 0, .int .i64 0] (0, 0) _ rfl (put4 HY.out) hu33 rfl (by kernel_rfl)) rfl ⟨rfl, below4 HB.out HG.out⟩
  rw [if_pos c3] at h
  have c3a : (er != 0) = false := bne_eq_false_iff_eq.mpr c3; clear c3
  replace h := Option.bind_eq_some_iff.mp h
  obtain ⟨sz, e3, h⟩ := h
  have E3 := Aside0.mk e3; have HH := Aside0.mk h; clear h e3
  go_upto_region 7 with (fail)
  refine start_ (n := 6) (S := fun w' => w'.cell? ⟨ga, 0, none⟩ = some (.bool b0) ∧ w'.cell? ⟨ga, 1, none⟩ = some (.int .u64 b1) ∧ w'.cell? ⟨ga, 2, none⟩ = some (.int .u64 b2)) (ds := [5]) #[false, false, false, false, false, false] (by kernel_rfl) rfl rfl ⟨zc HA 0, zc HA 1, zc HA 2⟩ (fun hHeld => ?_)
  replace HY := Aside0.mk (blk_below HY.out (below_drew (Below.refl _ _))); replace HA := Aside0.mk (blk_below HA.out (below_drew (Below.refl _ _))); replace HB := Aside0.mk (below_drew HB.out)
  generalize W4.drew = V4 at HY HA HB hHeld ⊢
  refine zt0 0 30 hHeld ?_
  refine zt0 1 31 hHeld ?_
  refine join_ (σ := Nat) 1 #[true, true, true, true, true, false] (fun s_ => [(32, .int .i64 sz), (9, .pointer (some ⟨s_, 0, none⟩)), (33, .agg #[.bool b0, .int .u64 b1, .int .u64 b2, .int .i64 sz])]) (fun s_ w' => (w'.cell? ⟨ga, 0, none⟩ = some (.bool b0) ∧ w'.cell? ⟨ga, 1, none⟩ = some (.int .u64 b1) ∧ w'.cell? ⟨ga, 2, none⟩ = some (.int .u64 b2)) ∧ (w'.heap[gr]? = some (.cells #[.bool false, .int .u64 0, .int .u64 0, .int .i64 0] 33 (0, 0))) ∧ (w'.heap[ga]? = some (.cells #[.bool b0, .int .u64 b1, .int .u64 b2] 31 (0, 0))) ∧ (w'.heap[s_]? = some (.cells #[.bool false, .int .u64 0, .int .u64 0, .int .i64 0] 33 (0, 0))) ∧ (s_ ≠ gr ∧ w.heap.size ≤ s_ ∧ gr ≠ s_ ∧ ga ≠ s_) ∧ (Below w.heap.size w w')) ?_ ?_
  rotate_left
  · intro hCont
    refine two_ (i := 2) (j := 4) (Ni := some 32) (Nj := some 9) #[true, true, true, false, false, false] #[true, true, false, false, true, false] rfl rfl rfl rfl (by kernel_rfl) (by decide) (by decide) (fun K hK => ?_) (fun K hK => ?_)
    · skip
      refine zg Tryz.func92 #[.agg #[.bool b0, .int .u64 b1, .int .u64 b2]] ?_
      refine (address_size.calls b0 b1 b2 sz V4 E3.out).mono ?_
      rintro e w5 ⟨rfl, hb⟩
      refine ⟨_, rfl, ?_⟩
      replace HY := Aside0.mk (blk_below HY.out hb); replace HA := Aside0.mk (blk_below HA.out hb); replace HB := Aside0.mk (below_then HB.out HB.out.size hb)
      refine hK.out _ _ ⟨zc HA 0, zc HA 1, zc HA 2⟩ (fun hHeld => ?_)
      clear hK K
      refine zn 32 ?_
      refine zp0 3 33 ?_
      refine zo0 4 9 (fun K hK => ?_)
      refine value_ (w1 := ?_) (v := ?_) (by rfl) rfl ?_ ?_
      rotate_left 2
      · go_simp
        constructor
        · rfl
        rfl
      have HP : Aside0 ((w5.alloc (.cells #[.bool false, .int .u64 0, .int .u64 0, .int .i64 0] 33)).heap[w5.heap.size]? = some (.cells #[.bool false, .int .u64 0, .int .u64 0, .int .i64 0] 33 (0, 0))) := ⟨heap_alloc_new _ _⟩
      have HPN : Aside0 (w5.heap.size ≠ gr ∧ w.heap.size ≤ w5.heap.size ∧ gr ≠ w5.heap.size ∧ ga ≠ w5.heap.size) := ⟨by have h1 := blk_lt HY.out; omega, HB.out.size, by have h1 := blk_lt HY.out; omega, by have h1 := blk_lt HA.out; omega⟩
      replace HY := Aside0.mk (blk_alloc HY.out (.cells #[.bool false, .int .u64 0, .int .u64 0, .int .i64 0] 33)); replace HA := Aside0.mk (blk_alloc HA.out (.cells #[.bool false, .int .u64 0, .int .u64 0, .int .i64 0] 33)); replace HB := Aside0.mk (below_alloc HB.out (.cells #[.bool false, .int .u64 0, .int .u64 0, .int .i64 0] 33))
      refine hK.out _ _ ⟨zc HA 0, zc HA 1, zc HA 2⟩ (fun hHeld => ?_)
      clear hK K
      refine zn 9 ?_
      exact norm_ (by simp only [putAll, Act.put, List.setIfInBounds_toArray, List.set_cons_zero, List.set_cons_succ]) (hCont w5.heap.size _ ⟨hHeld, HY.out, HA.out, HP.out, HPN.out, HB.out⟩)
    skip
    refine value_ (w1 := ?_) (v := ?_) (by rfl) rfl ?_ ?_
    rotate_left 2
    · go_simp
      constructor
      · rfl
      rfl
    have HP : Aside0 ((V4.alloc (.cells #[.bool false, .int .u64 0, .int .u64 0, .int .i64 0] 33)).heap[V4.heap.size]? = some (.cells #[.bool false, .int .u64 0, .int .u64 0, .int .i64 0] 33 (0, 0))) := ⟨heap_alloc_new _ _⟩
    have HPN : Aside0 (V4.heap.size ≠ gr ∧ w.heap.size ≤ V4.heap.size ∧ gr ≠ V4.heap.size ∧ ga ≠ V4.heap.size) := ⟨by have h1 := blk_lt HY.out; omega, HB.out.size, by have h1 := blk_lt HY.out; omega, by have h1 := blk_lt HA.out; omega⟩
    replace HY := Aside0.mk (blk_alloc HY.out (.cells #[.bool false, .int .u64 0, .int .u64 0, .int .i64 0] 33)); replace HA := Aside0.mk (blk_alloc HA.out (.cells #[.bool false, .int .u64 0, .int .u64 0, .int .i64 0] 33)); replace HB := Aside0.mk (below_alloc HB.out (.cells #[.bool false, .int .u64 0, .int .u64 0, .int .i64 0] 33))
    refine hK.out _ _ ⟨zc HA 0, zc HA 1, zc HA 2⟩ (fun hHeld => ?_)
    clear hK K
    refine zn 9 ?_
    refine zo0 2 32 (fun K hK => ?_)
    refine zg Tryz.func92 #[.agg #[.bool b0, .int .u64 b1, .int .u64 b2]] ?_
    refine (address_size.calls b0 b1 b2 sz (V4.alloc (.cells #[.bool false, .int .u64 0, .int .u64 0, .int .i64 0] 33)) E3.out).mono ?_
    rintro e w5 ⟨rfl, hb⟩
    refine ⟨_, rfl, ?_⟩
    replace HY := Aside0.mk (blk_below HY.out hb); replace HA := Aside0.mk (blk_below HA.out hb); replace HB := Aside0.mk (below_then HB.out HB.out.size hb)
    refine hK.out _ _ ⟨zc HA 0, zc HA 1, zc HA 2⟩ (fun hHeld => ?_)
    clear hK K
    refine zn 32 ?_
    refine zp0 3 33 ?_
    replace HP := Aside0.mk (blk_below HP.out hb)
    exact norm_ (by simp only [putAll, Act.put, List.setIfInBounds_toArray, List.set_cons_zero, List.set_cons_succ]) (hCont V4.heap.size _ ⟨hHeld, HY.out, HA.out, HP.out, HPN.out, HB.out⟩)
  rintro gp V5 ⟨hHeld, hy, ha, hp, hpn, hb⟩
  clear HY HA HB; have HY := Aside0.mk hy; have HA := Aside0.mk ha; have HP := Aside0.mk hp; have HPN := Aside0.mk hpn; have HB := Aside0.mk hb; clear hy ha hp hpn hb
  refine norm_ (a' := ?_) ?_ ?_
  rotate_left
  · simp only [putAll, Act.put, List.setIfInBounds_toArray, List.set_cons_zero, List.set_cons_succ]
    rfl
  obtain ⟨p0, p1, p2, p3⟩ := zc4 HP; obtain ⟨f0, f1, f2, f3⟩ := zf4 HP
  refine last_ (i := 5) (N := none) #[true, true, true, true, true, true] rfl rfl (by kernel_rfl) (by decide) (fun K hK => ?_)
  refine skip_ (w1 := ?_) (by rfl) rfl ?_ ?_
  rotate_left
  · go_simp
    rfl
  refine hK.out _ _ ?_
  clear hK K p0 p1 p2 p3 f0 f1 f2 f3 c3a
  refine zd0 ?_
  replace HP := Aside0.mk (put4 (v0 := .bool b0) (v1 := .int .u64 b1) (v2 := .int .u64 b2) (v3 := .int .i64 sz) HP.out); replace HY := Aside0.mk (far4 (v0 := .bool b0) (v1 := .int .u64 b1) (v2 := .int .u64 b2) (v3 := .int .i64 sz) HY.out HPN.out.2.2.1); replace HA := Aside0.mk (far4 (v0 := .bool b0) (v1 := .int .u64 b1) (v2 := .int .u64 b2) (v3 := .int .i64 sz) HA.out HPN.out.2.2.2); replace HB := Aside0.mk (below4 (v0 := .bool b0) (v1 := .int .u64 b1) (v2 := .int .u64 b2) (v3 := .int .i64 sz) HB.out HPN.out.2.1)
  generalize (((V5.setCell ⟨gp, 0, none⟩ (.bool b0)).setCell ⟨gp, 1, none⟩ (.int .u64 b1)).setCell ⟨gp, 2, none⟩ (.int .u64 b2)).setCell ⟨gp, 3, none⟩ (.int .i64 sz) = W6 at HP HY HA HB ⊢
  have h := HH.out
  clear HH
  by_cases c4 : t3 = true
  rotate_left
  · rw [if_neg c4] at h
    rw [Bool.not_eq_true] at c4
    subst c4; clear HA
    replace h := Option.bind_eq_some_iff.mp h
    obtain ⟨ok, e7, h⟩ := h
    obtain ⟨p0, p1, p2, p3⟩ := zc4 HP
    go_wp2_with fail
    refine (address_ValidPrefix.calls b0 b1 b2 sz ok W6 e7).mono ?_
    rintro e w9 ⟨rfl, hb⟩
    clear p0 p1 p2 p3; replace HY := Aside0.mk (blk_below HY.out hb); replace HP := Aside0.mk (blk_below HP.out hb); replace HB := Aside0.mk (below_then HB.out HB.out.size hb); clear hb
    cases ok
    · rw [if_neg Bool.false_ne_true] at h
      simp only [Option.some.injEq, Prod.mk.injEq] at h
      obtain ⟨rfl, rfl, rfl, rfl, rfl⟩ := h
      obtain ⟨x0, x1, x2, x3⟩ := zc4 HY; obtain ⟨f0, f1, f2, f3⟩ := zf4 HY
      go_wp2
      exact bodyPost_ret (results_ct rfl _ _ gr 33 #[.bool false, .int .u64 0, .int .u64 0, .int .i64 0] (0, 0) _ rfl (put4 HY.out) hu33 rfl (by kernel_rfl)) rfl ⟨rfl, below4 HB.out HG.out⟩
    rw [if_pos rfl] at h
    simp only [Option.some.injEq, Prod.mk.injEq] at h
    obtain ⟨rfl, rfl, rfl, rfl, rfl⟩ := h
    obtain ⟨p0, p1, p2, p3⟩ := zc4 HP; obtain ⟨x0, x1, x2, x3⟩ := zc4 HY; obtain ⟨f0, f1, f2, f3⟩ := zf4 HY
    go_wp2
    exact bodyPost_ret (results_ct rfl _ _ gr 33 #[.bool b0, .int .u64 b1, .int .u64 b2, .int .i64 sz] (0, 0) _ rfl (put4 HY.out) hu33 rfl (by kernel_rfl)) rfl ⟨rfl, below4 HB.out HG.out⟩
  rw [if_pos c4] at h
  subst c4
  replace h := Option.bind_eq_some_iff.mp h
  obtain ⟨⟨n, okd⟩, e4, h⟩ := h
  try dsimp only at e4 h
  have E4 := Aside0.mk e4; have HH := Aside0.mk h; clear h e4
  go_wp2_with fail
  refine (address_digits.calls k t2 n okd W6 E4.out).mono ?_
  rintro e w7 ⟨rfl, hb⟩
  replace HY := Aside0.mk (blk_below HY.out hb); replace HA := Aside0.mk (blk_below HA.out hb); replace HP := Aside0.mk (blk_below HP.out hb); replace HB := Aside0.mk (below_then HB.out HB.out.size hb); clear hb
  have h := HH.out
  clear HH
  by_cases c5 : okd = true
  rotate_left
  · rw [if_neg c5] at h
    rw [Bool.not_eq_true] at c5
    subst c5
    simp only [Option.some.injEq, Prod.mk.injEq] at h
    obtain ⟨rfl, rfl, rfl, rfl, rfl⟩ := h
    obtain ⟨x0, x1, x2, x3⟩ := zc4 HY; obtain ⟨f0, f1, f2, f3⟩ := zf4 HY
    go_wp2
    exact bodyPost_ret (results_ct rfl _ _ gr 33 #[.bool false, .int .u64 0, .int .u64 0, .int .i64 0] (0, 0) _ rfl (put4 HY.out) hu33 rfl (by kernel_rfl)) rfl ⟨rfl, below4 HB.out HG.out⟩
  rw [if_pos c5] at h
  subst c5
  replace h := Option.bind_eq_some_iff.mp h
  obtain ⟨s2, e5, h⟩ := h
  have E5 := Aside0.mk e5; have HH := Aside0.mk h; clear h e5; obtain ⟨y0, y1, y2⟩ := zc3 HA
  go_wp2_with fail
  refine (address_size.calls b0 b1 b2 s2 w7 E5.out).mono ?_
  rintro e w8 ⟨rfl, hb⟩
  clear y0 y1 y2; replace HY := Aside0.mk (blk_below HY.out hb); replace HA := Aside0.mk (blk_below HA.out hb); replace HP := Aside0.mk (blk_below HP.out hb); replace HB := Aside0.mk (below_then HB.out HB.out.size hb); clear hb
  have h := HH.out
  clear HH
  by_cases c6 : n > s2
  · rw [if_pos c6] at h
    have c6a : decide (s2 < n) = true := decide_eq_true c6; clear c6
    simp only [Option.some.injEq, Prod.mk.injEq] at h
    obtain ⟨rfl, rfl, rfl, rfl, rfl⟩ := h
    obtain ⟨x0, x1, x2, x3⟩ := zc4 HY; obtain ⟨f0, f1, f2, f3⟩ := zf4 HY
    go_wp2
    exact bodyPost_ret (results_ct rfl _ _ gr 33 #[.bool false, .int .u64 0, .int .u64 0, .int .i64 0] (0, 0) _ rfl (put4 HY.out) hu33 rfl (by kernel_rfl)) rfl ⟨rfl, below4 HB.out HG.out⟩
  rw [if_neg c6] at h
  have c6a : decide (s2 < n) = false := decide_eq_false c6; clear c6; have HH := Aside0.mk h; clear h; obtain ⟨p0, p1, p2, p3⟩ := zc4 HP; obtain ⟨f0, f1, f2, f3⟩ := zf4 HP
  go_upto_region 15 with (fail)
  clear p0 p1 p2 p3 f0 f1 f2 f3
  replace HP : Aside0 ((w8.setCell ⟨gp, 3, none⟩ (.int .i64 n)).heap[gp]? = some (.cells #[.bool b0, .int .u64 b1, .int .u64 b2, .int .i64 n] 33 (0, 0))) := ⟨blk_put HP.out 3 _ rfl⟩
  replace HY : Aside0 ((w8.setCell ⟨gp, 3, none⟩ (.int .i64 n)).heap[gr]? = some (.cells #[.bool false, .int .u64 0, .int .u64 0, .int .i64 0] 33 (0, 0))) := ⟨blk_far HY.out (Ne.symm HPN.out.1) _⟩
  replace HB : Aside0 (Below w.heap.size w (w8.setCell ⟨gp, 3, none⟩ (.int .i64 n))) := ⟨below_set HB.out HPN.out.2.1⟩
  clear HA c6a
  generalize w8.setCell ⟨gp, 3, none⟩ (.int .i64 n) = W9 at HP HY HB ⊢
  have h := HH.out
  clear HH
  replace h := Option.bind_eq_some_iff.mp h
  obtain ⟨ok, e7, h⟩ := h
  obtain ⟨p0, p1, p2, p3⟩ := zc4 HP
  go_wp2_with fail
  refine (address_ValidPrefix.calls b0 b1 b2 n ok W9 e7).mono ?_
  rintro e w9 ⟨rfl, hb⟩
  clear p0 p1 p2 p3; replace HY := Aside0.mk (blk_below HY.out hb); replace HP := Aside0.mk (blk_below HP.out hb); replace HB := Aside0.mk (below_then HB.out HB.out.size hb); clear hb
  cases ok
  · rw [if_neg Bool.false_ne_true] at h
    simp only [Option.some.injEq, Prod.mk.injEq] at h
    obtain ⟨rfl, rfl, rfl, rfl, rfl⟩ := h
    obtain ⟨x0, x1, x2, x3⟩ := zc4 HY; obtain ⟨f0, f1, f2, f3⟩ := zf4 HY
    go_wp2
    exact bodyPost_ret (results_ct rfl _ _ gr 33 #[.bool false, .int .u64 0, .int .u64 0, .int .i64 0] (0, 0) _ rfl (put4 HY.out) hu33 rfl (by kernel_rfl)) rfl ⟨rfl, below4 HB.out HG.out⟩
  rw [if_pos rfl] at h
  simp only [Option.some.injEq, Prod.mk.injEq] at h
  obtain ⟨rfl, rfl, rfl, rfl, rfl⟩ := h
  obtain ⟨p0, p1, p2, p3⟩ := zc4 HP; obtain ⟨x0, x1, x2, x3⟩ := zc4 HY; obtain ⟨f0, f1, f2, f3⟩ := zf4 HY
  go_wp2
  exact bodyPost_ret (results_ct rfl _ _ gr 33 #[.bool b0, .int .u64 b1, .int .u64 b2, .int .i64 n] (0, 0) _ rfl (put4 HY.out) hu33 rfl (by kernel_rfl)) rfl ⟨rfl, below4 HB.out HG.out⟩
end Go.Proofs.YtnphnhkinjppjaaGreatDoor.Q
end
