/- The law AssetFinds answers true for every input and leaves its arguments as they were. No condition. (Part 3 of 5: the kit's printed words and walks, hand-made contracts and plain laws, joined in build order, without what the theorem does not reach.) -/
import Derived.Shelf.Strings.BuilderK
import Derived.Lib.ItoaLen
import Derived.Shelf.SlSortCmp.InsertionK
import Derived.Laws.CopyRow
import Derived.Laws.OwnMore
import Derived.OwnWalk
import Derived.Test.YtnphnhkinjppjaaGreatDoorGAssetFinds2
set_option linter.unusedVariables false
set_option linter.unusedSimpArgs false
section
set_option maxHeartbeats 8000000
set_option maxRecDepth 100000
namespace Go.Proofs.YtnphnhkinjppjaaGreatDoor.Q
open Go.RowKit Go.Proofs.YtnphnhkinjppjaaGreatDoorW.PrintWords Go.Proofs.YtnphnhkinjppjaaGreatDoorW.PrintLast Go.Proofs.YtnphnhkinjppjaaGreatDoorW.PrintMore
attribute [local go_sem] max2_int min2_int max_two min_two max_three min_three max_four min_four
mutual
def asset_twice.l0 : Nat → List (S74) → List (S74) → Int → Int → Option (Bool)
  | 0, _, _, _, _ => none
  | k + 1, x0, x7, x8, x9 => if x9 < x8 then (if 0 ≤ x9 then (if x9 < (x7.length : Int) then (if x9 ≤ (x0.length : Int) then ((some (x0.take (x9 : Int).toNat : List (S74))).bind fun y127 => (asset_twice.l1 k x0 x7 x8 x9 y127 (y127.length : Int) 0 ((rd_T74 x7 x9).f0) ((rd_T74 x7 x9).f1) ((rd_T74 x7 x9).f2))) else (none)) else (none)) else (none)) else (some false)
def asset_twice.l1 : Nat → List (S74) → List (S74) → Int → Int → List (S74) → Int → Int → Int → Int → Int → Option (Bool)
  | 0, _, _, _, _, _, _, _, _, _, _ => none
  | k + 1, x0, x7, x8, x9, x16, x17, x18, x127000, x127001, x127002 => if x18 < x17 then (if 0 ≤ x18 then (if x18 < (x16.length : Int) then (if x127000 = ((rd_T74 x16 x18).f0) then (if x127001 = ((rd_T74 x16 x18).f1) then (some true) else (asset_twice.l1 k x0 x7 x8 x9 x16 x17 (wrap64 (x18 + 1)) x127000 x127001 x127002)) else (asset_twice.l1 k x0 x7 x8 x9 x16 x17 (wrap64 (x18 + 1)) x127000 x127001 x127002)) else (none)) else (none)) else (asset_twice.l0 k x0 x7 x8 (wrap64 (x9 + 1)))
end
def asset_twice.f (k : Nat) (l0 : List (S74)) : Option (Bool) := asset_twice.l0 k l0 l0 (l0.length : Int) 0
theorem asset_twice.mono_l : ∀ k, (∀ y0 y1 y2 y3, LeO (asset_twice.l0 k y0 y1 y2 y3) (asset_twice.l0 (k + 1) y0 y1 y2 y3)) ∧ (∀ y0 y1 y2 y3 y4 y5 y6 y7 y8 y9, LeO (asset_twice.l1 k y0 y1 y2 y3 y4 y5 y6 y7 y8 y9) (asset_twice.l1 (k + 1) y0 y1 y2 y3 y4 y5 y6 y7 y8 y9))
  | 0 => ⟨fun _ _ _ _ r h => by simp [asset_twice.l0] at h, fun _ _ _ _ _ _ _ _ _ _ r h => by simp [asset_twice.l1] at h⟩
  | k + 1 => by
    obtain ⟨ih0, ih1⟩ := asset_twice.mono_l k
    refine ⟨?_, ?_⟩
    · intro y0 y1 y2 y3
      unfold asset_twice.l0
      repeat' first
      | (with_reducible exact ih0 _ _ _ _)
      | (with_reducible exact ih1 _ _ _ _ _ _ _ _ _ _)
      | (with_reducible exact LeO.refl _)
      | (with_reducible exact LeO.none _)
      | (with_reducible refine LeO.ite ?_ ?_)
      | (with_reducible refine LeO.bind ?_ (fun _ => ?_))
    · intro y0 y1 y2 y3 y4 y5 y6 y7 y8 y9
      unfold asset_twice.l1
      repeat' first
      | (with_reducible exact ih0 _ _ _ _)
      | (with_reducible exact ih1 _ _ _ _ _ _ _ _ _ _)
      | (with_reducible exact LeO.refl _)
      | (with_reducible exact LeO.none _)
      | (with_reducible refine LeO.ite ?_ ?_)
      | (with_reducible refine LeO.bind ?_ (fun _ => ?_))
theorem asset_twice.mono : ∀ a0 k, LeO (asset_twice.f k a0) (asset_twice.f (k + 1) a0) := by
  intro a0 k
  obtain ⟨ih0, ih1⟩ := asset_twice.mono_l k
  unfold asset_twice.f
  repeat' first
      | (with_reducible exact ih0 _ _ _ _)
      | (with_reducible exact ih1 _ _ _ _ _ _ _ _ _ _)
      | (with_reducible exact LeO.refl _)
      | (with_reducible exact LeO.none _)
      | (with_reducible refine LeO.ite ?_ ?_)
      | (with_reducible refine LeO.bind ?_ (fun _ => ?_))
theorem asset_twice.calls (k : Nat) (A0 : Option Addr) (c0 : Nat) (l0 : List (S74)) (r : Bool) (w : World) (hr0 : Kd.C k74 w A0 l0.length l0) (hc0 : l0.length ≤ c0) (h : asset_twice.f k l0 = some r) :
 Calls Tryz.prog 33 #[.slice A0 l0.length c0] w fun e w' => e = .returned (.bool r) ∧ Below w.heap.size w w' := by
 have hu74 := Tryz.underlying74
 have HR0 := Aside0.mk hr0; have HC0 := Aside0.mk hc0; clear hr0 hc0; have HB := Aside0.mk (Below.refl w.heap.size w)
 unfold asset_twice.f at h; have H := h
 clear h
 have H' := Aside0.mk H
 clear H
 go_enter Tryz.func33, Tryz.ntmps33
 go_wp2
 go_loopg [9] k (fun kq v9 w' => ∃ (x9_1 : Int), v9 = .int .i64 x9_1 ∧ Aside0 (asset_twice.l0 kq l0 l0 (l0.length : Int) x9_1 = some r) ∧ Aside0 (kq ≤ k) ∧ Aside0 (Below w.heap.size w w'))
 case atStart => exact ⟨(0), zI, H', ⟨Nat.le_refl _⟩, ⟨zB HB⟩⟩
 case round =>
  clear H'
  obtain ⟨x9_1, rfl, HA, HK1, HB⟩ := hrel
  rcases gk with _ | k1
  · exact absurd HA.out (by simp [asset_twice.l0])
  have H := HA.out
  clear HA
  simp only [asset_twice.l0] at H
  by_cases c2 : x9_1 < (l0.length : Int)
  rotate_left
  · rw [if_neg c2] at H
    have c2b0 : decide (x9_1 < (l0.length : Int)) = false := decide_eq_false c2; clear c2
    obtain rfl := Option.some.inj H
    go_wp2
    go_ret
    exact ⟨zr, zB HB⟩
  rw [if_pos c2] at H
  have c2b0 : decide (x9_1 < (l0.length : Int)) = true := decide_eq_true c2; clear c2
  by_cases c3 : 0 ≤ x9_1
  rotate_left
  · rw [if_neg c3] at H
    exact absurd H (by simp)
  rw [if_pos c3] at H
  have c3b0 : decide (0 ≤ x9_1) = true := decide_eq_true c3; clear c3
  by_cases c4 : x9_1 < (l0.length : Int)
  rotate_left
  · rw [if_neg c4] at H
    exact absurd H (by simp)
  rw [if_pos c4] at H
  have c4b0 : decide (x9_1 < (l0.length : Int)) = true := decide_eq_true c4; clear c4
  have c5b0 := eq_true (of_decide_eq_true (by first | (with_reducible assumption) | assumption) : 0 ≤ x9_1)
  by_cases c6 : x9_1 ≤ (l0.length : Int)
  rotate_left
  · rw [if_neg c6] at H
    exact absurd H (by simp)
  rw [if_pos c6] at H
  have c6b0 := eq_true c6
  have c6b1 : decide (x9_1 ≤ (l0.length : Int)) = true := decide_eq_true c6; clear c6
  obtain ⟨y127, hy127⟩ : ∃ y_ : List (S74), y_ = (l0.take (x9_1 : Int).toNat) := ⟨_, rfl⟩
  rw [← hy127] at H; try dsimp only [Option.bind_some] at H
  have Ny127 := Aside0.mk hy127; clear hy127
  have H' := Aside0.mk H
  clear H
  have p125 : 0 ≤ (x9_1 : Int) := za
  have q125 : x9_1 < (l0.length : Int) := za
  obtain ⟨ad125, e125, hx125_0, hx125_1, hx125_2⟩ := at_T74 HR0.out x9_1 p125 q125
  cases e125
  replace hx125_0 := zh HB hx125_0; replace hx125_1 := zh HB hx125_1; replace hx125_2 := zh HB hx125_2
  replace p125 := eq_true p125
  replace q125 := eq_true q125
  go_wp2_with (first | ((with_reducible refine gate_dst (N := 4) rfl ?_); refine zx 4 #[.int .i64 0, .int .i64 0, .int .i64 0] 74 ?_; intro gb126 hg w7 hbox hb; have BK126 := Aside0.mk (hbox); have GW126 := zG HB hg; have GE126 := zG HB hg; replace HB := Aside0.mk (below_step (zB HB) hb); clear hb hbox hg; obtain ⟨hcz8_0, hcz8_1, hcz8_2⟩ := zc3 BK126; obtain ⟨hfz8_0, hfz8_1, hfz8_2⟩ := zf3 BK126) | ((with_reducible refine gate_store (t := 74) (p := 4) rfl ?_); refine store_event (t := 74) (p := 4) (v := ?vo_w9) (w1 := (((w7.setCell ⟨gb126, 0, none⟩ (.int .i64 ((rd_T74 l0 x9_1).f0))).setCell ⟨gb126, 1, none⟩ (.int .i64 ((rd_T74 l0 x9_1).f1))).setCell ⟨gb126, 2, none⟩ (.int .i64 ((rd_T74 l0 x9_1).f2)))) ?hg ?ho ?hn ?hr ?_; (case ho => rfl); (case hg => rfl); (case hn => rfl); (case hr => first | (go_simp; done) | (go_simp; rfl)); intro w9 hw; replace BK126 : Aside0 (w9.heap[gb126]? = some (.cells #[.int .i64 ((rd_T74 l0 x9_1).f0), .int .i64 ((rd_T74 l0 x9_1).f1), .int .i64 ((rd_T74 l0 x9_1).f2)] 74 (0, 0))) := ⟨(by rw [hw]; exact (by refine zL ?_; refine blk_put (cs := #[.int .i64 ((rd_T74 l0 x9_1).f0), .int .i64 ((rd_T74 l0 x9_1).f1), .int .i64 0]) ?_ 2 _ rfl; refine zL ?_; refine blk_put (cs := #[.int .i64 ((rd_T74 l0 x9_1).f0), .int .i64 0, .int .i64 0]) ?_ 1 _ rfl; refine zL ?_; refine blk_put (cs := #[.int .i64 0, .int .i64 0, .int .i64 0]) ?_ 0 _ rfl; refine zL ?_; exact BK126.out))⟩; replace HB : Aside0 (Below w.heap.size w w9) := ⟨(by rw [hw]; exact (zB HB))⟩; clear hw; have q10 : (x9_1 : Int) ≤ ((l0.length : Int) : Int) := za; obtain ⟨i010, hi010, _, hsz10, _⟩ := info_parts info74; have hroom10 : l0.length ≤ c0 := HC0.out; have hC10 : Kd.C k74 _ (some ad125) l0.length l0 := HR0.out; have hcut10 := cut_to (P := Tryz.prog) 34 74 .i64 Tryz.underlying34 hi010 (some ad125) l0.length c0 x9_1 (of_decide_eq_true (by first | (with_reducible assumption) | assumption)) q10 hroom10; have hr10 := Kd.C_take (m := (x9_1 : Int).toNat) hC10 (by omega); have hy10 : y127.length = (x9_1 : Int).toNat := (by rw [Ny127.out, List.length_take]; omega); rw [← Ny127.out] at hr10; rw [← hy10] at hcut10; have HR130 := Aside0.mk hr10; have HC130 := Aside0.mk (show y127.length ≤ c0 from by omega); clear hr10 hC10 hroom10 hi010 hsz10; have KY10 := Aside0.mk hy10; clear hy10; replace q10 := eq_true q10))
  go_loopg [18] k1 (fun kq v18 w' => ∃ (x18_2 : Int), v18 = .int .i64 x18_2 ∧ Aside0 (asset_twice.l1 kq l0 l0 (l0.length : Int) x9_1 y127 (y127.length : Int) x18_2 ((rd_T74 l0 x9_1).f0) ((rd_T74 l0 x9_1).f1) ((rd_T74 l0 x9_1).f2) = some r) ∧ Aside0 (kq ≤ k1) ∧ Aside0 (w'.heap[gb126]? = some (.cells #[.int .i64 ((rd_T74 l0 x9_1).f0), .int .i64 ((rd_T74 l0 x9_1).f1), .int .i64 ((rd_T74 l0 x9_1).f2)] 74 (0, 0))) ∧ Aside0 (Below w.heap.size w w'))
  case atStart => exact ⟨(0), zI, H', ⟨Nat.le_refl _⟩, ⟨zK BK126⟩, ⟨zB HB⟩⟩
  case round =>
   clear H'
   (try clear c2); (try clear c2b0); (try clear c3); (try clear c3b0); (try clear c4); (try clear c4b0); (try clear c5b0); (try clear c6); (try clear c6b0); (try clear c6b1); (try clear q10); (try clear hcz8_0 hcz8_1 hcz8_2); (try clear hfz8_0 hfz8_1 hfz8_2); (try clear hx125_0); (try clear hx125_1); (try clear hx125_2); (try clear p125); (try clear q125)
   obtain ⟨x18_2, rfl, HA, HK2, BK126, HB⟩ := hrel
   rcases gk with _ | k2
   · exact absurd HA.out (by simp [asset_twice.l1])
   have H := HA.out
   clear HA
   simp only [asset_twice.l1] at H
   by_cases c11 : x18_2 < (y127.length : Int)
   rotate_left
   · rw [if_neg c11] at H
     have c11b0 : decide (x18_2 < (y127.length : Int)) = false := decide_eq_false c11; clear c11
     have H' := Aside0.mk H
     clear H
     go_wp2
     go_roundg k2
     case measure => have := HK1.out; have := HK2.out; omega
     case rel => exact ⟨(wrap64 (x9_1 + 1)), zI, H', ⟨by have := HK1.out; have := HK2.out; omega⟩, ⟨zB HB⟩⟩
   rw [if_pos c11] at H
   have c11b0 : decide (x18_2 < (y127.length : Int)) = true := decide_eq_true c11; clear c11
   by_cases c12 : 0 ≤ x18_2
   rotate_left
   · rw [if_neg c12] at H
     exact absurd H (by simp)
   rw [if_pos c12] at H
   have c12b0 : decide (0 ≤ x18_2) = true := decide_eq_true c12; clear c12
   by_cases c13 : x18_2 < (y127.length : Int)
   rotate_left
   · rw [if_neg c13] at H
     exact absurd H (by simp)
   rw [if_pos c13] at H
   have c13b0 : decide (x18_2 < (y127.length : Int)) = true := decide_eq_true c13; clear c13
   by_cases c14 : ((rd_T74 l0 x9_1).f0) = ((rd_T74 y127 x18_2).f0)
   · rw [if_pos c14] at H
     have c14b0 : (((rd_T74 l0 x9_1).f0) == ((rd_T74 y127 x18_2).f0)) = true := beq_iff_eq.mpr c14; have c14b1 : (((rd_T74 l0 x9_1).f0) != ((rd_T74 y127 x18_2).f0)) = false := bne_eq_false_iff_eq.mpr c14; clear c14
     by_cases c15 : ((rd_T74 l0 x9_1).f1) = ((rd_T74 y127 x18_2).f1)
     · rw [if_pos c15] at H
       have c15b0 : (((rd_T74 l0 x9_1).f1) == ((rd_T74 y127 x18_2).f1)) = true := beq_iff_eq.mpr c15; have c15b1 : (((rd_T74 l0 x9_1).f1) != ((rd_T74 y127 x18_2).f1)) = false := bne_eq_false_iff_eq.mpr c15; clear c15
       obtain rfl := Option.some.inj H
       have p131 : 0 ≤ (x18_2 : Int) := za
       have q131 : x18_2 < (y127.length : Int) := za
       obtain ⟨ad131, e131, hx131_0, hx131_1, hx131_2⟩ := at_T74 HR130.out x18_2 p131 q131
       obtain rfl : ad125 = ad131 := (by injection e131)
       replace hx131_0 := zh HB hx131_0; replace hx131_1 := zh HB hx131_1; replace hx131_2 := zh HB hx131_2
       replace p131 := eq_true p131
       replace q131 := eq_true q131
       go_wp2_with (first | ((with_reducible refine gate_dst (N := 6) rfl ?_); refine zx 6 #[.int .i64 0, .int .i64 0, .int .i64 0] 74 ?_; intro gb132 hg w16 hbox hb; have BK132 := Aside0.mk (hbox); have GW132 := zG HB hg; have GE132 := zG HB hg; replace HB := Aside0.mk (below_step (zB HB) hb); have NB126_132 := Aside0.mk ((by rw [hg]; exact Nat.ne_of_lt (blk_lt (g := gb126) (o := .cells #[.int .i64 ((rd_T74 l0 x9_1).f0), .int .i64 ((rd_T74 l0 x9_1).f1), .int .i64 ((rd_T74 l0 x9_1).f2)] 74 (0, 0)) (zK BK126)) : gb126 ≠ gb132)); have NB132_126 := Aside0.mk ((by rw [hg]; exact Nat.ne_of_gt (blk_lt (g := gb126) (o := .cells #[.int .i64 ((rd_T74 l0 x9_1).f0), .int .i64 ((rd_T74 l0 x9_1).f1), .int .i64 ((rd_T74 l0 x9_1).f2)] 74 (0, 0)) (zK BK126)) : gb132 ≠ gb126)); replace BK126 := zkb BK126 hb; clear hb hbox hg; have hnb17 := NB132_126.out; have hnc17 := NB126_132.out; obtain ⟨hcz18_0, hcz18_1, hcz18_2⟩ := zc3 BK132; obtain ⟨hfz18_0, hfz18_1, hfz18_2⟩ := zf3 BK132; obtain ⟨hcz19_0, hcz19_1, hcz19_2⟩ := zc3 BK126; obtain ⟨hfz19_0, hfz19_1, hfz19_2⟩ := zf3 BK126))
       go_ret
       exact ⟨zr, zB HB⟩
     rw [if_neg c15] at H
     have c15b0 : (((rd_T74 l0 x9_1).f1) == ((rd_T74 y127 x18_2).f1)) = false := beq_eq_false_iff_ne.mpr c15
     have c15b1 : (((rd_T74 l0 x9_1).f1) != ((rd_T74 y127 x18_2).f1)) = true := bne_iff_ne.mpr c15
     have H' := Aside0.mk H
     clear H
     have p131 : 0 ≤ (x18_2 : Int) := za
     have q131 : x18_2 < (y127.length : Int) := za
     obtain ⟨ad131, e131, hx131_0, hx131_1, hx131_2⟩ := at_T74 HR130.out x18_2 p131 q131
     obtain rfl : ad125 = ad131 := (by injection e131)
     replace hx131_0 := zh HB hx131_0; replace hx131_1 := zh HB hx131_1; replace hx131_2 := zh HB hx131_2
     replace p131 := eq_true p131
     replace q131 := eq_true q131
     go_wp2_with (first | ((with_reducible refine gate_dst (N := 6) rfl ?_); refine zx 6 #[.int .i64 0, .int .i64 0, .int .i64 0] 74 ?_; intro gb132 hg w20 hbox hb; have BK132 := Aside0.mk (hbox); have GW132 := zG HB hg; have GE132 := zG HB hg; replace HB := Aside0.mk (below_step (zB HB) hb); have NB126_132 := Aside0.mk ((by rw [hg]; exact Nat.ne_of_lt (blk_lt (g := gb126) (o := .cells #[.int .i64 ((rd_T74 l0 x9_1).f0), .int .i64 ((rd_T74 l0 x9_1).f1), .int .i64 ((rd_T74 l0 x9_1).f2)] 74 (0, 0)) (zK BK126)) : gb126 ≠ gb132)); have NB132_126 := Aside0.mk ((by rw [hg]; exact Nat.ne_of_gt (blk_lt (g := gb126) (o := .cells #[.int .i64 ((rd_T74 l0 x9_1).f0), .int .i64 ((rd_T74 l0 x9_1).f1), .int .i64 ((rd_T74 l0 x9_1).f2)] 74 (0, 0)) (zK BK126)) : gb132 ≠ gb126)); replace BK126 := zkb BK126 hb; clear hb hbox hg; have hnb21 := NB132_126.out; have hnc21 := NB126_132.out; obtain ⟨hcz22_0, hcz22_1, hcz22_2⟩ := zc3 BK132; obtain ⟨hfz22_0, hfz22_1, hfz22_2⟩ := zf3 BK132; obtain ⟨hcz23_0, hcz23_1, hcz23_2⟩ := zc3 BK126; obtain ⟨hfz23_0, hfz23_1, hfz23_2⟩ := zf3 BK126))
     go_roundg k2
     case measure => have := HK1.out; have := HK2.out; omega
     case rel => exact ⟨(wrap64 (x18_2 + 1)), zI, H', ⟨by have := HK1.out; have := HK2.out; omega⟩, ⟨by refine zL ?_; refine blk_far ?_ NB126_132.out _; refine zL ?_; refine blk_far ?_ NB126_132.out _; refine zL ?_; refine blk_far ?_ NB126_132.out _; refine zL ?_; exact BK126.out⟩, ⟨zB HB⟩⟩
   rw [if_neg c14] at H
   have c14b0 : (((rd_T74 l0 x9_1).f0) == ((rd_T74 y127 x18_2).f0)) = false := beq_eq_false_iff_ne.mpr c14
   have c14b1 : (((rd_T74 l0 x9_1).f0) != ((rd_T74 y127 x18_2).f0)) = true := bne_iff_ne.mpr c14
   have H' := Aside0.mk H
   clear H
   have p131 : 0 ≤ (x18_2 : Int) := za
   have q131 : x18_2 < (y127.length : Int) := za
   obtain ⟨ad131, e131, hx131_0, hx131_1, hx131_2⟩ := at_T74 HR130.out x18_2 p131 q131
   obtain rfl : ad125 = ad131 := (by injection e131)
   replace hx131_0 := zh HB hx131_0; replace hx131_1 := zh HB hx131_1; replace hx131_2 := zh HB hx131_2
   replace p131 := eq_true p131
   replace q131 := eq_true q131
   go_wp2_with (first | ((with_reducible refine gate_dst (N := 6) rfl ?_); refine zx 6 #[.int .i64 0, .int .i64 0, .int .i64 0] 74 ?_; intro gb132 hg w24 hbox hb; have BK132 := Aside0.mk (hbox); have GW132 := zG HB hg; have GE132 := zG HB hg; replace HB := Aside0.mk (below_step (zB HB) hb); have NB126_132 := Aside0.mk ((by rw [hg]; exact Nat.ne_of_lt (blk_lt (g := gb126) (o := .cells #[.int .i64 ((rd_T74 l0 x9_1).f0), .int .i64 ((rd_T74 l0 x9_1).f1), .int .i64 ((rd_T74 l0 x9_1).f2)] 74 (0, 0)) (zK BK126)) : gb126 ≠ gb132)); have NB132_126 := Aside0.mk ((by rw [hg]; exact Nat.ne_of_gt (blk_lt (g := gb126) (o := .cells #[.int .i64 ((rd_T74 l0 x9_1).f0), .int .i64 ((rd_T74 l0 x9_1).f1), .int .i64 ((rd_T74 l0 x9_1).f2)] 74 (0, 0)) (zK BK126)) : gb132 ≠ gb126)); replace BK126 := zkb BK126 hb; clear hb hbox hg; have hnb25 := NB132_126.out; have hnc25 := NB126_132.out; obtain ⟨hcz26_0, hcz26_1, hcz26_2⟩ := zc3 BK132; obtain ⟨hfz26_0, hfz26_1, hfz26_2⟩ := zf3 BK132; obtain ⟨hcz27_0, hcz27_1, hcz27_2⟩ := zc3 BK126; obtain ⟨hfz27_0, hfz27_1, hfz27_2⟩ := zf3 BK126))
   go_roundg k2
   case measure => have := HK1.out; have := HK2.out; omega
   case rel => exact ⟨(wrap64 (x18_2 + 1)), zI, H', ⟨by have := HK1.out; have := HK2.out; omega⟩, ⟨by refine zL ?_; refine blk_far ?_ NB126_132.out _; refine zL ?_; refine blk_far ?_ NB126_132.out _; refine zL ?_; refine blk_far ?_ NB126_132.out _; refine zL ?_; exact BK126.out⟩, ⟨zB HB⟩⟩
end Go.Proofs.YtnphnhkinjppjaaGreatDoor.Q
end

section
namespace Go.Proofs.YtnphnhkinjppjaaGreatDoor.Q
open Go.RowKit Go.Proofs.YtnphnhkinjppjaaGreatDoorW.PrintWords Go.Proofs.YtnphnhkinjppjaaGreatDoorW.PrintLast Go.Proofs.YtnphnhkinjppjaaGreatDoorW.PrintMore
attribute [local go_sem] max2_int min2_int max_two min_two max_three min_three max_four min_four
theorem eqA33 (d : Nat) (w : World) (x0 y0 : Bool) (x1 y1 : Int) (x2 y2 : Int) (x3 y3 : Int) :
    (Op.equalIn (d + 3) 33 (.agg #[.bool x0, .int .u64 x1, .int .u64 x2, .int .i64 x3]) (.agg #[.bool y0, .int .u64 y1, .int .u64 y2, .int .i64 y3])).run Tryz.prog w = .ok ((x0 == y0 && (x1 == y1 && (x2 == y2))) && (x3 == y3)) w := by
  refine eqA_of Tryz.underlying33 (by kernel_rfl) ?_
  refine eqf_cons (by rfl) (by go_simp) (by go_simp) (eqA31 (d + 0) w _ _ _ _ _ _) ?_
  exact eqf_last (by rfl) (by go_simp; rfl) (by go_simp; rfl) (by go_simp)
end Go.Proofs.YtnphnhkinjppjaaGreatDoor.Q
end

section
set_option maxHeartbeats 8000000
set_option maxRecDepth 100000
namespace Go.Proofs.YtnphnhkinjppjaaGreatDoor.Q
open Go.RowKit Go.Proofs.YtnphnhkinjppjaaGreatDoorW.PrintWords Go.Proofs.YtnphnhkinjppjaaGreatDoorW.PrintLast Go.Proofs.YtnphnhkinjppjaaGreatDoorW.PrintMore
abbrev asC (A : S36) (v : Value) : Array Value := #[.string A.f0, .bool A.f1.f0.f0, .int .u64 A.f1.f0.f1, .int .u64 A.f1.f0.f2, .int .i64 A.f1.f1, .int .i64 A.f2, .int .i64 A.f3, .int .i64 A.f4, .int .i64 A.f5, .bool A.f6, .int .i64 A.f7, v]
def clash (b a : S36) : Bool := b.f0.toList == a.f0.toList || ((b.f1.f0.f0 == a.f1.f0.f0 && (b.f1.f0.f1 == a.f1.f0.f1 && (b.f1.f0.f2 == a.f1.f0.f2))) && (b.f1.f1 == a.f1.f1))
attribute [local go_sem high] eqA33
theorem clash_walk (b a : S36) (Ab Aa : Option Addr) (nb cb na ca ga : Nat) (w : World) (ha : w.heap[ga]? = some (.cells (asC a (.slice Aa na ca)) 36 (0, 0))) :
    Calls Tryz.prog 32 #[.agg (asC b (.slice Ab nb cb)), .pointer (some ⟨ga, 0, none⟩)] w fun e w' => e = .returned (.bool (clash b a)) ∧ Below w.heap.size w w' := by
  have hu := Tryz.underlying36
  have hu2 := Tryz.underlying33
  have HX : Aside0 ((w.alloc (.cells (asC b (.slice Ab nb cb)) 36)).heap[w.heap.size]? = some (.cells (asC b (.slice Ab nb cb)) 36 (0, 0))) := ⟨heap_alloc_new _ _⟩
  have HY := Aside0.mk (blk_alloc ha (.cells (asC b (.slice Ab nb cb)) 36))
  have HB := Aside0.mk (below_alloc (Below.refl w.heap.size w) (.cells (asC b (.slice Ab nb cb)) 36))
  clear ha
  go_enter Tryz.func32, Tryz.ntmps32
  go_upto_region 1 with (fail)
  obtain ⟨gb, hgb⟩ : ∃ gb, w.heap.size = gb := ⟨_, rfl⟩
  rw [hgb] at HX
  simp only [hgb]
  clear hgb
  change Code.wp _ _ _ _ (w.alloc (.cells (asC b (.slice Ab nb cb)) 36))
  generalize w.alloc (.cells (asC b (.slice Ab nb cb)) 36) = W at HX HY HB ⊢
  obtain ⟨d0, d1, d2, d3, d4, d5, d6, d7, d8, d9, d10, d11⟩ := zc12 HX
  obtain ⟨x0, x1, x2, x3, x4, x5, x6, x7, x8, x9, x10, x11⟩ := zc12 HY
  cases hn : b.f0.toList == a.f0.toList with
  | true =>
    have HE : Aside0 (clash b a = true) := ⟨by unfold clash; rw [hn]; rfl⟩
    go_wp2
    go_ret
    exact ⟨by rw [HE.out]; rfl, HB.out⟩
  | false =>
    have HE : Aside0 (clash b a = ((b.f1.f0.f0 == a.f1.f0.f0 && (b.f1.f0.f1 == a.f1.f0.f1 && (b.f1.f0.f2 == a.f1.f0.f2))) && (b.f1.f1 == a.f1.f1))) := ⟨by unfold clash; rw [hn]; rfl⟩
    go_wp2
    go_ret
    exact ⟨by rw [HE.out]; rfl, HB.out⟩
def Found (l : List S36) (a : S36) (w : World) (e : Ending) (w' : World) : Prop := ∃ n : Int, e = .returned (.int .i64 n) ∧ decide (n ≥ 0) = l.any (fun b => clash b a) ∧ Below w.heap.size w w'
theorem any_take_snoc (l : List S36) (f : S36 → Bool) (i : Nat) (hi : i < l.length) : (l.take (i + 1)).any f = ((l.take i).any f || f (rd_T36 l (i : Int))) := by
  rw [List.take_succ_eq_append_getElem hi, List.any_append]
  simp only [List.any_cons, List.any_nil, Bool.or_false]
  unfold rd_T36
  rw [Int.toNat_natCast, List.getD_eq_getElem?_getD, List.getElem?_eq_getElem hi, Option.getD_some]
theorem any_of_take (l : List S36) (f : S36 → Bool) (i : Nat) (h : (l.take i).any f = true) : l.any f = true := by
  rw [← List.take_append_drop i l, List.any_append, h]; rfl
theorem idx_walk (l : List S36) (a : S36) (A Aa : Option Addr) (c na ca ga : Nat) (w : World) (hC : Kd.C k36 w A l.length l) (hl : l.length ≤ 1000000) (ha : w.heap[ga]? = some (.cells (asC a (.slice Aa na ca)) 36 (0, 0))) :
    Calls Tryz.prog 57 #[.slice A l.length c, .func (.func 32) #[] #[.pointer (some ⟨ga, 0, none⟩)]] w fun e w' => Found l a w e w' := by
  have hu := Tryz.underlying36
  have HC := Aside0.mk hC
  have HA := Aside0.mk ha
  have HL := Aside0.mk hl
  obtain ⟨n, hn⟩ : ∃ n, l.length = n := ⟨_, rfl⟩
  have HN := Aside0.mk hn
  rw [hn]
  clear hC ha hl hn
  go_enter Tryz.func57, Tryz.ntmps57
  go_upto_region 2 with (fail)
  go_loopg [8] n (fun gg v8 wr => ∃ i : Nat, v8 = .int .i64 (i : Int) ∧ Aside0 (gg = n - i ∧ i ≤ n ∧ (l.take i).any (fun b => clash b a) = false) ∧ Aside0 (Below w.heap.size w wr))
  case atStart => exact ⟨0, rfl, ⟨by omega, by omega, by simp⟩, ⟨Below.refl _ _⟩⟩
  case round =>
    obtain ⟨i, rfl, HI, HB⟩ := hrel
    by_cases hi : i < n
    · have b1 : decide (i < n) = true := decide_eq_true hi
      have b2 : decide ((i : Int) < (n : Int)) = true := decide_eq_true (by omega)
      obtain ⟨ad, Ab, cb, rfl, k0, k1, k2, k3, k4, k5, k6, k7, k8, k9, k10, k11, _⟩ := at_T36 HC.out (i : Int) (by omega) (by rw [HN.out]; omega)
      replace k0 := pw_cell_below HB.out k0
      replace k1 := pw_cell_below HB.out k1
      replace k2 := pw_cell_below HB.out k2
      replace k3 := pw_cell_below HB.out k3
      replace k4 := pw_cell_below HB.out k4
      replace k5 := pw_cell_below HB.out k5
      replace k6 := pw_cell_below HB.out k6
      replace k7 := pw_cell_below HB.out k7
      replace k8 := pw_cell_below HB.out k8
      replace k9 := pw_cell_below HB.out k9
      replace k10 := pw_cell_below HB.out k10
      replace k11 := pw_cell_below HB.out k11
      simp only [Int.toNat_natCast] at k0 k1 k2 k3 k4 k5 k6 k7 k8 k9 k10 k11
      have HA2 := Aside0.mk (blk_below HA.out HB.out)
      have b3 : n ≤ 1000000 := by have := HL.out; have := HN.out; omega
      have HS := Aside0.mk (any_take_snoc l (fun b => clash b a) i (by rw [HN.out]; exact hi))
      have HII := Aside0.mk hi
      obtain ⟨b, hb⟩ : ∃ b, rd_T36 l (i : Int) = b := ⟨_, rfl⟩
      rw [hb] at k0 k1 k2 k3 k4 k5 k6 k7 k8 k9 k10 k11 HS
      clear hb
      go_wp2_with fail
      refine (clash_walk b a Ab Aa b.f8.length cb na ca ga wr HA2.out).mono ?_
      rintro e w2 ⟨rfl, hb2⟩
      have HB2 := Aside0.mk (HB.out.trans (hb2.mono HB.out.size))
      clear hb2 k0 k1 k2 k3 k4 k5 k6 k7 k8 k9 k10 k11
      cases hcl : clash b a with
      | true =>
        have HE : Aside0 (l.any (fun b => clash b a) = true) := ⟨any_of_take l _ (i + 1) (by rw [HS.out, hcl]; simp)⟩
        clear hcl
        go_wp2
        go_ret
        exact ⟨(i : Int), rfl, by rw [HE.out]; exact decide_eq_true (by omega), HB2.out⟩
      | false =>
        have HE : Aside0 (gk - 1 < gk ∧ gk - 1 = n - (i + 1) ∧ i + 1 ≤ n ∧ (l.take (i + 1)).any (fun b => clash b a) = false) := ⟨by have := HI.out.1; omega, by have := HI.out.1; omega, by omega, by rw [HS.out, HI.out.2.2, hcl]; rfl⟩
        clear hcl
        go_wp2
        go_roundg (gk - 1)
        case measure => exact HE.out.1
        case rel => exact ⟨i + 1, by go_num, ⟨HE.out.2⟩, HB2⟩
    · have b1 : decide ((i : Int) < (n : Int)) = false := decide_eq_false (by omega)
      have HE : Aside0 (l.any (fun b => clash b a) = false) := ⟨by have h := HI.out.2.2; rwa [List.take_of_length_le (by have := HN.out; omega)] at h⟩
      go_wp2
      go_ret
      exact ⟨-1, rfl, by rw [HE.out]; rfl, HB.out⟩
theorem has_walk (l : List S36) (a : S36) (A Aa : Option Addr) (c na ca ga : Nat) (w : World) (hC : Kd.C k36 w A l.length l) (hl : l.length ≤ 1000000) (ha : w.heap[ga]? = some (.cells (asC a (.slice Aa na ca)) 36 (0, 0))) :
    Calls Tryz.prog 31 #[.slice A l.length c, .func (.func 32) #[] #[.pointer (some ⟨ga, 0, none⟩)]] w fun e w' => e = .returned (.bool (l.any fun b => clash b a)) ∧ Below w.heap.size w w' := by
  have H := Aside0.mk (idx_walk l a A Aa c na ca ga w hC hl ha)
  obtain ⟨n, hn⟩ : ∃ n, l.length = n := ⟨_, rfl⟩
  rw [hn] at H ⊢
  clear hC hl ha hn
  go_enter Tryz.func31, Tryz.ntmps31
  go_wp2_with fail
  refine H.out.mono ?_
  rintro e w2 ⟨m, rfl, h1, h2⟩
  have H1 := Aside0.mk h1
  have H2 := Aside0.mk h2
  clear h1 h2
  go_wp2
  go_ret
  exact ⟨by rw [← H1.out]; rfl, H2.out⟩
def asset_Check.l0 : Nat → List S36 → Nat → Option Int
  | 0, _, _ => none
  | k + 1, l, i =>
    if i < l.length then
      (asset_checkOne.f k (rd_T36 l (i : Int)).f0 (rd_T36 l (i : Int)).f1.f0.f0 (rd_T36 l (i : Int)).f1.f0.f1 (rd_T36 l (i : Int)).f1.f0.f2 (rd_T36 l (i : Int)).f1.f1 (rd_T36 l (i : Int)).f2 (rd_T36 l (i : Int)).f3 (rd_T36 l (i : Int)).f4 (rd_T36 l (i : Int)).f5 (rd_T36 l (i : Int)).f6 (rd_T36 l (i : Int)).f7 (rd_T36 l (i : Int)).f8).bind fun e =>
        if e = 0 then (if ((l.take i).any fun b => clash b (rd_T36 l (i : Int))) = true then some 7 else (asset_twice.f k (rd_T36 l (i : Int)).f8).bind fun t => if t = true then some 7 else asset_Check.l0 k l (i + 1)) else some e
    else some 0
def asset_Check.f (k : Nat) (l : List S36) : Option Int := if (l.length : Int) > 64 then some 3 else asset_Check.l0 k l 0
theorem asset_Check.mono_l : ∀ (k : Nat) (l : List S36) (i : Nat), LeO (asset_Check.l0 k l i) (asset_Check.l0 (k + 1) l i) := by
  intro k
  induction k with
  | zero => intro l i; exact LeO.none _
  | succ k ih =>
    intro l i
    rw [asset_Check.l0, asset_Check.l0]
    exact LeO.ite (LeO.bind (asset_checkOne.mono _ _ _ _ _ _ _ _ _ _ _ _ _) fun e => LeO.ite (LeO.ite (LeO.refl _) (LeO.bind (asset_twice.mono _ _) fun t => LeO.ite (LeO.refl _) (ih _ _))) (LeO.refl _)) (LeO.refl _)
theorem asset_Check.mono : ∀ l k, LeO (asset_Check.f k l) (asset_Check.f (k + 1) l) := fun l k => LeO.ite (LeO.refl _) (asset_Check.mono_l _ _ _)
theorem check_on {k : Nat} {l : List S36} {i : Nat} {r : Int} (h : asset_Check.l0 k l i = some r) (hi : i < l.length) {b : S36} (hb : rd_T36 l (i : Int) = b) : ∃ k' e, k = k' + 1 ∧ asset_checkOne.f k' b.f0 b.f1.f0.f0 b.f1.f0.f1 b.f1.f0.f2 b.f1.f1 b.f2 b.f3 b.f4 b.f5 b.f6 b.f7 b.f8 = some e ∧ ((¬ e = 0 ∧ e = r) ∨ (e = 0 ∧ ((((l.take i).any fun b' => clash b' b) = true ∧ r = 7) ∨ (((l.take i).any fun b' => clash b' b) = false ∧ ∃ t, asset_twice.f k' b.f8 = some t ∧ ((t = true ∧ r = 7) ∨ (t = false ∧ asset_Check.l0 k' l (i + 1) = some r)))))) := by
  cases k with
  | zero => simp [asset_Check.l0] at h
  | succ k =>
    rw [asset_Check.l0, if_pos hi, hb] at h
    obtain ⟨e, he, h⟩ := Option.bind_eq_some_iff.1 h
    refine ⟨k, e, rfl, he, ?_⟩
    split at h
    · rename_i h0
      refine .inr ⟨h0, ?_⟩
      split at h
      · rename_i h1
        exact .inl ⟨h1, (Option.some.inj h).symm⟩
      · rename_i h1
        obtain ⟨t, ht, h⟩ := Option.bind_eq_some_iff.1 h
        refine .inr ⟨by simpa using h1, t, ht, ?_⟩
        split at h
        · rename_i h2
          exact .inl ⟨h2, (Option.some.inj h).symm⟩
        · rename_i h2
          exact .inr ⟨by simpa using h2, h⟩
    · rename_i h0
      exact .inl ⟨h0, Option.some.inj h⟩
theorem check_fin {k : Nat} {l : List S36} {i : Nat} {r : Int} (h : asset_Check.l0 k l i = some r) (hi : ¬ i < l.length) : r = 0 := by
  cases k with
  | zero => simp [asset_Check.l0] at h
  | succ k => rw [asset_Check.l0, if_neg hi] at h; exact (Option.some.inj h).symm
theorem asset_Check.calls (k : Nat) (A : Option Addr) (c : Nat) (l : List S36) (r : Int) (w : World) (hC : Kd.C k36 w A l.length l) (hc : l.length ≤ c) (h : asset_Check.f k l = some r) :
    Calls Tryz.prog 12 #[.slice A l.length c] w fun e w' => e = .returned (.int .i64 r) ∧ Below w.heap.size w w' := by
  have hu := Tryz.underlying36
  have HC := Aside0.mk hC
  have HCC := Aside0.mk hc
  obtain ⟨n, hn⟩ : ∃ n, l.length = n := ⟨_, rfl⟩
  unfold asset_Check.f at h
  rw [hn] at h hc ⊢
  have HN := Aside0.mk hn
  by_cases h64 : (n : Int) > 64
  · rw [if_pos h64] at h
    have hr := Option.some.inj h
    subst hr
    have b1 : decide ((n : Int) > 64) = true := decide_eq_true h64
    have b2 : decide (64 < n) = true := decide_eq_true (by omega)
    clear hC h h64 hn
    go_enter Tryz.func12, Tryz.ntmps12
    go_wp2
    go_ret
    exact ⟨rfl, Below.refl _ _⟩
  · rw [if_neg h64] at h
    have HK := Aside0.mk h
    have b1 : decide ((n : Int) > 64) = false := decide_eq_false h64
    have H64 : Aside0 (n ≤ 64) := ⟨by omega⟩
    clear hC h h64 hn hc
    go_enter Tryz.func12, Tryz.ntmps12
    go_upto_region 4 with (fail)
    clear b1
    go_loopg [12] k (fun gg v12 wr => ∃ i : Nat, v12 = .int .i64 (i : Int) ∧ Aside0 (asset_Check.l0 gg l i = some r ∧ i ≤ n) ∧ Aside0 (Below w.heap.size w wr))
    case atStart => exact ⟨0, rfl, ⟨HK.out, by omega⟩, ⟨Below.refl _ _⟩⟩
    case round =>
      clear HK
      obtain ⟨i, rfl, HI, HB⟩ := hrel
      by_cases hi : i < n
      · have b2 : decide ((i : Int) < (n : Int)) = true := decide_eq_true (by omega)
        have b2' : decide (i < n) = true := decide_eq_true hi
        obtain ⟨ad, Ab, cb, rfl, k0, k1, k2, k3, k4, k5, k6, k7, k8, k9, k10, k11, kl, kc⟩ := at_T36 HC.out (i : Int) (by omega) (by rw [HN.out]; omega)
        replace k0 := pw_cell_below HB.out k0
        replace k1 := pw_cell_below HB.out k1
        replace k2 := pw_cell_below HB.out k2
        replace k3 := pw_cell_below HB.out k3
        replace k4 := pw_cell_below HB.out k4
        replace k5 := pw_cell_below HB.out k5
        replace k6 := pw_cell_below HB.out k6
        replace k7 := pw_cell_below HB.out k7
        replace k8 := pw_cell_below HB.out k8
        replace k9 := pw_cell_below HB.out k9
        replace k10 := pw_cell_below HB.out k10
        replace k11 := pw_cell_below HB.out k11
        simp only [Int.toNat_natCast] at k0 k1 k2 k3 k4 k5 k6 k7 k8 k9 k10 k11
        obtain ⟨b, hb⟩ : ∃ b, rd_T36 l (i : Int) = b := ⟨_, rfl⟩
        obtain ⟨k', e, hk', hone, hcase⟩ := check_on HI.out.1 (by rw [HN.out]; exact hi) hb
        rw [hb] at k0 k1 k2 k3 k4 k5 k6 k7 k8 k9 k10 k11 kl kc
        subst hk'
        have HKL := Aside0.mk kl
        have HKC := Aside0.mk (Kd.C_below kc HB.out)
        have HONE := Aside0.mk hone
        have HCASE := Aside0.mk hcase
        have HII := Aside0.mk hi
        have HTK : Aside0 ((l.take i).length = i) := ⟨by rw [List.length_take, HN.out]; omega⟩
        have b3 : n ≤ 1000000 := by have := H64.out; omega
        clear kl kc hone hcase hb
        go_upto_region 6 with (fail)
        obtain ⟨ga, hga⟩ : ∃ x, wr.heap.size = x := ⟨_, rfl⟩
        have HA : Aside0 ((wr.alloc (.cells (asC b (.slice Ab b.f8.length cb)) 36)).heap[wr.heap.size]? = some (.cells (asC b (.slice Ab b.f8.length cb)) 36 (0, 0))) := ⟨heap_alloc_new _ _⟩
        rw [hga] at HA
        simp only [hga]
        clear hga k0 k1 k2 k3 k4 k5 k6 k7 k8 k9 k10 k11
        replace HKC := Aside0.mk (Kd.C_below HKC.out (below_alloc (Below.refl _ _) (.cells (asC b (.slice Ab b.f8.length cb)) 36)))
        replace HB := Aside0.mk (below_alloc HB.out (.cells (asC b (.slice Ab b.f8.length cb)) 36))
        change Code.wp _ _ _ _ (wr.alloc (.cells (asC b (.slice Ab b.f8.length cb)) 36))
        generalize wr.alloc (.cells (asC b (.slice Ab b.f8.length cb)) 36) = W1 at HA HKC HB ⊢
        obtain ⟨d0, d1, d2, d3, d4, d5, d6, d7, d8, d9, d10, d11⟩ := zc12 HA
        go_wp2_with fail
        refine (asset_checkOne.calls k' b.f0 b.f1.f0.f0 b.f1.f0.f1 b.f1.f0.f2 b.f1.f1 b.f2 b.f3 b.f4 b.f5 b.f6 b.f7 Ab cb b.f8 e W1 HKC.out HKL.out HONE.out).mono ?_
        rintro r2 w2 ⟨rfl, hb2⟩
        clear d0 d1 d2 d3 d4 d5 d6 d7 d8 d9 d10 d11
        replace HKC := Aside0.mk (Kd.C_below HKC.out hb2)
        replace HA := Aside0.mk (blk_below HA.out hb2)
        replace HB := Aside0.mk (HB.out.trans (hb2.mono HB.out.size))
        clear hb2
        rcases HCASE.out with ⟨h1, h2⟩ | ⟨h1, hcs⟩
        · have b5 : (e != 0) = true := bne_iff_ne.mpr h1
          have HE := Aside0.mk h2
          clear h1 h2
          go_wp2
          go_ret
          exact ⟨by rw [← HE.out]; rfl, HB.out⟩
        · have b5 : (e != 0) = false := by rw [h1]; rfl
          have HCS := Aside0.mk hcs
          clear h1 hcs HCASE
          have hcap : n ≤ c := by have := HCC.out; have := HN.out; omega
          have hin : i ≤ n := Nat.le_of_lt HII.out
          have HTC := Aside0.mk (Kd.C_take (m := i) (Kd.C_below HC.out HB.out) (by rw [HN.out]; exact hin))
          have HHAS := Aside0.mk (has_walk (l.take i) b (some ad) Ab c b.f8.length cb ga w2 HTC.out (by rw [HTK.out]; have := H64.out; omega) HA.out)
          rw [HTK.out] at HHAS
          go_wp2_with fail
          refine HHAS.out.mono ?_
          rintro r3 w3 ⟨rfl, hb3⟩
          replace HKC := Aside0.mk (Kd.C_below HKC.out hb3)
          replace HA := Aside0.mk (blk_below HA.out hb3)
          replace HB := Aside0.mk (HB.out.trans (hb3.mono HB.out.size))
          clear hb3 hcap hin HTC HHAS
          rcases HCS.out with ⟨h1, h2⟩ | ⟨h1, t, ht, hcs⟩
          · have HE := Aside0.mk h2
            rw [h1]
            clear h1 h2 HCS
            go_wp2
            go_ret
            exact ⟨by rw [HE.out]; rfl, HB.out⟩
          · have HT := Aside0.mk ht
            have HCT := Aside0.mk hcs
            rw [h1]
            clear h1 ht hcs HCS
            obtain ⟨d0, d1, d2, d3, d4, d5, d6, d7, d8, d9, d10, d11⟩ := zc12 HA
            go_wp2_with fail
            refine (asset_twice.calls k' Ab cb b.f8 t w3 HKC.out HKL.out HT.out).mono ?_
            rintro r4 w4 ⟨rfl, hb4⟩
            replace HB := Aside0.mk (HB.out.trans (hb4.mono HB.out.size))
            clear hb4 d0 d1 d2 d3 d4 d5 d6 d7 d8 d9 d10 d11
            rcases HCT.out with ⟨h1, h2⟩ | ⟨h1, h2⟩
            · subst h1
              have HE := Aside0.mk h2
              clear h2
              go_wp2
              go_ret
              exact ⟨by rw [HE.out]; rfl, HB.out⟩
            · subst h1
              have HE : Aside0 (asset_Check.l0 k' l (i + 1) = some r ∧ i + 1 ≤ n) := ⟨h2, HII.out⟩
              clear h2
              go_wp2
              go_roundg k'
              case measure => exact Nat.lt_succ_self k'
              case rel => exact ⟨i + 1, by go_num, HE, HB⟩
      · have HE : Aside0 (r = 0) := ⟨check_fin HI.out.1 (by rw [HN.out]; exact hi)⟩
        have b2 : decide ((i : Int) < (n : Int)) = false := decide_eq_false (by omega)
        have b2' : decide (i < n) = false := decide_eq_false hi
        go_wp2
        go_ret
        exact ⟨by rw [HE.out]; rfl, HB.out⟩
end Go.Proofs.YtnphnhkinjppjaaGreatDoor.Q
end

section
set_option maxHeartbeats 8000000
set_option maxRecDepth 100000
namespace Go.Proofs.YtnphnhkinjppjaaGreatDoor.Q
open Go.RowKit Go.Proofs.YtnphnhkinjppjaaGreatDoorW.PrintWords Go.Proofs.YtnphnhkinjppjaaGreatDoorW.PrintLast Go.Proofs.YtnphnhkinjppjaaGreatDoorW.PrintMore
attribute [local go_sem] max2_int min2_int max_two min_two max_three min_three max_four min_four
mutual
def r18_inRange.j0 : Nat → Bool → ByteArray → Bool → Int → Int → Int → Int → Int → Int → Int → Bool → Int → List (S74) → Option (Bool)
  | 0, _, _, _, _, _, _, _, _, _, _, _, _, _ => none
  | k + 1, x52, x292000, x292001, x292002, x292003, x292004, x292005, x292006, x292007, x292008, x292009, x292010, x292011 => if x52 = true then (some false) else (r18_inRange.l0 k 0 x292000 x292001 x292002 x292003 x292004 x292005 x292006 x292007 x292008 x292009 x292010 x292011)
def r18_inRange.l0 : Nat → Int → ByteArray → Bool → Int → Int → Int → Int → Int → Int → Int → Bool → Int → List (S74) → Option (Bool)
  | 0, _, _, _, _, _, _, _, _, _, _, _, _, _ => none
  | k + 1, x3, x292000, x292001, x292002, x292003, x292004, x292005, x292006, x292007, x292008, x292009, x292010, x292011 => if x3 < (x292011.length : Int) then (if 0 ≤ x3 then (if ((rd_T74 x292011 x3).f0) = 6 then (if ((rd_T74 x292011 x3).f1) < 0 then (some false) else (if ((rd_T74 x292011 x3).f1) > 65535 then (some false) else (if ((rd_T74 x292011 x3).f2) < 0 then (some false) else (if ((rd_T74 x292011 x3).f2) > 4 then (some false) else (r18_inRange.l0 k (wrap64 (x3 + 1)) x292000 x292001 x292002 x292003 x292004 x292005 x292006 x292007 x292008 x292009 x292010 x292011))))) else (if ((rd_T74 x292011 x3).f0) = 17 then (if ((rd_T74 x292011 x3).f1) < 0 then (some false) else (if ((rd_T74 x292011 x3).f1) > 65535 then (some false) else (if ((rd_T74 x292011 x3).f2) < 0 then (some false) else (if ((rd_T74 x292011 x3).f2) > 4 then (some false) else (r18_inRange.l0 k (wrap64 (x3 + 1)) x292000 x292001 x292002 x292003 x292004 x292005 x292006 x292007 x292008 x292009 x292010 x292011))))) else (some false))) else (none)) else (some true)
end
def r18_inRange.f (k : Nat) (a0_0 : ByteArray) (a0_1 : Bool) (a0_2 : Int) (a0_3 : Int) (a0_4 : Int) (a0_5 : Int) (a0_6 : Int) (a0_7 : Int) (a0_8 : Int) (a0_9 : Bool) (a0_10 : Int) (l0_11 : List (S74)) : Option (Bool) := if a0_5 < 1 then (r18_inRange.j0 k true a0_0 a0_1 a0_2 a0_3 a0_4 a0_5 a0_6 a0_7 a0_8 a0_9 a0_10 l0_11) else (if a0_5 > 4 then (r18_inRange.j0 k true a0_0 a0_1 a0_2 a0_3 a0_4 a0_5 a0_6 a0_7 a0_8 a0_9 a0_10 l0_11) else (if a0_6 < 1 then (r18_inRange.j0 k true a0_0 a0_1 a0_2 a0_3 a0_4 a0_5 a0_6 a0_7 a0_8 a0_9 a0_10 l0_11) else (if a0_6 > 5 then (r18_inRange.j0 k true a0_0 a0_1 a0_2 a0_3 a0_4 a0_5 a0_6 a0_7 a0_8 a0_9 a0_10 l0_11) else (if a0_7 < 0 then (r18_inRange.j0 k true a0_0 a0_1 a0_2 a0_3 a0_4 a0_5 a0_6 a0_7 a0_8 a0_9 a0_10 l0_11) else (if a0_7 > 64 then (r18_inRange.j0 k true a0_0 a0_1 a0_2 a0_3 a0_4 a0_5 a0_6 a0_7 a0_8 a0_9 a0_10 l0_11) else (if a0_8 < 1 then (r18_inRange.j0 k true a0_0 a0_1 a0_2 a0_3 a0_4 a0_5 a0_6 a0_7 a0_8 a0_9 a0_10 l0_11) else (if a0_8 > 8192 then (r18_inRange.j0 k true a0_0 a0_1 a0_2 a0_3 a0_4 a0_5 a0_6 a0_7 a0_8 a0_9 a0_10 l0_11) else (if a0_10 < 0 then (r18_inRange.j0 k true a0_0 a0_1 a0_2 a0_3 a0_4 a0_5 a0_6 a0_7 a0_8 a0_9 a0_10 l0_11) else (r18_inRange.j0 k (decide (a0_10 > 3)) a0_0 a0_1 a0_2 a0_3 a0_4 a0_5 a0_6 a0_7 a0_8 a0_9 a0_10 l0_11)))))))))
theorem r18_inRange.mono_l : ∀ k, (∀ y0 y1 y2 y3 y4 y5 y6 y7 y8 y9 y10 y11 y12, LeO (r18_inRange.j0 k y0 y1 y2 y3 y4 y5 y6 y7 y8 y9 y10 y11 y12) (r18_inRange.j0 (k + 1) y0 y1 y2 y3 y4 y5 y6 y7 y8 y9 y10 y11 y12)) ∧ (∀ y0 y1 y2 y3 y4 y5 y6 y7 y8 y9 y10 y11 y12, LeO (r18_inRange.l0 k y0 y1 y2 y3 y4 y5 y6 y7 y8 y9 y10 y11 y12) (r18_inRange.l0 (k + 1) y0 y1 y2 y3 y4 y5 y6 y7 y8 y9 y10 y11 y12))
  | 0 => ⟨fun _ _ _ _ _ _ _ _ _ _ _ _ _ r h => by simp [r18_inRange.j0] at h, fun _ _ _ _ _ _ _ _ _ _ _ _ _ r h => by simp [r18_inRange.l0] at h⟩
  | k + 1 => by
    obtain ⟨ih0, ih1⟩ := r18_inRange.mono_l k
    refine ⟨?_, ?_⟩
    · intro y0 y1 y2 y3 y4 y5 y6 y7 y8 y9 y10 y11 y12
      unfold r18_inRange.j0
      repeat' first
      | (with_reducible exact ih0 _ _ _ _ _ _ _ _ _ _ _ _ _)
      | (with_reducible exact ih1 _ _ _ _ _ _ _ _ _ _ _ _ _)
      | (with_reducible exact LeO.refl _)
      | (with_reducible exact LeO.none _)
      | (with_reducible refine LeO.ite ?_ ?_)
      | (with_reducible refine LeO.bind ?_ (fun _ => ?_))
    · intro y0 y1 y2 y3 y4 y5 y6 y7 y8 y9 y10 y11 y12
      unfold r18_inRange.l0
      repeat' first
      | (with_reducible exact ih0 _ _ _ _ _ _ _ _ _ _ _ _ _)
      | (with_reducible exact ih1 _ _ _ _ _ _ _ _ _ _ _ _ _)
      | (with_reducible exact LeO.refl _)
      | (with_reducible exact LeO.none _)
      | (with_reducible refine LeO.ite ?_ ?_)
      | (with_reducible refine LeO.bind ?_ (fun _ => ?_))
theorem r18_inRange.mono : ∀ a0 a1 a2 a3 a4 a5 a6 a7 a8 a9 a10 a11 k, LeO (r18_inRange.f k a0 a1 a2 a3 a4 a5 a6 a7 a8 a9 a10 a11) (r18_inRange.f (k + 1) a0 a1 a2 a3 a4 a5 a6 a7 a8 a9 a10 a11) := by
  intro a0 a1 a2 a3 a4 a5 a6 a7 a8 a9 a10 a11 k
  obtain ⟨ih0, ih1⟩ := r18_inRange.mono_l k
  unfold r18_inRange.f
  repeat' first
      | (with_reducible exact ih0 _ _ _ _ _ _ _ _ _ _ _ _ _)
      | (with_reducible exact ih1 _ _ _ _ _ _ _ _ _ _ _ _ _)
      | (with_reducible exact LeO.refl _)
      | (with_reducible exact LeO.none _)
      | (with_reducible refine LeO.ite ?_ ?_)
      | (with_reducible refine LeO.bind ?_ (fun _ => ?_))
theorem r18_inRange.calls (k : Nat) (a0_0 : ByteArray) (a0_1 : Bool) (a0_2 : Int) (a0_3 : Int) (a0_4 : Int) (a0_5 : Int) (a0_6 : Int) (a0_7 : Int) (a0_8 : Int) (a0_9 : Bool) (a0_10 : Int) (A0_11 : Option Addr) (c0_11 : Nat) (l0_11 : List (S74)) (r : Bool) (w : World) (hr0_11 : Kd.C k74 w A0_11 l0_11.length l0_11) (hc0_11 : l0_11.length ≤ c0_11) (h : r18_inRange.f k a0_0 a0_1 a0_2 a0_3 a0_4 a0_5 a0_6 a0_7 a0_8 a0_9 a0_10 l0_11 = some r) :
 Calls Tryz.prog 35 #[.agg #[.string a0_0, .bool a0_1, .int .u64 a0_2, .int .u64 a0_3, .int .i64 a0_4, .int .i64 a0_5, .int .i64 a0_6, .int .i64 a0_7, .int .i64 a0_8, .bool a0_9, .int .i64 a0_10, .slice A0_11 l0_11.length c0_11]] w fun e w' => e = .returned (.bool r) ∧ Below w.heap.size w w' := by
 have hu36 := Tryz.underlying36
 have hu74 := Tryz.underlying74
 have HR0_11 := Aside0.mk hr0_11; have HC0_11 := Aside0.mk hc0_11; clear hr0_11 hc0_11; have HB := Aside0.mk (Below.refl w.heap.size w)
 unfold r18_inRange.f at h; have H := h
 clear h; have HC2 := Aside0.mk H; clear H
 go_enter Tryz.func35, Tryz.ntmps35
 go_upto_region 1 with (first | ((with_reducible refine gate_dst (N := 1) rfl ?_); refine zx 1 #[.string a0_0, .bool a0_1, .int .u64 a0_2, .int .u64 a0_3, .int .i64 a0_4, .int .i64 a0_5, .int .i64 a0_6, .int .i64 a0_7, .int .i64 a0_8, .bool a0_9, .int .i64 a0_10, .slice A0_11 l0_11.length c0_11] 36 ?_; intro gb291 hg w3 hbox hb; have BK291 := Aside0.mk (hbox); have GW291 := zG HB hg; have GE291 := zG HB hg; replace HB := Aside0.mk (below_step (zB HB) hb); clear hb hbox hg))
 (try simp only [Act.put, List.setIfInBounds_toArray, List.set_cons_zero, List.set_cons_succ])
 go_cut [52] (fun v52 wc => ∃ (kq : Nat) (x52_1 : Bool), v52 = .bool x52_1 ∧ Aside0 (r18_inRange.j0 kq x52_1 a0_0 a0_1 a0_2 a0_3 a0_4 a0_5 a0_6 a0_7 a0_8 a0_9 a0_10 l0_11 = some r) ∧ Aside0 (kq ≤ k) ∧ Aside0 (wc.heap[gb291]? = some (.cells #[.string a0_0, .bool a0_1, .int .u64 a0_2, .int .u64 a0_3, .int .i64 a0_4, .int .i64 a0_5, .int .i64 a0_6, .int .i64 a0_7, .int .i64 a0_8, .bool a0_9, .int .i64 a0_10, (.slice A0_11 l0_11.length c0_11)] 36 (0, 0))) ∧ Aside0 (Below w.heap.size w wc))
 case first =>
  have H := HC2.out
  clear HC2
  by_cases c4 : a0_5 < 1
  · rw [if_pos c4] at H
    have c4b0 : decide (a0_5 < 1) = true := decide_eq_true c4; clear c4
    (first | rw [c4b0] | (simp only [i64_w, i32_w]; rw [c4b0]) | skip)
    have H' := Aside0.mk H
    clear H; obtain ⟨hcz5_0, hcz5_1, hcz5_2, hcz5_3, hcz5_4, hcz5_5, hcz5_6, hcz5_7, hcz5_8, hcz5_9, hcz5_10, hcz5_11⟩ := zc12 BK291; obtain ⟨hfz5_0, hfz5_1, hfz5_2, hfz5_3, hfz5_4, hfz5_5, hfz5_6, hfz5_7, hfz5_8, hfz5_9, hfz5_10, hfz5_11⟩ := zf12 BK291
    go_wp2
    go_meet
    case rel => exact ⟨_, (true), zI, H', ⟨by first | omega | exact Nat.le_refl _⟩, ⟨zK BK291⟩, ⟨zB HB⟩⟩
  rw [if_neg c4] at H
  have c4b0 : decide (a0_5 < 1) = false := decide_eq_false c4; clear c4
  (first | rw [c4b0] | (simp only [i64_w, i32_w]; rw [c4b0]) | skip)
  by_cases c6 : a0_5 > 4
  · rw [if_pos c6] at H
    have c6b0 : decide (4 < a0_5) = true := decide_eq_true c6; clear c6
    have H' := Aside0.mk H
    clear H; obtain ⟨hcz7_0, hcz7_1, hcz7_2, hcz7_3, hcz7_4, hcz7_5, hcz7_6, hcz7_7, hcz7_8, hcz7_9, hcz7_10, hcz7_11⟩ := zc12 BK291; obtain ⟨hfz7_0, hfz7_1, hfz7_2, hfz7_3, hfz7_4, hfz7_5, hfz7_6, hfz7_7, hfz7_8, hfz7_9, hfz7_10, hfz7_11⟩ := zf12 BK291
    go_wp2
    go_meet
    case rel => exact ⟨_, (true), zI, H', ⟨by first | omega | exact Nat.le_refl _⟩, ⟨zK BK291⟩, ⟨zB HB⟩⟩
  rw [if_neg c6] at H
  have c6b0 : decide (4 < a0_5) = false := decide_eq_false c6; clear c6
  by_cases c8 : a0_6 < 1
  · rw [if_pos c8] at H
    have c8b0 : decide (a0_6 < 1) = true := decide_eq_true c8; clear c8
    have H' := Aside0.mk H
    clear H; obtain ⟨hcz9_0, hcz9_1, hcz9_2, hcz9_3, hcz9_4, hcz9_5, hcz9_6, hcz9_7, hcz9_8, hcz9_9, hcz9_10, hcz9_11⟩ := zc12 BK291; obtain ⟨hfz9_0, hfz9_1, hfz9_2, hfz9_3, hfz9_4, hfz9_5, hfz9_6, hfz9_7, hfz9_8, hfz9_9, hfz9_10, hfz9_11⟩ := zf12 BK291
    go_wp2
    go_meet
    case rel => exact ⟨_, (true), zI, H', ⟨by first | omega | exact Nat.le_refl _⟩, ⟨zK BK291⟩, ⟨zB HB⟩⟩
  rw [if_neg c8] at H
  have c8b0 : decide (a0_6 < 1) = false := decide_eq_false c8; clear c8
  by_cases c10 : a0_6 > 5
  · rw [if_pos c10] at H
    have c10b0 : decide (5 < a0_6) = true := decide_eq_true c10; clear c10
    have H' := Aside0.mk H
    clear H; obtain ⟨hcz11_0, hcz11_1, hcz11_2, hcz11_3, hcz11_4, hcz11_5, hcz11_6, hcz11_7, hcz11_8, hcz11_9, hcz11_10, hcz11_11⟩ := zc12 BK291; obtain ⟨hfz11_0, hfz11_1, hfz11_2, hfz11_3, hfz11_4, hfz11_5, hfz11_6, hfz11_7, hfz11_8, hfz11_9, hfz11_10, hfz11_11⟩ := zf12 BK291
    go_wp2
    go_meet
    case rel => exact ⟨_, (true), zI, H', ⟨by first | omega | exact Nat.le_refl _⟩, ⟨zK BK291⟩, ⟨zB HB⟩⟩
  rw [if_neg c10] at H
  have c10b0 : decide (5 < a0_6) = false := decide_eq_false c10; clear c10
  by_cases c12 : a0_7 < 0
  · rw [if_pos c12] at H
    have c12b0 : decide (a0_7 < 0) = true := decide_eq_true c12; clear c12
    have H' := Aside0.mk H
    clear H; obtain ⟨hcz13_0, hcz13_1, hcz13_2, hcz13_3, hcz13_4, hcz13_5, hcz13_6, hcz13_7, hcz13_8, hcz13_9, hcz13_10, hcz13_11⟩ := zc12 BK291; obtain ⟨hfz13_0, hfz13_1, hfz13_2, hfz13_3, hfz13_4, hfz13_5, hfz13_6, hfz13_7, hfz13_8, hfz13_9, hfz13_10, hfz13_11⟩ := zf12 BK291
    go_wp2
    go_meet
    case rel => exact ⟨_, (true), zI, H', ⟨by first | omega | exact Nat.le_refl _⟩, ⟨zK BK291⟩, ⟨zB HB⟩⟩
  rw [if_neg c12] at H
  have c12b0 : decide (a0_7 < 0) = false := decide_eq_false c12; clear c12
  by_cases c14 : a0_7 > 64
  · rw [if_pos c14] at H
    have c14b0 : decide (64 < a0_7) = true := decide_eq_true c14; clear c14
    have H' := Aside0.mk H
    clear H; obtain ⟨hcz15_0, hcz15_1, hcz15_2, hcz15_3, hcz15_4, hcz15_5, hcz15_6, hcz15_7, hcz15_8, hcz15_9, hcz15_10, hcz15_11⟩ := zc12 BK291; obtain ⟨hfz15_0, hfz15_1, hfz15_2, hfz15_3, hfz15_4, hfz15_5, hfz15_6, hfz15_7, hfz15_8, hfz15_9, hfz15_10, hfz15_11⟩ := zf12 BK291
    go_wp2
    go_meet
    case rel => exact ⟨_, (true), zI, H', ⟨by first | omega | exact Nat.le_refl _⟩, ⟨zK BK291⟩, ⟨zB HB⟩⟩
  rw [if_neg c14] at H
  have c14b0 : decide (64 < a0_7) = false := decide_eq_false c14; clear c14
  by_cases c16 : a0_8 < 1
  · rw [if_pos c16] at H
    have c16b0 : decide (a0_8 < 1) = true := decide_eq_true c16; clear c16
    have H' := Aside0.mk H
    clear H; obtain ⟨hcz17_0, hcz17_1, hcz17_2, hcz17_3, hcz17_4, hcz17_5, hcz17_6, hcz17_7, hcz17_8, hcz17_9, hcz17_10, hcz17_11⟩ := zc12 BK291; obtain ⟨hfz17_0, hfz17_1, hfz17_2, hfz17_3, hfz17_4, hfz17_5, hfz17_6, hfz17_7, hfz17_8, hfz17_9, hfz17_10, hfz17_11⟩ := zf12 BK291
    go_wp2
    go_meet
    case rel => exact ⟨_, (true), zI, H', ⟨by first | omega | exact Nat.le_refl _⟩, ⟨zK BK291⟩, ⟨zB HB⟩⟩
  rw [if_neg c16] at H
  have c16b0 : decide (a0_8 < 1) = false := decide_eq_false c16; clear c16
  by_cases c18 : a0_8 > 8192
  · rw [if_pos c18] at H
    have c18b0 : decide (8192 < a0_8) = true := decide_eq_true c18; clear c18
    have H' := Aside0.mk H
    clear H; obtain ⟨hcz19_0, hcz19_1, hcz19_2, hcz19_3, hcz19_4, hcz19_5, hcz19_6, hcz19_7, hcz19_8, hcz19_9, hcz19_10, hcz19_11⟩ := zc12 BK291; obtain ⟨hfz19_0, hfz19_1, hfz19_2, hfz19_3, hfz19_4, hfz19_5, hfz19_6, hfz19_7, hfz19_8, hfz19_9, hfz19_10, hfz19_11⟩ := zf12 BK291
    go_wp2
    go_meet
    case rel => exact ⟨_, (true), zI, H', ⟨by first | omega | exact Nat.le_refl _⟩, ⟨zK BK291⟩, ⟨zB HB⟩⟩
  rw [if_neg c18] at H
  have c18b0 : decide (8192 < a0_8) = false := decide_eq_false c18; clear c18
  by_cases c20 : a0_10 < 0
  · rw [if_pos c20] at H
    have c20b0 : decide (a0_10 < 0) = true := decide_eq_true c20; clear c20
    have H' := Aside0.mk H
    clear H; obtain ⟨hcz21_0, hcz21_1, hcz21_2, hcz21_3, hcz21_4, hcz21_5, hcz21_6, hcz21_7, hcz21_8, hcz21_9, hcz21_10, hcz21_11⟩ := zc12 BK291; obtain ⟨hfz21_0, hfz21_1, hfz21_2, hfz21_3, hfz21_4, hfz21_5, hfz21_6, hfz21_7, hfz21_8, hfz21_9, hfz21_10, hfz21_11⟩ := zf12 BK291
    go_wp2
    go_meet
    case rel => exact ⟨_, (true), zI, H', ⟨by first | omega | exact Nat.le_refl _⟩, ⟨zK BK291⟩, ⟨zB HB⟩⟩
  rw [if_neg c20] at H
  have c20b0 : decide (a0_10 < 0) = false := decide_eq_false c20; clear c20
  have H' := Aside0.mk H
  clear H; obtain ⟨hcz22_0, hcz22_1, hcz22_2, hcz22_3, hcz22_4, hcz22_5, hcz22_6, hcz22_7, hcz22_8, hcz22_9, hcz22_10, hcz22_11⟩ := zc12 BK291; obtain ⟨hfz22_0, hfz22_1, hfz22_2, hfz22_3, hfz22_4, hfz22_5, hfz22_6, hfz22_7, hfz22_8, hfz22_9, hfz22_10, hfz22_11⟩ := zf12 BK291
  go_wp2
  go_meet
  case rel => exact ⟨_, (decide (a0_10 > 3)), zI, H', ⟨by first | omega | exact Nat.le_refl _⟩, ⟨zK BK291⟩, ⟨zB HB⟩⟩
 case rest =>
  clear HC2
  obtain ⟨kq, x52_1, rfl, HA, HJ1, BK291, HB⟩ := hcut
  rcases kq with _ | kj1
  · exact absurd HA.out (by simp [r18_inRange.j0])
  have H := HA.out
  clear HA
  simp only [r18_inRange.j0] at H
  by_cases c23 : x52_1 = true
  · subst c23
    rw [if_pos rfl] at H
    obtain rfl := Option.some.inj H
    go_wp2
    go_ret
    exact ⟨zr, zB HB⟩
  replace c23 := Bool.eq_false_iff.mpr c23
  subst c23; rw [if_neg zF] at H
  have H' := Aside0.mk H
  clear H
  go_wp2
  go_loopg [3] kj1 (fun kq v3 w' => ∃ (x3_2 : Int), v3 = .int .i64 x3_2 ∧ Aside0 (r18_inRange.l0 kq x3_2 a0_0 a0_1 a0_2 a0_3 a0_4 a0_5 a0_6 a0_7 a0_8 a0_9 a0_10 l0_11 = some r) ∧ Aside0 (kq ≤ kj1) ∧ Aside0 (w'.heap[gb291]? = some (.cells #[.string a0_0, .bool a0_1, .int .u64 a0_2, .int .u64 a0_3, .int .i64 a0_4, .int .i64 a0_5, .int .i64 a0_6, .int .i64 a0_7, .int .i64 a0_8, .bool a0_9, .int .i64 a0_10, (.slice A0_11 l0_11.length c0_11)] 36 (0, 0))) ∧ Aside0 (Below w.heap.size w w'))
  case atStart => exact ⟨(0), zI, H', ⟨Nat.le_refl _⟩, ⟨zK BK291⟩, ⟨zB HB⟩⟩
  case round =>
   clear H'
   try clear c23
   obtain ⟨x3_2, rfl, HA, HK2, BK291, HB⟩ := hrel
   rcases gk with _ | k2
   · exact absurd HA.out (by simp [r18_inRange.l0])
   have H := HA.out
   clear HA
   simp only [r18_inRange.l0] at H
   by_cases c24 : x3_2 < (l0_11.length : Int)
   rotate_left
   · rw [if_neg c24] at H
     have c24b0 : decide (x3_2 < (l0_11.length : Int)) = false := decide_eq_false c24; clear c24
     obtain rfl := Option.some.inj H
     obtain ⟨hcz80_0, hcz80_1, hcz80_2, hcz80_3, hcz80_4, hcz80_5, hcz80_6, hcz80_7, hcz80_8, hcz80_9, hcz80_10, hcz80_11⟩ := zc12 BK291; obtain ⟨hfz80_0, hfz80_1, hfz80_2, hfz80_3, hfz80_4, hfz80_5, hfz80_6, hfz80_7, hfz80_8, hfz80_9, hfz80_10, hfz80_11⟩ := zf12 BK291
     go_wp2
     go_ret
     exact ⟨zr, zB HB⟩
   rw [if_pos c24] at H
   have c24b0 : decide (x3_2 < (l0_11.length : Int)) = true := decide_eq_true c24; clear c24
   by_cases c25 : 0 ≤ x3_2
   rotate_left
   · rw [if_neg c25] at H
     exact absurd H (by simp)
   rw [if_pos c25] at H
   have c25b0 : decide (0 ≤ x3_2) = true := decide_eq_true c25; clear c25
   by_cases c26 : ((rd_T74 l0_11 x3_2).f0) = 6
   · rw [if_pos c26] at H
     have c26b0 : (((rd_T74 l0_11 x3_2).f0) == 6) = true := beq_iff_eq.mpr c26; have c26b1 : (((rd_T74 l0_11 x3_2).f0) != 6) = false := bne_eq_false_iff_eq.mpr c26; clear c26
     by_cases c27 : ((rd_T74 l0_11 x3_2).f1) < 0
     · rw [if_pos c27] at H
       have c27b0 : decide (((rd_T74 l0_11 x3_2).f1) < 0) = true := decide_eq_true c27; clear c27
       obtain rfl := Option.some.inj H
       obtain ⟨hcz28_0, hcz28_1, hcz28_2, hcz28_3, hcz28_4, hcz28_5, hcz28_6, hcz28_7, hcz28_8, hcz28_9, hcz28_10, hcz28_11⟩ := zc12 BK291; obtain ⟨hfz28_0, hfz28_1, hfz28_2, hfz28_3, hfz28_4, hfz28_5, hfz28_6, hfz28_7, hfz28_8, hfz28_9, hfz28_10, hfz28_11⟩ := zf12 BK291
       have p292 : 0 ≤ (x3_2 : Int) := za
       have q292 : x3_2 < (l0_11.length : Int) := za
       obtain ⟨ad292, e292, hx292_0, hx292_1, hx292_2⟩ := at_T74 HR0_11.out x3_2 p292 q292
       cases e292
       replace hx292_0 := zh HB hx292_0; replace hx292_1 := zh HB hx292_1; replace hx292_2 := zh HB hx292_2
       replace p292 := eq_true p292
       replace q292 := eq_true q292
       go_wp2_with (first | ((with_reducible refine gate_dst (N := 4) rfl ?_); refine zx 4 #[.int .i64 0, .int .i64 0, .int .i64 0] 74 ?_; intro gb293 hg w29 hbox hb; have BK293 := Aside0.mk (hbox); have GW293 := zG HB hg; have GE293 := zG HB hg; replace HB := Aside0.mk (below_step (zB HB) hb); have NB291_293 := Aside0.mk ((by rw [hg]; exact Nat.ne_of_lt (blk_lt (g := gb291) (o := .cells #[.string a0_0, .bool a0_1, .int .u64 a0_2, .int .u64 a0_3, .int .i64 a0_4, .int .i64 a0_5, .int .i64 a0_6, .int .i64 a0_7, .int .i64 a0_8, .bool a0_9, .int .i64 a0_10, .slice (some ad292) l0_11.length c0_11] 36 (0, 0)) (zK BK291)) : gb291 ≠ gb293)); have NB293_291 := Aside0.mk ((by rw [hg]; exact Nat.ne_of_gt (blk_lt (g := gb291) (o := .cells #[.string a0_0, .bool a0_1, .int .u64 a0_2, .int .u64 a0_3, .int .i64 a0_4, .int .i64 a0_5, .int .i64 a0_6, .int .i64 a0_7, .int .i64 a0_8, .bool a0_9, .int .i64 a0_10, .slice (some ad292) l0_11.length c0_11] 36 (0, 0)) (zK BK291)) : gb293 ≠ gb291)); replace BK291 := zkb BK291 hb; clear hb hbox hg; have hnb30 := NB293_291.out; have hnc30 := NB291_293.out; obtain ⟨hcz31_0, hcz31_1, hcz31_2⟩ := zc3 BK293; obtain ⟨hfz31_0, hfz31_1, hfz31_2⟩ := zf3 BK293))
       go_ret
       exact ⟨zr, zB HB⟩
     rw [if_neg c27] at H
     have c27b0 : decide (((rd_T74 l0_11 x3_2).f1) < 0) = false := decide_eq_false c27; clear c27
     by_cases c32 : ((rd_T74 l0_11 x3_2).f1) > 65535
     · rw [if_pos c32] at H
       have c32b0 : decide (65535 < ((rd_T74 l0_11 x3_2).f1)) = true := decide_eq_true c32; clear c32
       obtain rfl := Option.some.inj H
       obtain ⟨hcz33_0, hcz33_1, hcz33_2, hcz33_3, hcz33_4, hcz33_5, hcz33_6, hcz33_7, hcz33_8, hcz33_9, hcz33_10, hcz33_11⟩ := zc12 BK291; obtain ⟨hfz33_0, hfz33_1, hfz33_2, hfz33_3, hfz33_4, hfz33_5, hfz33_6, hfz33_7, hfz33_8, hfz33_9, hfz33_10, hfz33_11⟩ := zf12 BK291
       have p292 : 0 ≤ (x3_2 : Int) := za
       have q292 : x3_2 < (l0_11.length : Int) := za
       obtain ⟨ad292, e292, hx292_0, hx292_1, hx292_2⟩ := at_T74 HR0_11.out x3_2 p292 q292
       cases e292
       replace hx292_0 := zh HB hx292_0; replace hx292_1 := zh HB hx292_1; replace hx292_2 := zh HB hx292_2
       replace p292 := eq_true p292
       replace q292 := eq_true q292
       go_wp2_with (first | ((with_reducible refine gate_dst (N := 4) rfl ?_); refine zx 4 #[.int .i64 0, .int .i64 0, .int .i64 0] 74 ?_; intro gb293 hg w34 hbox hb; have BK293 := Aside0.mk (hbox); have GW293 := zG HB hg; have GE293 := zG HB hg; replace HB := Aside0.mk (below_step (zB HB) hb); have NB291_293 := Aside0.mk ((by rw [hg]; exact Nat.ne_of_lt (blk_lt (g := gb291) (o := .cells #[.string a0_0, .bool a0_1, .int .u64 a0_2, .int .u64 a0_3, .int .i64 a0_4, .int .i64 a0_5, .int .i64 a0_6, .int .i64 a0_7, .int .i64 a0_8, .bool a0_9, .int .i64 a0_10, .slice (some ad292) l0_11.length c0_11] 36 (0, 0)) (zK BK291)) : gb291 ≠ gb293)); have NB293_291 := Aside0.mk ((by rw [hg]; exact Nat.ne_of_gt (blk_lt (g := gb291) (o := .cells #[.string a0_0, .bool a0_1, .int .u64 a0_2, .int .u64 a0_3, .int .i64 a0_4, .int .i64 a0_5, .int .i64 a0_6, .int .i64 a0_7, .int .i64 a0_8, .bool a0_9, .int .i64 a0_10, .slice (some ad292) l0_11.length c0_11] 36 (0, 0)) (zK BK291)) : gb293 ≠ gb291)); replace BK291 := zkb BK291 hb; clear hb hbox hg; have hnb35 := NB293_291.out; have hnc35 := NB291_293.out; obtain ⟨hcz36_0, hcz36_1, hcz36_2⟩ := zc3 BK293; obtain ⟨hfz36_0, hfz36_1, hfz36_2⟩ := zf3 BK293))
       go_ret
       exact ⟨zr, zB HB⟩
     rw [if_neg c32] at H
     have c32b0 : decide (65535 < ((rd_T74 l0_11 x3_2).f1)) = false := decide_eq_false c32; clear c32
     by_cases c37 : ((rd_T74 l0_11 x3_2).f2) < 0
     · rw [if_pos c37] at H
       have c37b0 : decide (((rd_T74 l0_11 x3_2).f2) < 0) = true := decide_eq_true c37; clear c37
       obtain rfl := Option.some.inj H
       obtain ⟨hcz38_0, hcz38_1, hcz38_2, hcz38_3, hcz38_4, hcz38_5, hcz38_6, hcz38_7, hcz38_8, hcz38_9, hcz38_10, hcz38_11⟩ := zc12 BK291; obtain ⟨hfz38_0, hfz38_1, hfz38_2, hfz38_3, hfz38_4, hfz38_5, hfz38_6, hfz38_7, hfz38_8, hfz38_9, hfz38_10, hfz38_11⟩ := zf12 BK291
       have p292 : 0 ≤ (x3_2 : Int) := za
       have q292 : x3_2 < (l0_11.length : Int) := za
       obtain ⟨ad292, e292, hx292_0, hx292_1, hx292_2⟩ := at_T74 HR0_11.out x3_2 p292 q292
       cases e292
       replace hx292_0 := zh HB hx292_0; replace hx292_1 := zh HB hx292_1; replace hx292_2 := zh HB hx292_2
       replace p292 := eq_true p292
       replace q292 := eq_true q292
       go_wp2_with (first | ((with_reducible refine gate_dst (N := 4) rfl ?_); refine zx 4 #[.int .i64 0, .int .i64 0, .int .i64 0] 74 ?_; intro gb293 hg w39 hbox hb; have BK293 := Aside0.mk (hbox); have GW293 := zG HB hg; have GE293 := zG HB hg; replace HB := Aside0.mk (below_step (zB HB) hb); have NB291_293 := Aside0.mk ((by rw [hg]; exact Nat.ne_of_lt (blk_lt (g := gb291) (o := .cells #[.string a0_0, .bool a0_1, .int .u64 a0_2, .int .u64 a0_3, .int .i64 a0_4, .int .i64 a0_5, .int .i64 a0_6, .int .i64 a0_7, .int .i64 a0_8, .bool a0_9, .int .i64 a0_10, .slice (some ad292) l0_11.length c0_11] 36 (0, 0)) (zK BK291)) : gb291 ≠ gb293)); have NB293_291 := Aside0.mk ((by rw [hg]; exact Nat.ne_of_gt (blk_lt (g := gb291) (o := .cells #[.string a0_0, .bool a0_1, .int .u64 a0_2, .int .u64 a0_3, .int .i64 a0_4, .int .i64 a0_5, .int .i64 a0_6, .int .i64 a0_7, .int .i64 a0_8, .bool a0_9, .int .i64 a0_10, .slice (some ad292) l0_11.length c0_11] 36 (0, 0)) (zK BK291)) : gb293 ≠ gb291)); replace BK291 := zkb BK291 hb; clear hb hbox hg; have hnb40 := NB293_291.out; have hnc40 := NB291_293.out; obtain ⟨hcz41_0, hcz41_1, hcz41_2⟩ := zc3 BK293; obtain ⟨hfz41_0, hfz41_1, hfz41_2⟩ := zf3 BK293))
       go_ret
       exact ⟨zr, zB HB⟩
     rw [if_neg c37] at H
     have c37b0 : decide (((rd_T74 l0_11 x3_2).f2) < 0) = false := decide_eq_false c37; clear c37
     by_cases c42 : ((rd_T74 l0_11 x3_2).f2) > 4
     · rw [if_pos c42] at H
       have c42b0 : decide (4 < ((rd_T74 l0_11 x3_2).f2)) = true := decide_eq_true c42; clear c42
       obtain rfl := Option.some.inj H
       obtain ⟨hcz43_0, hcz43_1, hcz43_2, hcz43_3, hcz43_4, hcz43_5, hcz43_6, hcz43_7, hcz43_8, hcz43_9, hcz43_10, hcz43_11⟩ := zc12 BK291; obtain ⟨hfz43_0, hfz43_1, hfz43_2, hfz43_3, hfz43_4, hfz43_5, hfz43_6, hfz43_7, hfz43_8, hfz43_9, hfz43_10, hfz43_11⟩ := zf12 BK291
       have p292 : 0 ≤ (x3_2 : Int) := za
       have q292 : x3_2 < (l0_11.length : Int) := za
       obtain ⟨ad292, e292, hx292_0, hx292_1, hx292_2⟩ := at_T74 HR0_11.out x3_2 p292 q292
       cases e292
       replace hx292_0 := zh HB hx292_0; replace hx292_1 := zh HB hx292_1; replace hx292_2 := zh HB hx292_2
       replace p292 := eq_true p292
       replace q292 := eq_true q292
       go_wp2_with (first | ((with_reducible refine gate_dst (N := 4) rfl ?_); refine zx 4 #[.int .i64 0, .int .i64 0, .int .i64 0] 74 ?_; intro gb293 hg w44 hbox hb; have BK293 := Aside0.mk (hbox); have GW293 := zG HB hg; have GE293 := zG HB hg; replace HB := Aside0.mk (below_step (zB HB) hb); have NB291_293 := Aside0.mk ((by rw [hg]; exact Nat.ne_of_lt (blk_lt (g := gb291) (o := .cells #[.string a0_0, .bool a0_1, .int .u64 a0_2, .int .u64 a0_3, .int .i64 a0_4, .int .i64 a0_5, .int .i64 a0_6, .int .i64 a0_7, .int .i64 a0_8, .bool a0_9, .int .i64 a0_10, .slice (some ad292) l0_11.length c0_11] 36 (0, 0)) (zK BK291)) : gb291 ≠ gb293)); have NB293_291 := Aside0.mk ((by rw [hg]; exact Nat.ne_of_gt (blk_lt (g := gb291) (o := .cells #[.string a0_0, .bool a0_1, .int .u64 a0_2, .int .u64 a0_3, .int .i64 a0_4, .int .i64 a0_5, .int .i64 a0_6, .int .i64 a0_7, .int .i64 a0_8, .bool a0_9, .int .i64 a0_10, .slice (some ad292) l0_11.length c0_11] 36 (0, 0)) (zK BK291)) : gb293 ≠ gb291)); replace BK291 := zkb BK291 hb; clear hb hbox hg; have hnb45 := NB293_291.out; have hnc45 := NB291_293.out; obtain ⟨hcz46_0, hcz46_1, hcz46_2⟩ := zc3 BK293; obtain ⟨hfz46_0, hfz46_1, hfz46_2⟩ := zf3 BK293))
       go_ret
       exact ⟨zr, zB HB⟩
     rw [if_neg c42] at H
     have c42b0 : decide (4 < ((rd_T74 l0_11 x3_2).f2)) = false := decide_eq_false c42; clear c42
     have H' := Aside0.mk H
     clear H; obtain ⟨hcz47_0, hcz47_1, hcz47_2, hcz47_3, hcz47_4, hcz47_5, hcz47_6, hcz47_7, hcz47_8, hcz47_9, hcz47_10, hcz47_11⟩ := zc12 BK291; obtain ⟨hfz47_0, hfz47_1, hfz47_2, hfz47_3, hfz47_4, hfz47_5, hfz47_6, hfz47_7, hfz47_8, hfz47_9, hfz47_10, hfz47_11⟩ := zf12 BK291
     have p292 : 0 ≤ (x3_2 : Int) := za
     have q292 : x3_2 < (l0_11.length : Int) := za
     obtain ⟨ad292, e292, hx292_0, hx292_1, hx292_2⟩ := at_T74 HR0_11.out x3_2 p292 q292
     cases e292
     replace hx292_0 := zh HB hx292_0; replace hx292_1 := zh HB hx292_1; replace hx292_2 := zh HB hx292_2
     replace p292 := eq_true p292
     replace q292 := eq_true q292
     go_wp2_with (first | ((with_reducible refine gate_dst (N := 4) rfl ?_); refine zx 4 #[.int .i64 0, .int .i64 0, .int .i64 0] 74 ?_; intro gb293 hg w48 hbox hb; have BK293 := Aside0.mk (hbox); have GW293 := zG HB hg; have GE293 := zG HB hg; replace HB := Aside0.mk (below_step (zB HB) hb); have NB291_293 := Aside0.mk ((by rw [hg]; exact Nat.ne_of_lt (blk_lt (g := gb291) (o := .cells #[.string a0_0, .bool a0_1, .int .u64 a0_2, .int .u64 a0_3, .int .i64 a0_4, .int .i64 a0_5, .int .i64 a0_6, .int .i64 a0_7, .int .i64 a0_8, .bool a0_9, .int .i64 a0_10, .slice (some ad292) l0_11.length c0_11] 36 (0, 0)) (zK BK291)) : gb291 ≠ gb293)); have NB293_291 := Aside0.mk ((by rw [hg]; exact Nat.ne_of_gt (blk_lt (g := gb291) (o := .cells #[.string a0_0, .bool a0_1, .int .u64 a0_2, .int .u64 a0_3, .int .i64 a0_4, .int .i64 a0_5, .int .i64 a0_6, .int .i64 a0_7, .int .i64 a0_8, .bool a0_9, .int .i64 a0_10, .slice (some ad292) l0_11.length c0_11] 36 (0, 0)) (zK BK291)) : gb293 ≠ gb291)); replace BK291 := zkb BK291 hb; clear hb hbox hg; have hnb49 := NB293_291.out; have hnc49 := NB291_293.out; obtain ⟨hcz50_0, hcz50_1, hcz50_2⟩ := zc3 BK293; obtain ⟨hfz50_0, hfz50_1, hfz50_2⟩ := zf3 BK293))
     go_roundg k2
     case measure => have := HJ1.out; have := HK2.out; omega
     case rel => exact ⟨(wrap64 (x3_2 + 1)), zI, H', ⟨by have := HJ1.out; have := HK2.out; omega⟩, ⟨by refine zL ?_; refine blk_far ?_ NB291_293.out _; refine zL ?_; refine blk_far ?_ NB291_293.out _; refine zL ?_; refine blk_far ?_ NB291_293.out _; refine zL ?_; exact BK291.out⟩, ⟨zB HB⟩⟩
   rw [if_neg c26] at H
   have c26b0 : (((rd_T74 l0_11 x3_2).f0) == 6) = false := beq_eq_false_iff_ne.mpr c26
   have c26b1 : (((rd_T74 l0_11 x3_2).f0) != 6) = true := bne_iff_ne.mpr c26
   by_cases c51 : ((rd_T74 l0_11 x3_2).f0) = 17
   rotate_left
   · rw [if_neg c51] at H
     have c51b0 : (((rd_T74 l0_11 x3_2).f0) == 17) = false := beq_eq_false_iff_ne.mpr c51
     have c51b1 : (((rd_T74 l0_11 x3_2).f0) != 17) = true := bne_iff_ne.mpr c51
     obtain rfl := Option.some.inj H
     obtain ⟨hcz76_0, hcz76_1, hcz76_2, hcz76_3, hcz76_4, hcz76_5, hcz76_6, hcz76_7, hcz76_8, hcz76_9, hcz76_10, hcz76_11⟩ := zc12 BK291; obtain ⟨hfz76_0, hfz76_1, hfz76_2, hfz76_3, hfz76_4, hfz76_5, hfz76_6, hfz76_7, hfz76_8, hfz76_9, hfz76_10, hfz76_11⟩ := zf12 BK291
     have p292 : 0 ≤ (x3_2 : Int) := za
     have q292 : x3_2 < (l0_11.length : Int) := za
     obtain ⟨ad292, e292, hx292_0, hx292_1, hx292_2⟩ := at_T74 HR0_11.out x3_2 p292 q292
     cases e292
     replace hx292_0 := zh HB hx292_0; replace hx292_1 := zh HB hx292_1; replace hx292_2 := zh HB hx292_2
     replace p292 := eq_true p292
     replace q292 := eq_true q292
     go_wp2_with (first | ((with_reducible refine gate_dst (N := 4) rfl ?_); refine zx 4 #[.int .i64 0, .int .i64 0, .int .i64 0] 74 ?_; intro gb293 hg w77 hbox hb; have BK293 := Aside0.mk (hbox); have GW293 := zG HB hg; have GE293 := zG HB hg; replace HB := Aside0.mk (below_step (zB HB) hb); have NB291_293 := Aside0.mk ((by rw [hg]; exact Nat.ne_of_lt (blk_lt (g := gb291) (o := .cells #[.string a0_0, .bool a0_1, .int .u64 a0_2, .int .u64 a0_3, .int .i64 a0_4, .int .i64 a0_5, .int .i64 a0_6, .int .i64 a0_7, .int .i64 a0_8, .bool a0_9, .int .i64 a0_10, .slice (some ad292) l0_11.length c0_11] 36 (0, 0)) (zK BK291)) : gb291 ≠ gb293)); have NB293_291 := Aside0.mk ((by rw [hg]; exact Nat.ne_of_gt (blk_lt (g := gb291) (o := .cells #[.string a0_0, .bool a0_1, .int .u64 a0_2, .int .u64 a0_3, .int .i64 a0_4, .int .i64 a0_5, .int .i64 a0_6, .int .i64 a0_7, .int .i64 a0_8, .bool a0_9, .int .i64 a0_10, .slice (some ad292) l0_11.length c0_11] 36 (0, 0)) (zK BK291)) : gb293 ≠ gb291)); replace BK291 := zkb BK291 hb; clear hb hbox hg; have hnb78 := NB293_291.out; have hnc78 := NB291_293.out; obtain ⟨hcz79_0, hcz79_1, hcz79_2⟩ := zc3 BK293; obtain ⟨hfz79_0, hfz79_1, hfz79_2⟩ := zf3 BK293))
     go_ret
     exact ⟨zr, zB HB⟩
   rw [if_pos c51] at H
   have c51b0 : (((rd_T74 l0_11 x3_2).f0) == 17) = true := beq_iff_eq.mpr c51; have c51b1 : (((rd_T74 l0_11 x3_2).f0) != 17) = false := bne_eq_false_iff_eq.mpr c51; clear c51
   by_cases c52 : ((rd_T74 l0_11 x3_2).f1) < 0
   · rw [if_pos c52] at H
     have c52b0 : decide (((rd_T74 l0_11 x3_2).f1) < 0) = true := decide_eq_true c52; clear c52
     obtain rfl := Option.some.inj H
     obtain ⟨hcz53_0, hcz53_1, hcz53_2, hcz53_3, hcz53_4, hcz53_5, hcz53_6, hcz53_7, hcz53_8, hcz53_9, hcz53_10, hcz53_11⟩ := zc12 BK291; obtain ⟨hfz53_0, hfz53_1, hfz53_2, hfz53_3, hfz53_4, hfz53_5, hfz53_6, hfz53_7, hfz53_8, hfz53_9, hfz53_10, hfz53_11⟩ := zf12 BK291
     have p292 : 0 ≤ (x3_2 : Int) := za
     have q292 : x3_2 < (l0_11.length : Int) := za
     obtain ⟨ad292, e292, hx292_0, hx292_1, hx292_2⟩ := at_T74 HR0_11.out x3_2 p292 q292
     cases e292
     replace hx292_0 := zh HB hx292_0; replace hx292_1 := zh HB hx292_1; replace hx292_2 := zh HB hx292_2
     replace p292 := eq_true p292
     replace q292 := eq_true q292
     go_wp2_with (first | ((with_reducible refine gate_dst (N := 4) rfl ?_); refine zx 4 #[.int .i64 0, .int .i64 0, .int .i64 0] 74 ?_; intro gb293 hg w54 hbox hb; have BK293 := Aside0.mk (hbox); have GW293 := zG HB hg; have GE293 := zG HB hg; replace HB := Aside0.mk (below_step (zB HB) hb); have NB291_293 := Aside0.mk ((by rw [hg]; exact Nat.ne_of_lt (blk_lt (g := gb291) (o := .cells #[.string a0_0, .bool a0_1, .int .u64 a0_2, .int .u64 a0_3, .int .i64 a0_4, .int .i64 a0_5, .int .i64 a0_6, .int .i64 a0_7, .int .i64 a0_8, .bool a0_9, .int .i64 a0_10, .slice (some ad292) l0_11.length c0_11] 36 (0, 0)) (zK BK291)) : gb291 ≠ gb293)); have NB293_291 := Aside0.mk ((by rw [hg]; exact Nat.ne_of_gt (blk_lt (g := gb291) (o := .cells #[.string a0_0, .bool a0_1, .int .u64 a0_2, .int .u64 a0_3, .int .i64 a0_4, .int .i64 a0_5, .int .i64 a0_6, .int .i64 a0_7, .int .i64 a0_8, .bool a0_9, .int .i64 a0_10, .slice (some ad292) l0_11.length c0_11] 36 (0, 0)) (zK BK291)) : gb293 ≠ gb291)); replace BK291 := zkb BK291 hb; clear hb hbox hg; have hnb55 := NB293_291.out; have hnc55 := NB291_293.out; obtain ⟨hcz56_0, hcz56_1, hcz56_2⟩ := zc3 BK293; obtain ⟨hfz56_0, hfz56_1, hfz56_2⟩ := zf3 BK293))
     go_ret
     exact ⟨zr, zB HB⟩
   rw [if_neg c52] at H
   have c52b0 : decide (((rd_T74 l0_11 x3_2).f1) < 0) = false := decide_eq_false c52; clear c52
   by_cases c57 : ((rd_T74 l0_11 x3_2).f1) > 65535
   · rw [if_pos c57] at H
     have c57b0 : decide (65535 < ((rd_T74 l0_11 x3_2).f1)) = true := decide_eq_true c57; clear c57
     obtain rfl := Option.some.inj H
     obtain ⟨hcz58_0, hcz58_1, hcz58_2, hcz58_3, hcz58_4, hcz58_5, hcz58_6, hcz58_7, hcz58_8, hcz58_9, hcz58_10, hcz58_11⟩ := zc12 BK291; obtain ⟨hfz58_0, hfz58_1, hfz58_2, hfz58_3, hfz58_4, hfz58_5, hfz58_6, hfz58_7, hfz58_8, hfz58_9, hfz58_10, hfz58_11⟩ := zf12 BK291
     have p292 : 0 ≤ (x3_2 : Int) := za
     have q292 : x3_2 < (l0_11.length : Int) := za
     obtain ⟨ad292, e292, hx292_0, hx292_1, hx292_2⟩ := at_T74 HR0_11.out x3_2 p292 q292
     cases e292
     replace hx292_0 := zh HB hx292_0; replace hx292_1 := zh HB hx292_1; replace hx292_2 := zh HB hx292_2
     replace p292 := eq_true p292
     replace q292 := eq_true q292
     go_wp2_with (first | ((with_reducible refine gate_dst (N := 4) rfl ?_); refine zx 4 #[.int .i64 0, .int .i64 0, .int .i64 0] 74 ?_; intro gb293 hg w59 hbox hb; have BK293 := Aside0.mk (hbox); have GW293 := zG HB hg; have GE293 := zG HB hg; replace HB := Aside0.mk (below_step (zB HB) hb); have NB291_293 := Aside0.mk ((by rw [hg]; exact Nat.ne_of_lt (blk_lt (g := gb291) (o := .cells #[.string a0_0, .bool a0_1, .int .u64 a0_2, .int .u64 a0_3, .int .i64 a0_4, .int .i64 a0_5, .int .i64 a0_6, .int .i64 a0_7, .int .i64 a0_8, .bool a0_9, .int .i64 a0_10, .slice (some ad292) l0_11.length c0_11] 36 (0, 0)) (zK BK291)) : gb291 ≠ gb293)); have NB293_291 := Aside0.mk ((by rw [hg]; exact Nat.ne_of_gt (blk_lt (g := gb291) (o := .cells #[.string a0_0, .bool a0_1, .int .u64 a0_2, .int .u64 a0_3, .int .i64 a0_4, .int .i64 a0_5, .int .i64 a0_6, .int .i64 a0_7, .int .i64 a0_8, .bool a0_9, .int .i64 a0_10, .slice (some ad292) l0_11.length c0_11] 36 (0, 0)) (zK BK291)) : gb293 ≠ gb291)); replace BK291 := zkb BK291 hb; clear hb hbox hg; have hnb60 := NB293_291.out; have hnc60 := NB291_293.out; obtain ⟨hcz61_0, hcz61_1, hcz61_2⟩ := zc3 BK293; obtain ⟨hfz61_0, hfz61_1, hfz61_2⟩ := zf3 BK293))
     go_ret
     exact ⟨zr, zB HB⟩
   rw [if_neg c57] at H
   have c57b0 : decide (65535 < ((rd_T74 l0_11 x3_2).f1)) = false := decide_eq_false c57; clear c57
   by_cases c62 : ((rd_T74 l0_11 x3_2).f2) < 0
   · rw [if_pos c62] at H
     have c62b0 : decide (((rd_T74 l0_11 x3_2).f2) < 0) = true := decide_eq_true c62; clear c62
     obtain rfl := Option.some.inj H
     obtain ⟨hcz63_0, hcz63_1, hcz63_2, hcz63_3, hcz63_4, hcz63_5, hcz63_6, hcz63_7, hcz63_8, hcz63_9, hcz63_10, hcz63_11⟩ := zc12 BK291; obtain ⟨hfz63_0, hfz63_1, hfz63_2, hfz63_3, hfz63_4, hfz63_5, hfz63_6, hfz63_7, hfz63_8, hfz63_9, hfz63_10, hfz63_11⟩ := zf12 BK291
     have p292 : 0 ≤ (x3_2 : Int) := za
     have q292 : x3_2 < (l0_11.length : Int) := za
     obtain ⟨ad292, e292, hx292_0, hx292_1, hx292_2⟩ := at_T74 HR0_11.out x3_2 p292 q292
     cases e292
     replace hx292_0 := zh HB hx292_0; replace hx292_1 := zh HB hx292_1; replace hx292_2 := zh HB hx292_2
     replace p292 := eq_true p292
     replace q292 := eq_true q292
     go_wp2_with (first | ((with_reducible refine gate_dst (N := 4) rfl ?_); refine zx 4 #[.int .i64 0, .int .i64 0, .int .i64 0] 74 ?_; intro gb293 hg w64 hbox hb; have BK293 := Aside0.mk (hbox); have GW293 := zG HB hg; have GE293 := zG HB hg; replace HB := Aside0.mk (below_step (zB HB) hb); have NB291_293 := Aside0.mk ((by rw [hg]; exact Nat.ne_of_lt (blk_lt (g := gb291) (o := .cells #[.string a0_0, .bool a0_1, .int .u64 a0_2, .int .u64 a0_3, .int .i64 a0_4, .int .i64 a0_5, .int .i64 a0_6, .int .i64 a0_7, .int .i64 a0_8, .bool a0_9, .int .i64 a0_10, .slice (some ad292) l0_11.length c0_11] 36 (0, 0)) (zK BK291)) : gb291 ≠ gb293)); have NB293_291 := Aside0.mk ((by rw [hg]; exact Nat.ne_of_gt (blk_lt (g := gb291) (o := .cells #[.string a0_0, .bool a0_1, .int .u64 a0_2, .int .u64 a0_3, .int .i64 a0_4, .int .i64 a0_5, .int .i64 a0_6, .int .i64 a0_7, .int .i64 a0_8, .bool a0_9, .int .i64 a0_10, .slice (some ad292) l0_11.length c0_11] 36 (0, 0)) (zK BK291)) : gb293 ≠ gb291)); replace BK291 := zkb BK291 hb; clear hb hbox hg; have hnb65 := NB293_291.out; have hnc65 := NB291_293.out; obtain ⟨hcz66_0, hcz66_1, hcz66_2⟩ := zc3 BK293; obtain ⟨hfz66_0, hfz66_1, hfz66_2⟩ := zf3 BK293))
     go_ret
     exact ⟨zr, zB HB⟩
   rw [if_neg c62] at H
   have c62b0 : decide (((rd_T74 l0_11 x3_2).f2) < 0) = false := decide_eq_false c62; clear c62
   by_cases c67 : ((rd_T74 l0_11 x3_2).f2) > 4
   · rw [if_pos c67] at H
     have c67b0 : decide (4 < ((rd_T74 l0_11 x3_2).f2)) = true := decide_eq_true c67; clear c67
     obtain rfl := Option.some.inj H
     obtain ⟨hcz68_0, hcz68_1, hcz68_2, hcz68_3, hcz68_4, hcz68_5, hcz68_6, hcz68_7, hcz68_8, hcz68_9, hcz68_10, hcz68_11⟩ := zc12 BK291; obtain ⟨hfz68_0, hfz68_1, hfz68_2, hfz68_3, hfz68_4, hfz68_5, hfz68_6, hfz68_7, hfz68_8, hfz68_9, hfz68_10, hfz68_11⟩ := zf12 BK291
     have p292 : 0 ≤ (x3_2 : Int) := za
     have q292 : x3_2 < (l0_11.length : Int) := za
     obtain ⟨ad292, e292, hx292_0, hx292_1, hx292_2⟩ := at_T74 HR0_11.out x3_2 p292 q292
     cases e292
     replace hx292_0 := zh HB hx292_0; replace hx292_1 := zh HB hx292_1; replace hx292_2 := zh HB hx292_2
     replace p292 := eq_true p292
     replace q292 := eq_true q292
     go_wp2_with (first | ((with_reducible refine gate_dst (N := 4) rfl ?_); refine zx 4 #[.int .i64 0, .int .i64 0, .int .i64 0] 74 ?_; intro gb293 hg w69 hbox hb; have BK293 := Aside0.mk (hbox); have GW293 := zG HB hg; have GE293 := zG HB hg; replace HB := Aside0.mk (below_step (zB HB) hb); have NB291_293 := Aside0.mk ((by rw [hg]; exact Nat.ne_of_lt (blk_lt (g := gb291) (o := .cells #[.string a0_0, .bool a0_1, .int .u64 a0_2, .int .u64 a0_3, .int .i64 a0_4, .int .i64 a0_5, .int .i64 a0_6, .int .i64 a0_7, .int .i64 a0_8, .bool a0_9, .int .i64 a0_10, .slice (some ad292) l0_11.length c0_11] 36 (0, 0)) (zK BK291)) : gb291 ≠ gb293)); have NB293_291 := Aside0.mk ((by rw [hg]; exact Nat.ne_of_gt (blk_lt (g := gb291) (o := .cells #[.string a0_0, .bool a0_1, .int .u64 a0_2, .int .u64 a0_3, .int .i64 a0_4, .int .i64 a0_5, .int .i64 a0_6, .int .i64 a0_7, .int .i64 a0_8, .bool a0_9, .int .i64 a0_10, .slice (some ad292) l0_11.length c0_11] 36 (0, 0)) (zK BK291)) : gb293 ≠ gb291)); replace BK291 := zkb BK291 hb; clear hb hbox hg; have hnb70 := NB293_291.out; have hnc70 := NB291_293.out; obtain ⟨hcz71_0, hcz71_1, hcz71_2⟩ := zc3 BK293; obtain ⟨hfz71_0, hfz71_1, hfz71_2⟩ := zf3 BK293))
     go_ret
     exact ⟨zr, zB HB⟩
   rw [if_neg c67] at H
   have c67b0 : decide (4 < ((rd_T74 l0_11 x3_2).f2)) = false := decide_eq_false c67; clear c67
   have H' := Aside0.mk H
   clear H; obtain ⟨hcz72_0, hcz72_1, hcz72_2, hcz72_3, hcz72_4, hcz72_5, hcz72_6, hcz72_7, hcz72_8, hcz72_9, hcz72_10, hcz72_11⟩ := zc12 BK291; obtain ⟨hfz72_0, hfz72_1, hfz72_2, hfz72_3, hfz72_4, hfz72_5, hfz72_6, hfz72_7, hfz72_8, hfz72_9, hfz72_10, hfz72_11⟩ := zf12 BK291
   have p292 : 0 ≤ (x3_2 : Int) := za
   have q292 : x3_2 < (l0_11.length : Int) := za
   obtain ⟨ad292, e292, hx292_0, hx292_1, hx292_2⟩ := at_T74 HR0_11.out x3_2 p292 q292
   cases e292
   replace hx292_0 := zh HB hx292_0; replace hx292_1 := zh HB hx292_1; replace hx292_2 := zh HB hx292_2
   replace p292 := eq_true p292
   replace q292 := eq_true q292
   go_wp2_with (first | ((with_reducible refine gate_dst (N := 4) rfl ?_); refine zx 4 #[.int .i64 0, .int .i64 0, .int .i64 0] 74 ?_; intro gb293 hg w73 hbox hb; have BK293 := Aside0.mk (hbox); have GW293 := zG HB hg; have GE293 := zG HB hg; replace HB := Aside0.mk (below_step (zB HB) hb); have NB291_293 := Aside0.mk ((by rw [hg]; exact Nat.ne_of_lt (blk_lt (g := gb291) (o := .cells #[.string a0_0, .bool a0_1, .int .u64 a0_2, .int .u64 a0_3, .int .i64 a0_4, .int .i64 a0_5, .int .i64 a0_6, .int .i64 a0_7, .int .i64 a0_8, .bool a0_9, .int .i64 a0_10, .slice (some ad292) l0_11.length c0_11] 36 (0, 0)) (zK BK291)) : gb291 ≠ gb293)); have NB293_291 := Aside0.mk ((by rw [hg]; exact Nat.ne_of_gt (blk_lt (g := gb291) (o := .cells #[.string a0_0, .bool a0_1, .int .u64 a0_2, .int .u64 a0_3, .int .i64 a0_4, .int .i64 a0_5, .int .i64 a0_6, .int .i64 a0_7, .int .i64 a0_8, .bool a0_9, .int .i64 a0_10, .slice (some ad292) l0_11.length c0_11] 36 (0, 0)) (zK BK291)) : gb293 ≠ gb291)); replace BK291 := zkb BK291 hb; clear hb hbox hg; have hnb74 := NB293_291.out; have hnc74 := NB291_293.out; obtain ⟨hcz75_0, hcz75_1, hcz75_2⟩ := zc3 BK293; obtain ⟨hfz75_0, hfz75_1, hfz75_2⟩ := zf3 BK293))
   go_roundg k2
   case measure => have := HJ1.out; have := HK2.out; omega
   case rel => exact ⟨(wrap64 (x3_2 + 1)), zI, H', ⟨by have := HJ1.out; have := HK2.out; omega⟩, ⟨by refine zL ?_; refine blk_far ?_ NB291_293.out _; refine zL ?_; refine blk_far ?_ NB291_293.out _; refine zL ?_; refine blk_far ?_ NB291_293.out _; refine zL ?_; exact BK291.out⟩, ⟨zB HB⟩⟩
end Go.Proofs.YtnphnhkinjppjaaGreatDoor.Q
end

section
set_option maxHeartbeats 8000000
set_option maxRecDepth 100000
namespace Go.Proofs.YtnphnhkinjppjaaGreatDoor.Q
open Go.RowKit Go.Proofs.YtnphnhkinjppjaaGreatDoorW.PrintWords Go.Proofs.YtnphnhkinjppjaaGreatDoorW.PrintLast Go.Proofs.YtnphnhkinjppjaaGreatDoorW.PrintMore
attribute [local go_sem] max2_int min2_int max_two min_two max_three min_three max_four min_four
mutual
def r18_twice.l0 : Nat → Int → ByteArray → Bool → Int → Int → Int → Int → Int → Int → Int → Bool → Int → List (S74) → Option (Bool)
  | 0, _, _, _, _, _, _, _, _, _, _, _, _, _ => none
  | k + 1, x3, x308000, x308001, x308002, x308003, x308004, x308005, x308006, x308007, x308008, x308009, x308010, x308011 => if x3 < (x308011.length : Int) then (r18_twice.l1 k x3 0 x308000 x308001 x308002 x308003 x308004 x308005 x308006 x308007 x308008 x308009 x308010 x308011) else (some false)
def r18_twice.l1 : Nat → Int → Int → ByteArray → Bool → Int → Int → Int → Int → Int → Int → Int → Bool → Int → List (S74) → Option (Bool)
  | 0, _, _, _, _, _, _, _, _, _, _, _, _, _, _ => none
  | k + 1, x3, x4, x308000, x308001, x308002, x308003, x308004, x308005, x308006, x308007, x308008, x308009, x308010, x308011 => if x4 < x3 then (if 0 ≤ x3 then (if x3 < (x308011.length : Int) then (if 0 ≤ x4 then (if x4 < (x308011.length : Int) then (if ((rd_T74 x308011 x3).f0) = ((rd_T74 x308011 x4).f0) then (if ((rd_T74 x308011 x3).f1) = ((rd_T74 x308011 x4).f1) then (some true) else (r18_twice.l1 k x3 (wrap64 (x4 + 1)) x308000 x308001 x308002 x308003 x308004 x308005 x308006 x308007 x308008 x308009 x308010 x308011)) else (r18_twice.l1 k x3 (wrap64 (x4 + 1)) x308000 x308001 x308002 x308003 x308004 x308005 x308006 x308007 x308008 x308009 x308010 x308011)) else (none)) else (none)) else (none)) else (none)) else (r18_twice.l0 k (wrap64 (x3 + 1)) x308000 x308001 x308002 x308003 x308004 x308005 x308006 x308007 x308008 x308009 x308010 x308011)
end
def r18_twice.f (k : Nat) (a0_0 : ByteArray) (a0_1 : Bool) (a0_2 : Int) (a0_3 : Int) (a0_4 : Int) (a0_5 : Int) (a0_6 : Int) (a0_7 : Int) (a0_8 : Int) (a0_9 : Bool) (a0_10 : Int) (l0_11 : List (S74)) : Option (Bool) := r18_twice.l0 k 0 a0_0 a0_1 a0_2 a0_3 a0_4 a0_5 a0_6 a0_7 a0_8 a0_9 a0_10 l0_11
theorem r18_twice.mono_l : ∀ k, (∀ y0 y1 y2 y3 y4 y5 y6 y7 y8 y9 y10 y11 y12, LeO (r18_twice.l0 k y0 y1 y2 y3 y4 y5 y6 y7 y8 y9 y10 y11 y12) (r18_twice.l0 (k + 1) y0 y1 y2 y3 y4 y5 y6 y7 y8 y9 y10 y11 y12)) ∧ (∀ y0 y1 y2 y3 y4 y5 y6 y7 y8 y9 y10 y11 y12 y13, LeO (r18_twice.l1 k y0 y1 y2 y3 y4 y5 y6 y7 y8 y9 y10 y11 y12 y13) (r18_twice.l1 (k + 1) y0 y1 y2 y3 y4 y5 y6 y7 y8 y9 y10 y11 y12 y13))
  | 0 => ⟨fun _ _ _ _ _ _ _ _ _ _ _ _ _ r h => by simp [r18_twice.l0] at h, fun _ _ _ _ _ _ _ _ _ _ _ _ _ _ r h => by simp [r18_twice.l1] at h⟩
  | k + 1 => by
    obtain ⟨ih0, ih1⟩ := r18_twice.mono_l k
    refine ⟨?_, ?_⟩
    · intro y0 y1 y2 y3 y4 y5 y6 y7 y8 y9 y10 y11 y12
      unfold r18_twice.l0
      repeat' first
      | (with_reducible exact ih0 _ _ _ _ _ _ _ _ _ _ _ _ _)
      | (with_reducible exact ih1 _ _ _ _ _ _ _ _ _ _ _ _ _ _)
      | (with_reducible exact LeO.refl _)
      | (with_reducible exact LeO.none _)
      | (with_reducible refine LeO.ite ?_ ?_)
      | (with_reducible refine LeO.bind ?_ (fun _ => ?_))
    · intro y0 y1 y2 y3 y4 y5 y6 y7 y8 y9 y10 y11 y12 y13
      unfold r18_twice.l1
      repeat' first
      | (with_reducible exact ih0 _ _ _ _ _ _ _ _ _ _ _ _ _)
      | (with_reducible exact ih1 _ _ _ _ _ _ _ _ _ _ _ _ _ _)
      | (with_reducible exact LeO.refl _)
      | (with_reducible exact LeO.none _)
      | (with_reducible refine LeO.ite ?_ ?_)
      | (with_reducible refine LeO.bind ?_ (fun _ => ?_))
theorem r18_twice.mono : ∀ a0 a1 a2 a3 a4 a5 a6 a7 a8 a9 a10 a11 k, LeO (r18_twice.f k a0 a1 a2 a3 a4 a5 a6 a7 a8 a9 a10 a11) (r18_twice.f (k + 1) a0 a1 a2 a3 a4 a5 a6 a7 a8 a9 a10 a11) := by
  intro a0 a1 a2 a3 a4 a5 a6 a7 a8 a9 a10 a11 k
  obtain ⟨ih0, ih1⟩ := r18_twice.mono_l k
  unfold r18_twice.f
  repeat' first
      | (with_reducible exact ih0 _ _ _ _ _ _ _ _ _ _ _ _ _)
      | (with_reducible exact ih1 _ _ _ _ _ _ _ _ _ _ _ _ _ _)
      | (with_reducible exact LeO.refl _)
      | (with_reducible exact LeO.none _)
      | (with_reducible refine LeO.ite ?_ ?_)
      | (with_reducible refine LeO.bind ?_ (fun _ => ?_))
theorem r18_twice.calls (k : Nat) (a0_0 : ByteArray) (a0_1 : Bool) (a0_2 : Int) (a0_3 : Int) (a0_4 : Int) (a0_5 : Int) (a0_6 : Int) (a0_7 : Int) (a0_8 : Int) (a0_9 : Bool) (a0_10 : Int) (A0_11 : Option Addr) (c0_11 : Nat) (l0_11 : List (S74)) (r : Bool) (w : World) (hr0_11 : Kd.C k74 w A0_11 l0_11.length l0_11) (hc0_11 : l0_11.length ≤ c0_11) (h : r18_twice.f k a0_0 a0_1 a0_2 a0_3 a0_4 a0_5 a0_6 a0_7 a0_8 a0_9 a0_10 l0_11 = some r) :
 Calls Tryz.prog 37 #[.agg #[.string a0_0, .bool a0_1, .int .u64 a0_2, .int .u64 a0_3, .int .i64 a0_4, .int .i64 a0_5, .int .i64 a0_6, .int .i64 a0_7, .int .i64 a0_8, .bool a0_9, .int .i64 a0_10, .slice A0_11 l0_11.length c0_11]] w fun e w' => e = .returned (.bool r) ∧ Below w.heap.size w w' := by
 have hu36 := Tryz.underlying36
 have HR0_11 := Aside0.mk hr0_11; have HC0_11 := Aside0.mk hc0_11; clear hr0_11 hc0_11; have HB := Aside0.mk (Below.refl w.heap.size w)
 unfold r18_twice.f at h; have H := h
 clear h
 have H' := Aside0.mk H
 clear H
 go_enter Tryz.func37, Tryz.ntmps37
 go_wp2_with (first | ((with_reducible refine gate_dst (N := 1) rfl ?_); refine zx 1 #[.string a0_0, .bool a0_1, .int .u64 a0_2, .int .u64 a0_3, .int .i64 a0_4, .int .i64 a0_5, .int .i64 a0_6, .int .i64 a0_7, .int .i64 a0_8, .bool a0_9, .int .i64 a0_10, .slice A0_11 l0_11.length c0_11] 36 ?_; intro gb307 hg w2 hbox hb; have BK307 := Aside0.mk (hbox); have GW307 := zG HB hg; have GE307 := zG HB hg; replace HB := Aside0.mk (below_step (zB HB) hb); clear hb hbox hg))
 repeat (go_quiet (first | ((with_reducible refine gate_dst (N := 1) rfl ?_); refine zx 1 #[.string a0_0, .bool a0_1, .int .u64 a0_2, .int .u64 a0_3, .int .i64 a0_4, .int .i64 a0_5, .int .i64 a0_6, .int .i64 a0_7, .int .i64 a0_8, .bool a0_9, .int .i64 a0_10, .slice A0_11 l0_11.length c0_11] 36 ?_; intro gb307 hg w2 hbox hb; have BK307 := Aside0.mk (hbox); have GW307 := zG HB hg; have GE307 := zG HB hg; replace HB := Aside0.mk (below_step (zB HB) hb); clear hb hbox hg)); try go_wp2_with (first | ((with_reducible refine gate_dst (N := 1) rfl ?_); refine zx 1 #[.string a0_0, .bool a0_1, .int .u64 a0_2, .int .u64 a0_3, .int .i64 a0_4, .int .i64 a0_5, .int .i64 a0_6, .int .i64 a0_7, .int .i64 a0_8, .bool a0_9, .int .i64 a0_10, .slice A0_11 l0_11.length c0_11] 36 ?_; intro gb307 hg w2 hbox hb; have BK307 := Aside0.mk (hbox); have GW307 := zG HB hg; have GE307 := zG HB hg; replace HB := Aside0.mk (below_step (zB HB) hb); clear hb hbox hg)))
 go_loopg [3] k (fun kq v3 w' => ∃ (x3_1 : Int), v3 = .int .i64 x3_1 ∧ Aside0 (r18_twice.l0 kq x3_1 a0_0 a0_1 a0_2 a0_3 a0_4 a0_5 a0_6 a0_7 a0_8 a0_9 a0_10 l0_11 = some r) ∧ Aside0 (kq ≤ k) ∧ Aside0 (w'.heap[gb307]? = some (.cells #[.string a0_0, .bool a0_1, .int .u64 a0_2, .int .u64 a0_3, .int .i64 a0_4, .int .i64 a0_5, .int .i64 a0_6, .int .i64 a0_7, .int .i64 a0_8, .bool a0_9, .int .i64 a0_10, (.slice A0_11 l0_11.length c0_11)] 36 (0, 0))) ∧ Aside0 (Below w.heap.size w w'))
 case atStart => exact ⟨(0), zI, H', ⟨Nat.le_refl _⟩, ⟨zK BK307⟩, ⟨zB HB⟩⟩
 case round =>
  clear H'
  obtain ⟨x3_1, rfl, HA, HK1, BK307, HB⟩ := hrel
  rcases gk with _ | k1
  · exact absurd HA.out (by simp [r18_twice.l0])
  have H := HA.out
  clear HA
  simp only [r18_twice.l0] at H
  by_cases c3 : x3_1 < (l0_11.length : Int)
  rotate_left
  · rw [if_neg c3] at H
    have c3b0 : decide (x3_1 < (l0_11.length : Int)) = false := decide_eq_false c3; clear c3
    obtain rfl := Option.some.inj H
    obtain ⟨hcz15_0, hcz15_1, hcz15_2, hcz15_3, hcz15_4, hcz15_5, hcz15_6, hcz15_7, hcz15_8, hcz15_9, hcz15_10, hcz15_11⟩ := zc12 BK307; obtain ⟨hfz15_0, hfz15_1, hfz15_2, hfz15_3, hfz15_4, hfz15_5, hfz15_6, hfz15_7, hfz15_8, hfz15_9, hfz15_10, hfz15_11⟩ := zf12 BK307
    go_wp2
    repeat (go_quiet (fail); try go_wp2)
    go_ret
    exact ⟨zr, zB HB⟩
  rw [if_pos c3] at H
  have c3b0 : decide (x3_1 < (l0_11.length : Int)) = true := decide_eq_true c3; clear c3
  have H' := Aside0.mk H
  clear H; obtain ⟨hcz4_0, hcz4_1, hcz4_2, hcz4_3, hcz4_4, hcz4_5, hcz4_6, hcz4_7, hcz4_8, hcz4_9, hcz4_10, hcz4_11⟩ := zc12 BK307; obtain ⟨hfz4_0, hfz4_1, hfz4_2, hfz4_3, hfz4_4, hfz4_5, hfz4_6, hfz4_7, hfz4_8, hfz4_9, hfz4_10, hfz4_11⟩ := zf12 BK307
  go_wp2
  repeat (go_quiet (fail); try go_wp2)
  go_loopg [4] k1 (fun kq v4 w' => ∃ (x4_2 : Int), v4 = .int .i64 x4_2 ∧ Aside0 (r18_twice.l1 kq x3_1 x4_2 a0_0 a0_1 a0_2 a0_3 a0_4 a0_5 a0_6 a0_7 a0_8 a0_9 a0_10 l0_11 = some r) ∧ Aside0 (kq ≤ k1) ∧ Aside0 (w'.heap[gb307]? = some (.cells #[.string a0_0, .bool a0_1, .int .u64 a0_2, .int .u64 a0_3, .int .i64 a0_4, .int .i64 a0_5, .int .i64 a0_6, .int .i64 a0_7, .int .i64 a0_8, .bool a0_9, .int .i64 a0_10, (.slice A0_11 l0_11.length c0_11)] 36 (0, 0))) ∧ Aside0 (Below w.heap.size w w'))
  case atStart => exact ⟨(0), zI, H', ⟨Nat.le_refl _⟩, ⟨zK BK307⟩, ⟨zB HB⟩⟩
  case round =>
   clear H'
   (try clear c3); (try clear c3b0); (try clear hcz4_0 hcz4_1 hcz4_10 hcz4_11 hcz4_2 hcz4_3 hcz4_4 hcz4_5 hcz4_6 hcz4_7 hcz4_8 hcz4_9); (try clear hfz4_0 hfz4_1 hfz4_10 hfz4_11 hfz4_2 hfz4_3 hfz4_4 hfz4_5 hfz4_6 hfz4_7 hfz4_8 hfz4_9)
   obtain ⟨x4_2, rfl, HA, HK2, BK307, HB⟩ := hrel
   rcases gk with _ | k2
   · exact absurd HA.out (by simp [r18_twice.l1])
   have H := HA.out
   clear HA
   simp only [r18_twice.l1] at H
   by_cases c5 : x4_2 < x3_1
   rotate_left
   · rw [if_neg c5] at H
     have c5b0 : decide (x4_2 < x3_1) = false := decide_eq_false c5; clear c5
     have H' := Aside0.mk H
     clear H
     go_wp2
     repeat (go_quiet (fail); try go_wp2)
     go_roundg k2
     case measure => have := HK1.out; have := HK2.out; omega
     case rel => exact ⟨(wrap64 (x3_1 + 1)), zI, H', ⟨by have := HK1.out; have := HK2.out; omega⟩, ⟨zK BK307⟩, ⟨zB HB⟩⟩
   rw [if_pos c5] at H
   have c5b0 : decide (x4_2 < x3_1) = true := decide_eq_true c5; clear c5
   by_cases c6 : 0 ≤ x3_1
   rotate_left
   · rw [if_neg c6] at H
     exact absurd H (by simp)
   rw [if_pos c6] at H
   have c6b0 : decide (0 ≤ x3_1) = true := decide_eq_true c6; clear c6
   by_cases c7 : x3_1 < (l0_11.length : Int)
   rotate_left
   · rw [if_neg c7] at H
     exact absurd H (by simp)
   rw [if_pos c7] at H
   have c7b0 : decide (x3_1 < (l0_11.length : Int)) = true := decide_eq_true c7; clear c7
   by_cases c8 : 0 ≤ x4_2
   rotate_left
   · rw [if_neg c8] at H
     exact absurd H (by simp)
   rw [if_pos c8] at H
   have c8b0 : decide (0 ≤ x4_2) = true := decide_eq_true c8; clear c8
   by_cases c9 : x4_2 < (l0_11.length : Int)
   rotate_left
   · rw [if_neg c9] at H
     exact absurd H (by simp)
   rw [if_pos c9] at H
   have c9b0 : decide (x4_2 < (l0_11.length : Int)) = true := decide_eq_true c9; clear c9
   by_cases c10 : ((rd_T74 l0_11 x3_1).f0) = ((rd_T74 l0_11 x4_2).f0)
   rotate_left
   · rw [if_neg c10] at H
     have c10b0 : (((rd_T74 l0_11 x3_1).f0) == ((rd_T74 l0_11 x4_2).f0)) = false := beq_eq_false_iff_ne.mpr c10
     have c10b1 : (((rd_T74 l0_11 x3_1).f0) != ((rd_T74 l0_11 x4_2).f0)) = true := bne_iff_ne.mpr c10
     have H' := Aside0.mk H
     clear H; obtain ⟨hcz14_0, hcz14_1, hcz14_2, hcz14_3, hcz14_4, hcz14_5, hcz14_6, hcz14_7, hcz14_8, hcz14_9, hcz14_10, hcz14_11⟩ := zc12 BK307; obtain ⟨hfz14_0, hfz14_1, hfz14_2, hfz14_3, hfz14_4, hfz14_5, hfz14_6, hfz14_7, hfz14_8, hfz14_9, hfz14_10, hfz14_11⟩ := zf12 BK307
     have p308 : 0 ≤ (x3_1 : Int) := za
     have q308 : x3_1 < (l0_11.length : Int) := za
     obtain ⟨ad308, e308, hx308_0, hx308_1, hx308_2⟩ := at_T74 HR0_11.out x3_1 p308 q308
     cases e308
     replace hx308_0 := zh HB hx308_0; replace hx308_1 := zh HB hx308_1; replace hx308_2 := zh HB hx308_2
     replace p308 := eq_true p308
     replace q308 := eq_true q308
     have p309 : 0 ≤ (x4_2 : Int) := za
     have q309 : x4_2 < (l0_11.length : Int) := za
     obtain ⟨ad309, e309, hx309_0, hx309_1, hx309_2⟩ := at_T74 HR0_11.out x4_2 p309 q309
     obtain rfl : ad308 = ad309 := (by injection e309)
     replace hx309_0 := zh HB hx309_0; replace hx309_1 := zh HB hx309_1; replace hx309_2 := zh HB hx309_2
     replace p309 := eq_true p309
     replace q309 := eq_true q309
     go_wp2
     repeat (go_quiet (fail); try go_wp2)
     go_roundg k2
     case measure => have := HK1.out; have := HK2.out; omega
     case rel => exact ⟨(wrap64 (x4_2 + 1)), zI, H', ⟨by have := HK1.out; have := HK2.out; omega⟩, ⟨zK BK307⟩, ⟨zB HB⟩⟩
   rw [if_pos c10] at H
   have c10b0 : (((rd_T74 l0_11 x3_1).f0) == ((rd_T74 l0_11 x4_2).f0)) = true := beq_iff_eq.mpr c10; have c10b1 : (((rd_T74 l0_11 x3_1).f0) != ((rd_T74 l0_11 x4_2).f0)) = false := bne_eq_false_iff_eq.mpr c10; clear c10
   by_cases c11 : ((rd_T74 l0_11 x3_1).f1) = ((rd_T74 l0_11 x4_2).f1)
   · rw [if_pos c11] at H
     have c11b0 : (((rd_T74 l0_11 x3_1).f1) == ((rd_T74 l0_11 x4_2).f1)) = true := beq_iff_eq.mpr c11; have c11b1 : (((rd_T74 l0_11 x3_1).f1) != ((rd_T74 l0_11 x4_2).f1)) = false := bne_eq_false_iff_eq.mpr c11; clear c11
     obtain rfl := Option.some.inj H
     obtain ⟨hcz12_0, hcz12_1, hcz12_2, hcz12_3, hcz12_4, hcz12_5, hcz12_6, hcz12_7, hcz12_8, hcz12_9, hcz12_10, hcz12_11⟩ := zc12 BK307; obtain ⟨hfz12_0, hfz12_1, hfz12_2, hfz12_3, hfz12_4, hfz12_5, hfz12_6, hfz12_7, hfz12_8, hfz12_9, hfz12_10, hfz12_11⟩ := zf12 BK307
     have p308 : 0 ≤ (x3_1 : Int) := za
     have q308 : x3_1 < (l0_11.length : Int) := za
     obtain ⟨ad308, e308, hx308_0, hx308_1, hx308_2⟩ := at_T74 HR0_11.out x3_1 p308 q308
     cases e308
     replace hx308_0 := zh HB hx308_0; replace hx308_1 := zh HB hx308_1; replace hx308_2 := zh HB hx308_2
     replace p308 := eq_true p308
     replace q308 := eq_true q308
     have p309 : 0 ≤ (x4_2 : Int) := za
     have q309 : x4_2 < (l0_11.length : Int) := za
     obtain ⟨ad309, e309, hx309_0, hx309_1, hx309_2⟩ := at_T74 HR0_11.out x4_2 p309 q309
     obtain rfl : ad308 = ad309 := (by injection e309)
     replace hx309_0 := zh HB hx309_0; replace hx309_1 := zh HB hx309_1; replace hx309_2 := zh HB hx309_2
     replace p309 := eq_true p309
     replace q309 := eq_true q309
     have p310 : 0 ≤ (x3_1 : Int) := za
     have q310 : x3_1 < (l0_11.length : Int) := za
     obtain ⟨ad310, e310, hx310_0, hx310_1, hx310_2⟩ := at_T74 HR0_11.out x3_1 p310 q310
     obtain rfl : ad308 = ad310 := (by injection e310)
     replace hx310_0 := zh HB hx310_0; replace hx310_1 := zh HB hx310_1; replace hx310_2 := zh HB hx310_2
     replace p310 := eq_true p310
     replace q310 := eq_true q310
     have p311 : 0 ≤ (x4_2 : Int) := za
     have q311 : x4_2 < (l0_11.length : Int) := za
     obtain ⟨ad311, e311, hx311_0, hx311_1, hx311_2⟩ := at_T74 HR0_11.out x4_2 p311 q311
     obtain rfl : ad308 = ad311 := (by injection e311)
     replace hx311_0 := zh HB hx311_0; replace hx311_1 := zh HB hx311_1; replace hx311_2 := zh HB hx311_2
     replace p311 := eq_true p311
     replace q311 := eq_true q311
     go_wp2
     repeat (go_quiet (fail); try go_wp2)
     go_ret
     exact ⟨zr, zB HB⟩
   rw [if_neg c11] at H
   have c11b0 : (((rd_T74 l0_11 x3_1).f1) == ((rd_T74 l0_11 x4_2).f1)) = false := beq_eq_false_iff_ne.mpr c11
   have c11b1 : (((rd_T74 l0_11 x3_1).f1) != ((rd_T74 l0_11 x4_2).f1)) = true := bne_iff_ne.mpr c11
   have H' := Aside0.mk H
   clear H; obtain ⟨hcz13_0, hcz13_1, hcz13_2, hcz13_3, hcz13_4, hcz13_5, hcz13_6, hcz13_7, hcz13_8, hcz13_9, hcz13_10, hcz13_11⟩ := zc12 BK307; obtain ⟨hfz13_0, hfz13_1, hfz13_2, hfz13_3, hfz13_4, hfz13_5, hfz13_6, hfz13_7, hfz13_8, hfz13_9, hfz13_10, hfz13_11⟩ := zf12 BK307
   have p308 : 0 ≤ (x3_1 : Int) := za
   have q308 : x3_1 < (l0_11.length : Int) := za
   obtain ⟨ad308, e308, hx308_0, hx308_1, hx308_2⟩ := at_T74 HR0_11.out x3_1 p308 q308
   cases e308
   replace hx308_0 := zh HB hx308_0; replace hx308_1 := zh HB hx308_1; replace hx308_2 := zh HB hx308_2
   replace p308 := eq_true p308
   replace q308 := eq_true q308
   have p309 : 0 ≤ (x4_2 : Int) := za
   have q309 : x4_2 < (l0_11.length : Int) := za
   obtain ⟨ad309, e309, hx309_0, hx309_1, hx309_2⟩ := at_T74 HR0_11.out x4_2 p309 q309
   obtain rfl : ad308 = ad309 := (by injection e309)
   replace hx309_0 := zh HB hx309_0; replace hx309_1 := zh HB hx309_1; replace hx309_2 := zh HB hx309_2
   replace p309 := eq_true p309
   replace q309 := eq_true q309
   have p310 : 0 ≤ (x3_1 : Int) := za
   have q310 : x3_1 < (l0_11.length : Int) := za
   obtain ⟨ad310, e310, hx310_0, hx310_1, hx310_2⟩ := at_T74 HR0_11.out x3_1 p310 q310
   obtain rfl : ad308 = ad310 := (by injection e310)
   replace hx310_0 := zh HB hx310_0; replace hx310_1 := zh HB hx310_1; replace hx310_2 := zh HB hx310_2
   replace p310 := eq_true p310
   replace q310 := eq_true q310
   have p311 : 0 ≤ (x4_2 : Int) := za
   have q311 : x4_2 < (l0_11.length : Int) := za
   obtain ⟨ad311, e311, hx311_0, hx311_1, hx311_2⟩ := at_T74 HR0_11.out x4_2 p311 q311
   obtain rfl : ad308 = ad311 := (by injection e311)
   replace hx311_0 := zh HB hx311_0; replace hx311_1 := zh HB hx311_1; replace hx311_2 := zh HB hx311_2
   replace p311 := eq_true p311
   replace q311 := eq_true q311
   go_wp2
   repeat (go_quiet (fail); try go_wp2)
   go_roundg k2
   case measure => have := HK1.out; have := HK2.out; omega
   case rel => exact ⟨(wrap64 (x4_2 + 1)), zI, H', ⟨by have := HK1.out; have := HK2.out; omega⟩, ⟨zK BK307⟩, ⟨zB HB⟩⟩
end Go.Proofs.YtnphnhkinjppjaaGreatDoor.Q
end

section
set_option maxHeartbeats 8000000
set_option maxRecDepth 100000
namespace Go.Proofs.YtnphnhkinjppjaaGreatDoor.Q
open Go.RowKit Go.Proofs.YtnphnhkinjppjaaGreatDoorW.PrintWords Go.Proofs.YtnphnhkinjppjaaGreatDoorW.PrintLast Go.Proofs.YtnphnhkinjppjaaGreatDoorW.PrintMore
attribute [local go_sem high] eqA33
def refOne (k : Nat) (b : S36) : Option Int :=
  if (b.f8.length : Int) > 16 then some 3 else (r04_IsName.f k b.f0).bind fun n => if n = true then ((r18_inRange.f k b.f0 b.f1.f0.f0 b.f1.f0.f1 b.f1.f0.f2 b.f1.f1 b.f2 b.f3 b.f4 b.f5 b.f6 b.f7 b.f8).bind fun q => if q = true then ((r06_ValidPrefix.f k b.f1.f0.f0 b.f1.f0.f1 b.f1.f0.f2 b.f1.f1).bind fun v => if v = true then some 0 else some 2) else some 4) else some 5
def refTwice (k : Nat) (b : S36) : Option Bool := r18_twice.f k b.f0 b.f1.f0.f0 b.f1.f0.f1 b.f1.f0.f2 b.f1.f1 b.f2 b.f3 b.f4 b.f5 b.f6 b.f7 b.f8
def r18_Check.l0 : Nat → List S36 → Nat → Option Int
  | 0, _, _ => none
  | k + 1, l, i =>
    if i < l.length then (refOne k (rd_T36 l (i : Int))).bind fun e =>
      if e = 0 then (if ((l.take i).any fun b => clash b (rd_T36 l (i : Int))) = true then some 7 else (refTwice k (rd_T36 l (i : Int))).bind fun t => if t = true then some 7 else r18_Check.l0 k l (i + 1)) else some e
    else some 0
def r18_Check.f (k : Nat) (l : List S36) : Option Int := if (l.length : Int) > 64 then some 3 else r18_Check.l0 k l 0
theorem refOne.mono (k : Nat) (b : S36) : LeO (refOne k b) (refOne (k + 1) b) := LeO.ite (LeO.refl _) (LeO.bind (r04_IsName.mono _ _) fun _ => LeO.ite (LeO.bind (r18_inRange.mono _ _ _ _ _ _ _ _ _ _ _ _ _) fun _ => LeO.ite (LeO.bind (r06_ValidPrefix.mono _ _ _ _ _) fun _ => LeO.refl _) (LeO.refl _)) (LeO.refl _))
theorem r18_Check.mono_l : ∀ (k : Nat) (l : List S36) (i : Nat), LeO (r18_Check.l0 k l i) (r18_Check.l0 (k + 1) l i) := by
  intro k
  induction k with
  | zero => intro l i; exact LeO.none _
  | succ k ih =>
    intro l i
    rw [r18_Check.l0, r18_Check.l0]
    exact LeO.ite (LeO.bind (refOne.mono _ _) fun e => LeO.ite (LeO.ite (LeO.refl _) (LeO.bind (r18_twice.mono _ _ _ _ _ _ _ _ _ _ _ _ _) fun t => LeO.ite (LeO.refl _) (ih _ _))) (LeO.refl _)) (LeO.refl _)
theorem r18_Check.mono : ∀ l k, LeO (r18_Check.f k l) (r18_Check.f (k + 1) l) := fun l k => LeO.ite (LeO.refl _) (r18_Check.mono_l _ _ _)
theorem rcheck_on {k : Nat} {l : List S36} {i : Nat} {r : Int} (h : r18_Check.l0 k l i = some r) (hi : i < l.length) {b : S36} (hb : rd_T36 l (i : Int) = b) : ∃ k' e, k = k' + 1 ∧ refOne k' b = some e ∧ ((¬ e = 0 ∧ e = r) ∨ (e = 0 ∧ ((((l.take i).any fun b' => clash b' b) = true ∧ r = 7) ∨ (((l.take i).any fun b' => clash b' b) = false ∧ ∃ t, refTwice k' b = some t ∧ ((t = true ∧ r = 7) ∨ (t = false ∧ r18_Check.l0 k' l (i + 1) = some r)))))) := by
  cases k with
  | zero => simp [r18_Check.l0] at h
  | succ k =>
    rw [r18_Check.l0, if_pos hi, hb] at h
    obtain ⟨e, he, h⟩ := Option.bind_eq_some_iff.1 h
    refine ⟨k, e, rfl, he, ?_⟩
    split at h
    · rename_i h0
      refine .inr ⟨h0, ?_⟩
      split at h
      · rename_i h1
        exact .inl ⟨h1, (Option.some.inj h).symm⟩
      · rename_i h1
        obtain ⟨t, ht, h⟩ := Option.bind_eq_some_iff.1 h
        refine .inr ⟨by simpa using h1, t, ht, ?_⟩
        split at h
        · rename_i h2
          exact .inl ⟨h2, (Option.some.inj h).symm⟩
        · rename_i h2
          exact .inr ⟨by simpa using h2, h⟩
    · rename_i h0
      exact .inl ⟨h0, Option.some.inj h⟩
theorem rcheck_fin {k : Nat} {l : List S36} {i : Nat} {r : Int} (h : r18_Check.l0 k l i = some r) (hi : ¬ i < l.length) : r = 0 := by
  cases k with
  | zero => simp [r18_Check.l0] at h
  | succ k => rw [r18_Check.l0, if_neg hi] at h; exact (Option.some.inj h).symm
structure RCk (w W : World) (ga : Nat) (b : S36) (Ab : Option Addr) (cb : Nat) : Prop where
  blk : W.heap[ga]? = some (.cells (asC b (.slice Ab b.f8.length cb)) 36 (0, 0))
  svc : Kd.C k74 W Ab b.f8.length b.f8
  bel : Below w.heap.size w W
theorem RCk.below {w W W1 : World} {ga : Nat} {b : S36} {Ab : Option Addr} {cb : Nat} (h : RCk w W ga b Ab cb) (hb : Below W.heap.size W W1) : RCk w W1 ga b Ab cb := ⟨blk_below h.blk hb, Kd.C_below h.svc hb, below_then h.bel h.bel.size hb⟩
theorem r18_Check.calls (k : Nat) (A : Option Addr) (c : Nat) (l : List S36) (r : Int) (w : World) (hC : Kd.C k36 w A l.length l) (hc : l.length ≤ c) (h : r18_Check.f k l = some r) :
    Calls Tryz.prog 13 #[.slice A l.length c] w fun e w' => e = .returned (.int .i64 r) ∧ Below w.heap.size w w' := by
  have hu := Tryz.underlying36
  have hup := Tryz.underlying33
  have HC := Aside0.mk hC
  obtain ⟨n, hn⟩ : ∃ n, l.length = n := ⟨_, rfl⟩
  unfold r18_Check.f at h
  rw [hn] at h ⊢
  have HN := Aside0.mk hn
  by_cases h64 : (n : Int) > 64
  · rw [if_pos h64] at h
    have hr := Option.some.inj h
    subst hr
    have b1 : decide ((n : Int) > 64) = true := decide_eq_true h64
    have b2 : decide (64 < n) = true := decide_eq_true (by omega)
    clear hC h h64 hn hc
    go_enter Tryz.func13, Tryz.ntmps13
    go_wp2
    go_ret
    exact ⟨rfl, Below.refl _ _⟩
  · rw [if_neg h64] at h
    have HK := Aside0.mk h
    have b1 : decide ((n : Int) > 64) = false := decide_eq_false h64
    have H64 : Aside0 (n ≤ 64) := ⟨by omega⟩
    clear hC h h64 hn hc
    go_enter Tryz.func13, Tryz.ntmps13
    go_upto_region 4 with (fail)
    clear b1
    go_loopg [3] k (fun gg v3 wr => ∃ i : Nat, v3 = .int .i64 (i : Int) ∧ Aside0 (r18_Check.l0 gg l i = some r ∧ i ≤ n) ∧ Aside0 (Below w.heap.size w wr))
    case atStart => exact ⟨0, rfl, ⟨HK.out, by omega⟩, ⟨Below.refl _ _⟩⟩
    case round =>
      clear HK
      obtain ⟨i, rfl, HI, HB⟩ := hrel
      by_cases hi : i < n
      · have b2 : decide ((i : Int) < (n : Int)) = true := decide_eq_true (by omega)
        have b2' : decide (i < n) = true := decide_eq_true hi
        have b3 : n ≤ 1000000 := by have := H64.out; omega
        obtain ⟨ad, Ab, cb, rfl, k0, k1, k2, k3, k4, k5, k6, k7, k8, k9, k10, k11, kl, kc⟩ := at_T36 (Kd.C_below HC.out HB.out) (i : Int) (by omega) (by rw [HN.out]; omega)
        simp only [Int.toNat_natCast] at k0 k1 k2 k3 k4 k5 k6 k7 k8 k9 k10 k11
        obtain ⟨b, hb⟩ : ∃ b, rd_T36 l (i : Int) = b := ⟨_, rfl⟩
        obtain ⟨k', e, hk', hone, hcase⟩ := rcheck_on HI.out.1 (by rw [HN.out]; exact hi) hb
        rw [hb] at k0 k1 k2 k3 k4 k5 k6 k7 k8 k9 k10 k11 kl kc
        subst hk'
        have HKL := Aside0.mk kl
        have HKC := Aside0.mk kc
        have HONE := Aside0.mk hone
        have HCASE := Aside0.mk hcase
        have HII := Aside0.mk hi
        clear kl kc hone hcase hb
        go_upto_region 7 with (fail)
        obtain ⟨ga, hga⟩ : ∃ x, wr.heap.size = x := ⟨_, rfl⟩
        have HA : Aside0 ((wr.alloc (.cells (asC b (.slice Ab b.f8.length cb)) 36)).heap[wr.heap.size]? = some (.cells (asC b (.slice Ab b.f8.length cb)) 36 (0, 0))) := ⟨heap_alloc_new _ _⟩
        rw [hga] at HA
        simp only [hga]
        clear hga k0 k1 k2 k3 k4 k5 k6 k7 k8 k9 k10 k11
        have HR : Aside0 (RCk w (wr.alloc (.cells (asC b (.slice Ab b.f8.length cb)) 36)) ga b Ab cb) := ⟨HA.out, Kd.C_below HKC.out (below_alloc (Below.refl _ _) _), below_alloc HB.out _⟩
        clear HA HKC HB
        change Code.wp _ _ _ _ (wr.alloc (.cells (asC b (.slice Ab b.f8.length cb)) 36))
        generalize wr.alloc (.cells (asC b (.slice Ab b.f8.length cb)) 36) = W1 at HR ⊢
        obtain ⟨d0, d1, d2, d3, d4, d5, d6, d7, d8, d9, d10, d11⟩ := zc12 (Aside0.mk HR.out.blk)
        have hone := HONE.out
        unfold refOne at hone
        clear HONE
        by_cases h16 : (b.f8.length : Int) > 16
        · rw [if_pos h16] at hone
          have he := Option.some.inj hone
          subst he
          have HE : Aside0 (3 = r) := ⟨by rcases HCASE.out with h | h; exact h.2; exact absurd h.1 (by decide)⟩
          have c1 : decide (16 < (b.f8.length : Int)) = true := decide_eq_true h16
          have c2 : decide (16 < b.f8.length) = true := decide_eq_true (by omega)
          clear h16 hone HCASE
          go_wp2
          go_ret
          exact ⟨by rw [← HE.out]; rfl, HR.out.bel⟩
        rw [if_neg h16] at hone
        have c1 : decide (16 < (b.f8.length : Int)) = false := decide_eq_false h16
        have c2 : decide (16 < b.f8.length) = false := decide_eq_false (by omega)
        replace hone := Option.bind_eq_some_iff.mp hone
        obtain ⟨nm, e1, hone⟩ := hone
        have E1 := Aside0.mk e1
        have HONE := Aside0.mk hone
        clear h16 hone e1
        go_wp2_with fail
        refine (r04_IsName.calls k' b.f0 nm W1 E1.out).mono ?_
        rintro r2 w2 ⟨rfl, hb2⟩
        replace HR := Aside0.mk (HR.out.below hb2.below)
        clear hb2 d0 d1 d2 d3 d4 d5 d6 d7 d8 d9 d10 d11 c1 c2
        have hone := HONE.out
        clear HONE
        cases nm
        · rw [if_neg Bool.false_ne_true] at hone
          have he := Option.some.inj hone
          subst he
          have HE : Aside0 (5 = r) := ⟨by rcases HCASE.out with h | h; exact h.2; exact absurd h.1 (by decide)⟩
          clear hone HCASE
          go_wp2
          go_ret
          exact ⟨by rw [← HE.out]; rfl, HR.out.bel⟩
        rw [if_pos rfl] at hone
        replace hone := Option.bind_eq_some_iff.mp hone
        obtain ⟨q, e2, hone⟩ := hone
        have E2 := Aside0.mk e2
        have HONE := Aside0.mk hone
        clear hone e2
        obtain ⟨d0, d1, d2, d3, d4, d5, d6, d7, d8, d9, d10, d11⟩ := zc12 (Aside0.mk HR.out.blk)
        go_wp2_with fail
        refine (r18_inRange.calls k' b.f0 b.f1.f0.f0 b.f1.f0.f1 b.f1.f0.f2 b.f1.f1 b.f2 b.f3 b.f4 b.f5 b.f6 b.f7 Ab cb b.f8 q w2 HR.out.svc HKL.out E2.out).mono ?_
        rintro r2 w3 ⟨rfl, hb2⟩
        replace HR := Aside0.mk (HR.out.below hb2)
        clear hb2 d0 d1 d2 d3 d4 d5 d6 d7 d8 d9 d10 d11
        have hone := HONE.out
        clear HONE
        cases q
        · rw [if_neg Bool.false_ne_true] at hone
          have he := Option.some.inj hone
          subst he
          have HE : Aside0 (4 = r) := ⟨by rcases HCASE.out with h | h; exact h.2; exact absurd h.1 (by decide)⟩
          clear hone HCASE
          go_wp2
          go_ret
          exact ⟨by rw [← HE.out]; rfl, HR.out.bel⟩
        rw [if_pos rfl] at hone
        replace hone := Option.bind_eq_some_iff.mp hone
        obtain ⟨v, e3, hone⟩ := hone
        have E3 := Aside0.mk e3
        have HONE := Aside0.mk hone
        clear hone e3
        obtain ⟨d0, d1, d2, d3, d4, d5, d6, d7, d8, d9, d10, d11⟩ := zc12 (Aside0.mk HR.out.blk)
        go_wp2_with fail
        refine (r06_ValidPrefix.calls k' b.f1.f0.f0 b.f1.f0.f1 b.f1.f0.f2 b.f1.f1 v w3 E3.out).mono ?_
        rintro r2 w4 ⟨rfl, hb2⟩
        replace HR := Aside0.mk (HR.out.below hb2)
        clear hb2 d0 d1 d2 d3 d4 d5 d6 d7 d8 d9 d10 d11
        have hone := HONE.out
        clear HONE
        cases v
        · rw [if_neg Bool.false_ne_true] at hone
          have he := Option.some.inj hone
          subst he
          have HE : Aside0 (2 = r) := ⟨by rcases HCASE.out with h | h; exact h.2; exact absurd h.1 (by decide)⟩
          clear hone HCASE
          go_wp2
          go_ret
          exact ⟨by rw [← HE.out]; rfl, HR.out.bel⟩
        rw [if_pos rfl] at hone
        have he := Option.some.inj hone
        subst he
        clear hone
        have HCS : Aside0 ((((l.take i).any fun b' => clash b' b) = true ∧ r = 7) ∨ (((l.take i).any fun b' => clash b' b) = false ∧ ∃ t, refTwice k' b = some t ∧ ((t = true ∧ r = 7) ∨ (t = false ∧ r18_Check.l0 k' l (i + 1) = some r)))) := ⟨by rcases HCASE.out with h | h; exact absurd rfl h.1; exact h.2⟩
        clear HCASE
        go_upto_region 16 with (fail)
        go_loopg [5] (i + 1) (fun gg v5 wr2 => ∃ j : Nat, v5 = .int .i64 (j : Int) ∧ Aside0 (gg + j = i + 1 ∧ j ≤ i ∧ (l.take j).any (fun b' => clash b' b) = false) ∧ Aside0 (RCk w wr2 ga b Ab cb))
        case atStart => exact ⟨0, rfl, ⟨by omega, by omega, by simp⟩, HR⟩
        case round =>
          clear HR
          obtain ⟨j, rfl, HJ, HR⟩ := hrel
          by_cases hj : j < i
          · have c3 : decide ((j : Int) < (i : Int)) = true := decide_eq_true (by omega)
            have c3' : decide (j < i) = true := decide_eq_true hj
            have c4 : j < n := by omega
            have c4' : decide (j < n) = true := decide_eq_true c4
            have c4'' : decide ((j : Int) < (n : Int)) = true := decide_eq_true (by omega)
            obtain ⟨ad', Ax, cx, he, k0, k1, k2, k3, k4, k5, k6, k7, k8, k9, k10, k11, kl, kc⟩ := at_T36 (Kd.C_below HC.out HR.out.bel) (j : Int) (by omega) (by rw [HN.out]; omega)
            cases Option.some.inj he
            simp only [Int.toNat_natCast] at k0 k1 k2 k3 k4 k5 k6 k7 k8 k9 k10 k11
            have HS := Aside0.mk (any_take_snoc l (fun b' => clash b' b) j (by rw [HN.out]; exact c4))
            obtain ⟨x, hx⟩ : ∃ x, rd_T36 l (j : Int) = x := ⟨_, rfl⟩
            rw [hx] at k0 k1 k2 k3 k4 k5 k6 k7 k8 k9 k10 k11 HS
            have HJJ := Aside0.mk hj
            obtain ⟨d0, d1, d2, d3, d4, d5, d6, d7, d8, d9, d10, d11⟩ := zc12 (Aside0.mk HR.out.blk)
            clear hx kl kc he
            have HTT : Aside0 (∀ m, m ≤ i → (l.take m).any (fun b' => clash b' b) = true → (l.take i).any (fun b' => clash b' b) = true) := ⟨fun m hm h => by rw [← List.take_append_drop m (l.take i), List.take_take, Nat.min_eq_left hm, List.any_append, h]; rfl⟩
            cases hcl : clash x b with
            | true =>
              have HE : Aside0 (r = 7) := ⟨by
                have h1 := HTT.out (j + 1) HJJ.out (by rw [HS.out, hcl]; simp)
                rcases HCS.out with h | h
                · exact h.2
                · rw [h1] at h; exact absurd h.1 (by decide)⟩
              unfold clash at hcl
              cases hn : x.f0.toList == b.f0.toList with
              | true =>
                clear hcl
                go_upto_region 18 with (fail)
                repeat (go_quiet (fail))
                go_wp2
                go_ret
                exact ⟨by rw [HE.out]; rfl, pw_below_drewN HR.out.bel _⟩
              | false =>
                rw [hn, Bool.false_or] at hcl
                go_upto_region 18 with (fail)
                repeat (go_quiet (fail))
                go_wp2
                go_ret
                exact ⟨by rw [HE.out]; rfl, pw_below_drewN HR.out.bel _⟩
            | false =>
              have HJ2 : Aside0 ((i - j) + (j + 1) = i + 1 ∧ j + 1 ≤ i ∧ (l.take (j + 1)).any (fun b' => clash b' b) = false) := ⟨by have := HJJ.out; omega, HJJ.out, by rw [HS.out, hcl, HJ.out.2.2]; rfl⟩
              unfold clash at hcl
              have hn : (x.f0.toList == b.f0.toList) = false := by
                cases hn : x.f0.toList == b.f0.toList
                · rfl
                · rw [hn, Bool.true_or] at hcl; cases hcl
              rw [hn, Bool.false_or] at hcl
              go_upto_region 18 with (fail)
              repeat (go_quiet (fail))
              go_wp2
              go_roundg (i - j)
              case measure => have := HJ.out.1; have := HJJ.out; omega
              case rel => exact ⟨j + 1, by (have := HJJ.out; have := HII.out; go_num), HJ2, ⟨HR.out.below (pw_below_drewN (Below.refl _ _) _)⟩⟩
          · have c3 : decide ((j : Int) < (i : Int)) = false := decide_eq_false (by omega)
            have c3' : decide (j < i) = false := decide_eq_false hj
            have HJE : Aside0 (j = i) := ⟨by have := HJ.out.2.1; omega⟩
            have HCS2 : Aside0 (∃ t, refTwice k' b = some t ∧ ((t = true ∧ r = 7) ∨ (t = false ∧ r18_Check.l0 k' l (i + 1) = some r))) := ⟨by
              rcases HCS.out with h | h
              · have h2 := HJ.out.2.2
                rw [HJE.out, h.1] at h2
                exact absurd h2 (by decide)
              · exact h.2⟩
            obtain ⟨t, ht, hct⟩ := HCS2.out
            have HT := Aside0.mk ht
            have HCT := Aside0.mk hct
            clear HCS HCS2 ht hct
            obtain ⟨d0, d1, d2, d3, d4, d5, d6, d7, d8, d9, d10, d11⟩ := zc12 (Aside0.mk HR.out.blk)
            go_wp2_with fail
            refine (r18_twice.calls k' b.f0 b.f1.f0.f0 b.f1.f0.f1 b.f1.f0.f2 b.f1.f1 b.f2 b.f3 b.f4 b.f5 b.f6 b.f7 Ab cb b.f8 t wr HR.out.svc HKL.out HT.out).mono ?_
            rintro r4 w5 ⟨rfl, hb4⟩
            replace HR := Aside0.mk (HR.out.below hb4)
            clear hb4 d0 d1 d2 d3 d4 d5 d6 d7 d8 d9 d10 d11
            rcases HCT.out with ⟨h1, h2⟩ | ⟨h1, h2⟩
            · subst h1
              have HE := Aside0.mk h2
              clear h2
              go_wp2
              go_ret
              exact ⟨by rw [HE.out]; rfl, HR.out.bel⟩
            · subst h1
              have HE : Aside0 (r18_Check.l0 k' l (i + 1) = some r ∧ i + 1 ≤ n) := ⟨h2, HII.out⟩
              have hi2 : i < n := HII.out
              clear h2
              go_wp2
              go_roundg k'
              case measure => exact Nat.lt_succ_self k'
              case rel => exact ⟨i + 1, by (have := HII.out; go_num), HE, ⟨HR.out.bel⟩⟩
      · have HE : Aside0 (r = 0) := ⟨rcheck_fin HI.out.1 (by rw [HN.out]; exact hi)⟩
        have b2 : decide ((i : Int) < (n : Int)) = false := decide_eq_false (by omega)
        have b2' : decide (i < n) = false := decide_eq_false hi
        go_wp2
        go_ret
        exact ⟨by rw [HE.out]; rfl, HB.out⟩
end Go.Proofs.YtnphnhkinjppjaaGreatDoor.Q
end

section
namespace Go.Proofs.YtnphnhkinjppjaaGreatDoor.Q
open Go.RowKit Go.Proofs.YtnphnhkinjppjaaGreatDoorW.PrintWords Go.Proofs.YtnphnhkinjppjaaGreatDoorW.PrintLast Go.Proofs.YtnphnhkinjppjaaGreatDoorW.PrintMore
theorem ev_ite {α : Type} {c : Prop} [Decidable c] {f g : Nat → Option α} {r : α} (h1 : c → Ev f r) (h2 : ¬ c → Ev g r) : Ev (fun k => if c then f k else g k) r := by
  by_cases h : c
  · exact Ev.congr (fun k => if_pos h) (h1 h)
  · exact Ev.congr (fun k => if_neg h) (h2 h)
theorem ev_is {α : Type} {r r' : α} (h : r = r') : Ev (fun _ => some r) r' := h ▸ Ev.now _
theorem ev_to {α : Type} {f : Nat → Option α} {r r' : α} (h : r = r') (e : Ev f r) : Ev f r' := h ▸ e
theorem sv_get {l : List S74} {i : Nat} (h : i < l.length) : rd_T74 l (i : Int) = l[i] := by unfold rd_T74; rw [Int.toNat_natCast, List.getD_eq_getElem?_getD, List.getElem?_eq_getElem h]; rfl
theorem as_get {l : List S36} {i : Nat} (h : i < l.length) : rd_T36 l (i : Int) = l[i] := by unfold rd_T36; rw [Int.toNat_natCast, List.getD_eq_getElem?_getD, List.getElem?_eq_getElem h]; rfl
def svcB (s : S74) : Bool := decide ((s.f0 = 6 ∨ s.f0 = 17) ∧ 0 ≤ s.f1 ∧ s.f1 ≤ 65535 ∧ 0 ≤ s.f2 ∧ s.f2 ≤ 4)
def numB (a : S36) : Bool := decide (1 ≤ a.f2 ∧ a.f2 ≤ 4 ∧ 1 ≤ a.f3 ∧ a.f3 ≤ 5 ∧ 0 ≤ a.f4 ∧ a.f4 ≤ 64 ∧ 1 ≤ a.f5 ∧ a.f5 ≤ 8192 ∧ 0 ≤ a.f7 ∧ a.f7 ≤ 3)
def oneR (a : S36) : Int := if 16 < a.f8.length then 3 else if nameB a.f0.data.toList = true then (if (numB a && a.f8.all svcB) = true then (if vpB a.f1.f0 a.f1.f1 = true then 0 else 2) else 4) else 5
theorem one_l (a : S36) (ha : AW a.f1.f0) (hl : a.f8.length ≤ 1000) : ∀ (d i : Nat), a.f8.length - i = d → i ≤ a.f8.length → Ev (fun k => asset_checkOne.l0 k a.f8 (a.f8.length : Int) (i : Int) a.f0 a.f1.f0.f0 a.f1.f0.f1 a.f1.f0.f2 a.f1.f1 a.f2 a.f3 a.f4 a.f5 a.f6 a.f7 a.f8) (if (a.f8.drop i).all svcB = true then (if vpB a.f1.f0 a.f1.f1 = true then 0 else 2) else 4)
  | 0, i, hd, hi => by
    rw [List.drop_of_length_le (by omega), List.all_nil, if_pos rfl]
    refine Ev.step (f := fun k => if vpB a.f1.f0 a.f1.f1 = true then some (0 : Int) else some 2) (fun k => ?_) ?_
    · rw [asset_checkOne.l0, if_neg (by omega), vp_eq ha, Option.bind_some]
    · exact ev_ite (fun h => ev_is (by rw [if_pos h])) (fun h => ev_is (by rw [if_neg h]))
  | d + 1, i, hd, hi => by
    have h : i < a.f8.length := by omega
    have ih := one_l a ha hl d (i + 1) (by omega) (by omega)
    have e := sv_get h
    rw [List.drop_eq_getElem_cons h, List.all_cons]
    obtain ⟨s, hs⟩ : ∃ s, a.f8[i] = s := ⟨_, rfl⟩
    rw [hs] at e ⊢
    by_cases hb : svcB s = true
    · have hb2 := of_decide_eq_true hb
      rw [hb, Bool.true_and]
      refine Ev.step (fun k => ?_) ih
      rw [asset_checkOne.l0, if_pos (by omega), if_pos (by omega), if_pos (by omega), e]
      rcases hb2.1 with h6 | h17
      · rw [if_pos h6, if_neg (by omega), if_neg (by omega), if_neg (by omega), if_neg (by omega), lx_up (by omega)]
      · rw [if_neg (by omega), if_pos h17, if_neg (by omega), if_neg (by omega), if_neg (by omega), if_neg (by omega), lx_up (by omega)]
    · have hb2 := of_decide_eq_false (Bool.not_eq_true _ ▸ hb)
      rw [show (svcB s && (a.f8.drop (i + 1)).all svcB) = false from by rw [Bool.not_eq_true] at hb; rw [hb, Bool.false_and], if_neg Bool.false_ne_true]
      refine Ev.step (f := fun _ => some 4) (fun k => ?_) (Ev.now _)
      rw [asset_checkOne.l0, if_pos (by omega), if_pos (by omega), if_pos (by omega), e]
      by_cases h6 : s.f0 = 6
      · rw [if_pos h6]
        by_cases h1 : s.f1 < 0
        · rw [if_pos h1]
        · by_cases h2 : s.f1 > 65535
          · rw [if_neg h1, if_pos h2]
          · by_cases h3 : s.f2 < 0
            · rw [if_neg h1, if_neg h2, if_pos h3]
            · rw [if_neg h1, if_neg h2, if_neg h3, if_pos (by omega)]
      · rw [if_neg h6]
        by_cases h17 : s.f0 = 17
        · rw [if_pos h17]
          by_cases h1 : s.f1 < 0
          · rw [if_pos h1]
          · by_cases h2 : s.f1 > 65535
            · rw [if_neg h1, if_pos h2]
            · by_cases h3 : s.f2 < 0
              · rw [if_neg h1, if_neg h2, if_pos h3]
              · rw [if_neg h1, if_neg h2, if_neg h3, if_pos (by omega)]
        · rw [if_neg h17]
theorem one_j (a : S36) (ha : AW a.f1.f0) (hl : a.f8.length ≤ 1000) (bad : Bool) (h : bad = false ↔ (1 ≤ a.f2 ∧ a.f2 ≤ 4 ∧ 1 ≤ a.f3 ∧ a.f3 ≤ 5)) : Ev (fun k => asset_checkOne.j0 k bad a.f0 a.f1.f0.f0 a.f1.f0.f1 a.f1.f0.f2 a.f1.f1 a.f2 a.f3 a.f4 a.f5 a.f6 a.f7 a.f8) (if (numB a && a.f8.all svcB) = true then (if vpB a.f1.f0 a.f1.f1 = true then 0 else 2) else 4) := by
  have hno : numB a = false → (if (numB a && a.f8.all svcB) = true then (if vpB a.f1.f0 a.f1.f1 = true then (0 : Int) else 2) else 4) = 4 := fun e => by rw [e, Bool.false_and, if_neg Bool.false_ne_true]
  refine Ev.step (fun k => by rw [asset_checkOne.j0]) ?_
  refine ev_ite (fun hb => ev_is (hno (decide_eq_false (fun hh => ?_))).symm) fun hb => ?_
  · rw [h.2 ⟨hh.1, hh.2.1, hh.2.2.1, hh.2.2.2.1⟩] at hb; cases hb
  have hq := h.1 (by rw [Bool.not_eq_true] at hb; exact hb)
  refine ev_ite (fun c => ev_is (hno (decide_eq_false (by omega))).symm) fun c1 => ?_
  refine ev_ite (fun c => ev_is (hno (decide_eq_false (by omega))).symm) fun c2 => ?_
  refine ev_ite (fun c => ev_is (hno (decide_eq_false (by omega))).symm) fun c3 => ?_
  refine ev_ite (fun c => ev_is (hno (decide_eq_false (by omega))).symm) fun c4 => ?_
  refine ev_ite (fun c => ev_is (hno (decide_eq_false (by omega))).symm) fun c5 => ?_
  refine ev_ite (fun c => ev_is (hno (decide_eq_false (by omega))).symm) fun c6 => ?_
  have hn : numB a = true := decide_eq_true (by omega)
  rw [hn, Bool.true_and]
  exact one_l a ha hl _ 0 rfl (by omega)
theorem one_ev (a : S36) (ha : AW a.f1.f0) : Ev (fun k => asset_checkOne.f k a.f0 a.f1.f0.f0 a.f1.f0.f1 a.f1.f0.f2 a.f1.f1 a.f2 a.f3 a.f4 a.f5 a.f6 a.f7 a.f8) (oneR a) := by
  unfold asset_checkOne.f oneR
  refine ev_ite (fun h => ev_is (by rw [if_pos (by omega)])) fun h => ?_
  rw [if_neg (show ¬ 16 < a.f8.length from by omega)]
  refine Ev.bind (isName_ev a.f0) ?_
  refine ev_ite (fun hn => ?_) fun hn => ev_is (by rw [if_neg hn])
  rw [if_pos hn]
  refine ev_ite (fun c => one_j a ha (by omega) true ⟨fun e => absurd e (by decide), fun e => absurd e (by omega)⟩) fun c1 => ?_
  refine ev_ite (fun c => one_j a ha (by omega) true ⟨fun e => absurd e (by decide), fun e => absurd e (by omega)⟩) fun c2 => ?_
  refine ev_ite (fun c => one_j a ha (by omega) true ⟨fun e => absurd e (by decide), fun e => absurd e (by omega)⟩) fun c3 => ?_
  exact one_j a ha (by omega) _ (by rw [decide_eq_false_iff_not]; omega)
theorem rng_l (a : S36) (hl : a.f8.length ≤ 1000) : ∀ (d i : Nat), a.f8.length - i = d → i ≤ a.f8.length → Ev (fun k => r18_inRange.l0 k (i : Int) a.f0 a.f1.f0.f0 a.f1.f0.f1 a.f1.f0.f2 a.f1.f1 a.f2 a.f3 a.f4 a.f5 a.f6 a.f7 a.f8) ((a.f8.drop i).all svcB)
  | 0, i, hd, hi => by
    rw [List.drop_of_length_le (by omega), List.all_nil]
    refine Ev.step (f := fun k => some true) (fun k => ?_) (Ev.now _)
    rw [r18_inRange.l0, if_neg (by omega)]
  | d + 1, i, hd, hi => by
    have h : i < a.f8.length := by omega
    have ih := rng_l a hl d (i + 1) (by omega) (by omega)
    have e := sv_get h
    rw [List.drop_eq_getElem_cons h, List.all_cons]
    obtain ⟨s, hs⟩ : ∃ s, a.f8[i] = s := ⟨_, rfl⟩
    rw [hs] at e ⊢
    by_cases hb : svcB s = true
    · have hb2 := of_decide_eq_true hb
      rw [hb, Bool.true_and]
      refine Ev.step (fun k => ?_) ih
      rw [r18_inRange.l0, if_pos (by omega), if_pos (by omega), e]
      rcases hb2.1 with h6 | h17
      · rw [if_pos h6, if_neg (by omega), if_neg (by omega), if_neg (by omega), if_neg (by omega), lx_up (by omega)]
      · rw [if_neg (by omega), if_pos h17, if_neg (by omega), if_neg (by omega), if_neg (by omega), if_neg (by omega), lx_up (by omega)]
    · have hb2 := of_decide_eq_false (Bool.not_eq_true _ ▸ hb)
      rw [show (svcB s && (a.f8.drop (i + 1)).all svcB) = false from by rw [Bool.not_eq_true] at hb; rw [hb, Bool.false_and]]
      refine Ev.step (f := fun _ => some false) (fun k => ?_) (Ev.now _)
      rw [r18_inRange.l0, if_pos (by omega), if_pos (by omega), e]
      by_cases h6 : s.f0 = 6
      · rw [if_pos h6]
        by_cases h1 : s.f1 < 0
        · rw [if_pos h1]
        · by_cases h2 : s.f1 > 65535
          · rw [if_neg h1, if_pos h2]
          · by_cases h3 : s.f2 < 0
            · rw [if_neg h1, if_neg h2, if_pos h3]
            · rw [if_neg h1, if_neg h2, if_neg h3, if_pos (by omega)]
      · rw [if_neg h6]
        by_cases h17 : s.f0 = 17
        · rw [if_pos h17]
          by_cases h1 : s.f1 < 0
          · rw [if_pos h1]
          · by_cases h2 : s.f1 > 65535
            · rw [if_neg h1, if_pos h2]
            · by_cases h3 : s.f2 < 0
              · rw [if_neg h1, if_neg h2, if_pos h3]
              · rw [if_neg h1, if_neg h2, if_neg h3, if_pos (by omega)]
        · rw [if_neg h17]
theorem rng_bad (a : S36) (h : numB a = false) : Ev (fun k => r18_inRange.j0 k true a.f0 a.f1.f0.f0 a.f1.f0.f1 a.f1.f0.f2 a.f1.f1 a.f2 a.f3 a.f4 a.f5 a.f6 a.f7 a.f8) (numB a && a.f8.all svcB) := by
  rw [h, Bool.false_and]
  refine Ev.step (f := fun _ => some false) (fun k => ?_) (Ev.now _)
  rw [r18_inRange.j0, if_pos rfl]
theorem rng_ev (a : S36) (hl : a.f8.length ≤ 1000) : Ev (fun k => r18_inRange.f k a.f0 a.f1.f0.f0 a.f1.f0.f1 a.f1.f0.f2 a.f1.f1 a.f2 a.f3 a.f4 a.f5 a.f6 a.f7 a.f8) (numB a && a.f8.all svcB) := by
  unfold r18_inRange.f
  refine ev_ite (fun c => rng_bad a (decide_eq_false (by omega))) fun c1 => ?_
  refine ev_ite (fun c => rng_bad a (decide_eq_false (by omega))) fun c2 => ?_
  refine ev_ite (fun c => rng_bad a (decide_eq_false (by omega))) fun c3 => ?_
  refine ev_ite (fun c => rng_bad a (decide_eq_false (by omega))) fun c4 => ?_
  refine ev_ite (fun c => rng_bad a (decide_eq_false (by omega))) fun c5 => ?_
  refine ev_ite (fun c => rng_bad a (decide_eq_false (by omega))) fun c6 => ?_
  refine ev_ite (fun c => rng_bad a (decide_eq_false (by omega))) fun c7 => ?_
  refine ev_ite (fun c => rng_bad a (decide_eq_false (by omega))) fun c8 => ?_
  refine ev_ite (fun c => rng_bad a (decide_eq_false (by omega))) fun c9 => ?_
  by_cases c : a.f7 > 3
  · rw [decide_eq_true c]
    exact rng_bad a (decide_eq_false (by omega))
  · rw [decide_eq_false c, show numB a = true from decide_eq_true (by omega), Bool.true_and]
    refine Ev.step (fun k => ?_) (rng_l a hl _ 0 rfl (by omega))
    rw [r18_inRange.j0, if_neg Bool.false_ne_true]
    rfl
def sameS (x y : S74) : Bool := decide (x.f0 = y.f0 ∧ x.f1 = y.f1)
def twR (pre : List S74) : List S74 → Bool
  | [] => false
  | x :: xs => pre.any (sameS x) || twR (pre ++ [x]) xs
theorem take_sv {l : List S74} {i : Nat} (h : i < l.length) : l.take i ++ [l[i]] = l.take (i + 1) := List.take_append_getElem h
theorem tw1 (l : List S74) (hl : l.length ≤ 1000) (i : Nat) (hi : i < l.length) (r : Bool) (hr : Ev (fun k => asset_twice.l0 k l l (l.length : Int) ((i + 1 : Nat) : Int)) r) : ∀ (d j : Nat), i - j = d → j ≤ i → Ev (fun k => asset_twice.l1 k l l (l.length : Int) (i : Int) (l.take i) ((l.take i).length : Int) (j : Int) l[i].f0 l[i].f1 l[i].f2) (((l.take i).drop j).any (sameS l[i]) || r)
  | 0, j, hd, hj => by
    have hlen : (l.take i).length = i := by rw [List.length_take]; omega
    rw [List.drop_of_length_le (by omega), List.any_nil, Bool.false_or]
    refine Ev.step (fun k => ?_) hr
    rw [asset_twice.l1, if_neg (by omega), lx_up (by omega)]
  | d + 1, j, hd, hj => by
    have hlen : (l.take i).length = i := by rw [List.length_take]; omega
    have h : j < (l.take i).length := by omega
    have ih := tw1 l hl i hi r hr d (j + 1) (by omega) (by omega)
    rw [List.drop_eq_getElem_cons h, List.any_cons]
    have e := sv_get h
    obtain ⟨s, hs⟩ : ∃ s, (l.take i)[j] = s := ⟨_, rfl⟩
    rw [hs] at e ⊢
    by_cases hb : sameS l[i] s = true
    · have hb2 := of_decide_eq_true hb
      rw [hb, Bool.true_or, Bool.true_or]
      refine Ev.step (f := fun _ => some true) (fun k => ?_) (Ev.now _)
      rw [asset_twice.l1, if_pos (by omega), if_pos (by omega), if_pos (by omega), e, if_pos hb2.1, if_pos hb2.2]
    · have hb2 := of_decide_eq_false (Bool.not_eq_true _ ▸ hb)
      rw [show sameS l[i] s = false from by simpa using hb, Bool.false_or]
      refine Ev.step (fun k => ?_) ih
      rw [asset_twice.l1, if_pos (by omega), if_pos (by omega), if_pos (by omega), e]
      by_cases h1 : l[i].f0 = s.f0
      · rw [if_pos h1, if_neg (fun h2 => hb2 ⟨h1, h2⟩), lx_up (by omega)]
      · rw [if_neg h1, lx_up (by omega)]
theorem tw0 (l : List S74) (hl : l.length ≤ 1000) : ∀ (d i : Nat), l.length - i = d → i ≤ l.length → Ev (fun k => asset_twice.l0 k l l (l.length : Int) (i : Int)) (twR (l.take i) (l.drop i))
  | 0, i, hd, hi => by
    rw [List.drop_of_length_le (by omega), twR]
    refine Ev.step (f := fun _ => some false) (fun k => ?_) (Ev.now _)
    rw [asset_twice.l0, if_neg (by omega)]
  | d + 1, i, hd, hi => by
    have h : i < l.length := by omega
    have ih := tw0 l hl d (i + 1) (by omega) (by omega)
    rw [List.drop_eq_getElem_cons h, twR, take_sv h]
    have h1 := tw1 l hl i h _ ih _ 0 rfl (by omega)
    rw [List.drop_zero] at h1
    refine Ev.step (fun k => ?_) h1
    rw [asset_twice.l0, if_pos (by omega), if_pos (by omega), if_pos (by omega), if_pos (by omega), Option.bind_some, Int.toNat_natCast, sv_get h]
    rfl
theorem twice_ev (l : List S74) (hl : l.length ≤ 1000) : Ev (fun k => asset_twice.f k l) (twR [] l) := tw0 l hl _ 0 rfl (by omega)
theorem rtw1 (a : S36) (hl : a.f8.length ≤ 1000) (i : Nat) (hi : i < a.f8.length) (r : Bool) (hr : Ev (fun k => r18_twice.l0 k ((i + 1 : Nat) : Int) a.f0 a.f1.f0.f0 a.f1.f0.f1 a.f1.f0.f2 a.f1.f1 a.f2 a.f3 a.f4 a.f5 a.f6 a.f7 a.f8) r) : ∀ (d j : Nat), i - j = d → j ≤ i → Ev (fun k => r18_twice.l1 k (i : Int) (j : Int) a.f0 a.f1.f0.f0 a.f1.f0.f1 a.f1.f0.f2 a.f1.f1 a.f2 a.f3 a.f4 a.f5 a.f6 a.f7 a.f8) (((a.f8.take i).drop j).any (sameS a.f8[i]) || r)
  | 0, j, hd, hj => by
    have hlen : (a.f8.take i).length = i := by rw [List.length_take]; omega
    rw [List.drop_of_length_le (by omega), List.any_nil, Bool.false_or]
    refine Ev.step (fun k => ?_) hr
    rw [r18_twice.l1, if_neg (by omega), lx_up (by omega)]
  | d + 1, j, hd, hj => by
    have hlen : (a.f8.take i).length = i := by rw [List.length_take]; omega
    have h : j < (a.f8.take i).length := by omega
    have hj2 : j < a.f8.length := by omega
    have ih := rtw1 a hl i hi r hr d (j + 1) (by omega) (by omega)
    rw [List.drop_eq_getElem_cons h, List.any_cons, List.getElem_take]
    have e := sv_get hj2
    have e2 := sv_get hi
    obtain ⟨s, hs⟩ : ∃ s, a.f8[j] = s := ⟨_, rfl⟩
    rw [hs] at e ⊢
    by_cases hb : sameS a.f8[i] s = true
    · have hb2 := of_decide_eq_true hb
      rw [hb, Bool.true_or, Bool.true_or]
      refine Ev.step (f := fun _ => some true) (fun k => ?_) (Ev.now _)
      rw [r18_twice.l1, if_pos (by omega), if_pos (by omega), if_pos (by omega), if_pos (by omega), if_pos (by omega), e, e2, if_pos hb2.1, if_pos hb2.2]
    · have hb2 := of_decide_eq_false (Bool.not_eq_true _ ▸ hb)
      rw [show sameS a.f8[i] s = false from by simpa using hb, Bool.false_or]
      refine Ev.step (fun k => ?_) ih
      rw [r18_twice.l1, if_pos (by omega), if_pos (by omega), if_pos (by omega), if_pos (by omega), if_pos (by omega), e, e2]
      by_cases h1 : a.f8[i].f0 = s.f0
      · rw [if_pos h1, if_neg (fun h2 => hb2 ⟨h1, h2⟩), lx_up (by omega)]
      · rw [if_neg h1, lx_up (by omega)]
theorem rtw0 (a : S36) (hl : a.f8.length ≤ 1000) : ∀ (d i : Nat), a.f8.length - i = d → i ≤ a.f8.length → Ev (fun k => r18_twice.l0 k (i : Int) a.f0 a.f1.f0.f0 a.f1.f0.f1 a.f1.f0.f2 a.f1.f1 a.f2 a.f3 a.f4 a.f5 a.f6 a.f7 a.f8) (twR (a.f8.take i) (a.f8.drop i))
  | 0, i, hd, hi => by
    rw [List.drop_of_length_le (by omega), twR]
    refine Ev.step (f := fun _ => some false) (fun k => ?_) (Ev.now _)
    rw [r18_twice.l0, if_neg (by omega)]
  | d + 1, i, hd, hi => by
    have h : i < a.f8.length := by omega
    have ih := rtw0 a hl d (i + 1) (by omega) (by omega)
    rw [List.drop_eq_getElem_cons h, twR, take_sv h]
    have h1 := rtw1 a hl i h _ ih _ 0 rfl (by omega)
    rw [List.drop_zero] at h1
    refine Ev.step (fun k => ?_) h1
    rw [r18_twice.l0, if_pos (by omega)]
    rfl
theorem rtwice_ev (a : S36) (hl : a.f8.length ≤ 1000) : Ev (fun k => r18_twice.f k a.f0 a.f1.f0.f0 a.f1.f0.f1 a.f1.f0.f2 a.f1.f1 a.f2 a.f3 a.f4 a.f5 a.f6 a.f7 a.f8) (twR [] a.f8) := rtw0 a hl _ 0 rfl (by omega)
def bldRen : Go.Shelf.Ren := ⟨fun n => if n = 167 then 147 else Tryz.lays156_ren.f n, fun n => if n = 5 then 5 else Tryz.lays156_ren.t n, Tryz.lays156_ren.g⟩
theorem lays166 : Go.Proofs.Lays.n166 Tryz.prog Tryz.lays156_ren := {
  mixed := by kernel_rfl
  f166 := Tryz.lays156.f166
  f240 := Tryz.lays156.f240
  f276 := Tryz.lays156.f276
  t0 := Tryz.lays156.t0
  a0 := Tryz.lays156.a0
  z0 := Tryz.lays156.z0
  v0 := Tryz.lays156.v0
  t3 := Tryz.lays156.t3
  a3 := Tryz.lays156.a3
  z3 := Tryz.lays156.z3
  v3 := Tryz.lays156.v3
  t4 := Tryz.lays156.t4
  a4 := Tryz.lays156.a4
  z4 := Tryz.lays156.z4
  v4 := Tryz.lays156.v4
  t9 := Tryz.lays156.t9
  a9 := Tryz.lays156.a9
  z9 := Tryz.lays156.z9
  v9 := Tryz.lays156.v9
  t20 := Tryz.lays156.t20
  a20 := Tryz.lays156.a20
  z20 := Tryz.lays156.z20
  v20 := Tryz.lays156.v20
  t37 := Tryz.lays156.t37
  a37 := Tryz.lays156.a37
  z37 := Tryz.lays156.z37
  v37 := Tryz.lays156.v37
  t70 := Tryz.lays156.t70
  a70 := Tryz.lays156.a70
  z70 := Tryz.lays156.z70
  v70 := Tryz.lays156.v70
  t72 := Tryz.lays156.t72
  a72 := Tryz.lays156.a72
  z72 := Tryz.lays156.z72
  v72 := Tryz.lays156.v72
  t75 := Tryz.lays156.t75
  a75 := Tryz.lays156.a75
  z75 := Tryz.lays156.z75
  v75 := Tryz.lays156.v75
  t164 := Tryz.lays156.t164
  a164 := Tryz.lays156.a164
  z164 := Tryz.lays156.z164
  v164 := Tryz.lays156.v164 }
theorem lays167 : Go.Proofs.Lays.n167 Tryz.prog bldRen := {
  mixed := by kernel_rfl
  f167 := Tryz.func147.trans (congrArg some (by kernel_rfl))
  f240 := Tryz.lays156.f240
  f276 := Tryz.lays156.f276
  t0 := Tryz.lays156.t0
  a0 := Tryz.lays156.a0
  z0 := Tryz.lays156.z0
  v0 := Tryz.lays156.v0
  t4 := Tryz.lays156.t4
  a4 := Tryz.lays156.a4
  z4 := Tryz.lays156.z4
  v4 := Tryz.lays156.v4
  t5 := Tryz.underlying5
  a5 := Tryz.isAgg5
  z5 := Tryz.sizeOf5
  v5 := Tryz.zeroValue5
  t9 := Tryz.lays156.t9
  a9 := Tryz.lays156.a9
  z9 := Tryz.lays156.z9
  v9 := Tryz.lays156.v9
  t20 := Tryz.lays156.t20
  a20 := Tryz.lays156.a20
  z20 := Tryz.lays156.z20
  v20 := Tryz.lays156.v20
  t37 := Tryz.lays156.t37
  a37 := Tryz.lays156.a37
  z37 := Tryz.lays156.z37
  v37 := Tryz.lays156.v37
  t70 := Tryz.lays156.t70
  a70 := Tryz.lays156.a70
  z70 := Tryz.lays156.z70
  v70 := Tryz.lays156.v70
  t72 := Tryz.lays156.t72
  a72 := Tryz.lays156.a72
  z72 := Tryz.lays156.z72
  v72 := Tryz.lays156.v72
  t75 := Tryz.lays156.t75
  a75 := Tryz.lays156.a75
  z75 := Tryz.lays156.z75
  v75 := Tryz.lays156.v75
  t164 := Tryz.lays156.t164
  a164 := Tryz.lays156.a164
  z164 := Tryz.lays156.z164
  v164 := Tryz.lays156.v164 }
theorem extra167 : Builder.Extra Tryz.prog bldRen := {
  sizeBuilder := by kernel_rfl
  liesBuilder := by kernel_rfl
  t5 := Tryz.underlying5
  a5 := Tryz.isAgg5
  z5 := Tryz.sizeOf5
  v5 := Tryz.zeroValue5
  infoByte := by kernel_rfl
  cellsByte := by kernel_rfl
  sizeByte := by kernel_rfl
  neB5 := by decide }
abbrev IsBld (B b : Nat) (l : List UInt8) (w : World) : Prop := Lib.IsBuilderF 62 5 B b (Lib.byteCells l) w
theorem bld_new (w : World) : IsBld w.heap.size w.heap.size [] (w.alloc (.cells #[.pointer none, .slice none 0 0] 62)) :=
  .inl ⟨Nat.le_refl _, .slice none 0 0, heap_alloc_new w _, ⟨by simp, .inl ⟨rfl, rfl⟩⟩, by simp [Value.ownBlock]⟩
theorem bld_below {B b : Nat} {l : List UInt8} {w w' : World} (h : IsBld B b l w) (hb : Below w.heap.size w w') : IsBld B b l w' := by
  have hk : ∀ {v : Value} {n : Nat} {xs : List Value}, w.ownsRowF B 5 1 v n xs → w'.ownsRowF B 5 1 v n xs := fun {v n xs} ho => ho.kept (grown_of_below hb none) (by
    by_cases e : v.ownBlock = none
    · exact .inl e
    · exact .inr e)
  rcases h with ⟨h0, v, h1, h2, h3⟩ | ⟨h0, v, h1, h2, h3⟩
  · exact .inl ⟨h0, v, blk_below h1 hb, hk h2, h3⟩
  · exact .inr ⟨h0, v, blk_below h1 hb, hk h2, h3⟩
theorem bld_byte (B b : Nat) (l : List UInt8) (c : UInt8) (w : World) (h : IsBld B b l w) (hl : l.length < 100000000) (hB : B ≤ w.heap.size) :
    Calls Tryz.prog 147 #[.pointer (some ⟨b, 0, none⟩), .int .u8 c.toNat] w fun e w' => e = .returned .nilIface ∧ IsBld B b (l ++ [c]) w' ∧ Below B w w' ∧ Lib.OthersKept 5 (some b) w w' := by
  refine (Any.Builder_WriteByte_k lays167 extra167 B b (Lib.byteCells l) (c.toNat : Int) w h (by rw [Lib.byteCells_length]; omega) hB).mono ?_
  rintro e w' ⟨rfl, h1, h2, h3⟩
  exact ⟨rfl, .inr (by rw [Lib.byteCells_append]; exact h1), h2, h3⟩
theorem bld_str (B b : Nat) (l : List UInt8) (s : ByteArray) (w : World) (h : IsBld B b l w) (hl : l.length + s.size ≤ 100000000) (hB : B ≤ w.heap.size) :
    Calls Tryz.prog 38 #[.pointer (some ⟨b, 0, none⟩), .string s] w fun e w' => e = .returned (.tuple #[.int .i64 s.size, .nilIface]) ∧ IsBld B b (l ++ s.data.toList) w' ∧ Below B w w' ∧ Lib.OthersKept 5 (some b) w w' := by
  refine (Any.Builder_WriteString_k lays166 Tryz.Builder_Extra_156 B b (Lib.byteCells l) s w h (by rw [Lib.byteCells_length]; omega) hB).mono ?_
  rintro e w' ⟨rfl, h1, h2, h3⟩
  exact ⟨rfl, .inr (by rw [Lib.byteCells_append]; exact h1), h2, h3⟩
theorem bld_string (B b : Nat) (l : List UInt8) (w : World) (h : IsBld B b l w) (hB : B ≤ w.heap.size) :
    Calls Tryz.prog 45 #[.pointer (some ⟨b, 0, none⟩)] w fun e w' => e = .returned (.string ⟨l.toArray⟩) ∧ IsBld B b l w' ∧ Below B w w' ∧ Lib.OthersKept 5 (some b) w w' := by
  refine (Tryz.Builder_String_any_k B b l w h hB).mono ?_
  rintro e w' ⟨rfl, h1, h2, h3⟩
  exact ⟨rfl, h1, h2, h3⟩
end Go.Proofs.YtnphnhkinjppjaaGreatDoor.Q
end

section
set_option maxHeartbeats 8000000
set_option maxRecDepth 100000
namespace Go.Proofs.YtnphnhkinjppjaaGreatDoor.Q
open Go.RowKit Go.Proofs.YtnphnhkinjppjaaGreatDoorW.PrintWords Go.Proofs.YtnphnhkinjppjaaGreatDoorW.PrintLast Go.Proofs.YtnphnhkinjppjaaGreatDoorW.PrintMore
attribute [local go_sem] max2_int min2_int max_two min_two max_three min_three max_four min_four
def asset_policies.f  : Option (List ByteArray) := some (([(⟨#[102, 105, 114, 115, 116]⟩ : ByteArray), (⟨#[108, 97, 115, 116]⟩ : ByteArray), (⟨#[98, 115, 100]⟩ : ByteArray), (⟨#[108, 105, 110, 117, 120]⟩ : ByteArray), (⟨#[100, 114, 111, 112]⟩ : ByteArray)] : List ByteArray))
theorem asset_policies.calls  (r : List ByteArray) (w : World) (h : asset_policies.f  = some r) :
 Calls Tryz.prog 43 #[] w fun e w' => ∃ v0_ : Value, e = .returned (v0_) ∧ Kd.R Kd.string 9 w' w.heap.size (fun _ => True) v0_ r ∧ Below w.heap.size w w' := by
 have HB := Aside0.mk (Below.refl w.heap.size w)
 unfold asset_policies.f at h; have H := h
 clear h
 obtain ⟨y137, hy137⟩ : ∃ y_ : List ByteArray, y_ = (([(⟨#[102, 105, 114, 115, 116]⟩ : ByteArray), (⟨#[108, 97, 115, 116]⟩ : ByteArray), (⟨#[98, 115, 100]⟩ : ByteArray), (⟨#[108, 105, 110, 117, 120]⟩ : ByteArray), (⟨#[100, 114, 111, 112]⟩ : ByteArray)] : List ByteArray)) := ⟨_, rfl⟩
 rw [← hy137] at H; try dsimp only [Option.bind_some] at H
 have Ny137 := Aside0.mk hy137; clear hy137
 obtain rfl := Option.some.inj H
 go_enter Tryz.func43, Tryz.ntmps43
 go_wp2_with (first | ((with_reducible refine gate_dst (N := 1) rfl ?_); refine Kd.R_lit Kd.string _ 9 ?hg (N := 1) ?hd (xs := ([(⟨#[102, 105, 114, 115, 116]⟩ : ByteArray), (⟨#[108, 97, 115, 116]⟩ : ByteArray), (⟨#[98, 115, 100]⟩ : ByteArray), (⟨#[108, 105, 110, 117, 120]⟩ : ByteArray), (⟨#[100, 114, 111, 112]⟩ : ByteArray)] : List ByteArray)) (inner := [.string (⟨#[102, 105, 114, 115, 116]⟩ : ByteArray), .string (⟨#[108, 97, 115, 116]⟩ : ByteArray), .string (⟨#[98, 115, 100]⟩ : ByteArray), .string (⟨#[108, 105, 110, 117, 120]⟩ : ByteArray), .string (⟨#[100, 114, 111, 112]⟩ : ByteArray)]) (ok := fun _ => True) (okp := fun _ => True) ?hr ?hp (fun _ hk => hk) trivial (Below.refl _ _) (Nat.le_refl _) (by simp) ?_; (case hd => rfl); (case hg => rfl); (case hr => first | (go_simp; done) | (go_simp; rfl)); (case hp => exact (Reps.one (show Kd.M Kd.string _ _ _ (⟨#[102, 105, 114, 115, 116]⟩ : ByteArray) [.string (⟨#[102, 105, 114, 115, 116]⟩ : ByteArray)] from rfl) (Reps.one (show Kd.M Kd.string _ _ _ (⟨#[108, 97, 115, 116]⟩ : ByteArray) [.string (⟨#[108, 97, 115, 116]⟩ : ByteArray)] from rfl) (Reps.one (show Kd.M Kd.string _ _ _ (⟨#[98, 115, 100]⟩ : ByteArray) [.string (⟨#[98, 115, 100]⟩ : ByteArray)] from rfl) (Reps.one (show Kd.M Kd.string _ _ _ (⟨#[108, 105, 110, 117, 120]⟩ : ByteArray) [.string (⟨#[108, 105, 110, 117, 120]⟩ : ByteArray)] from rfl) (Reps.one (show Kd.M Kd.string _ _ _ (⟨#[100, 114, 111, 112]⟩ : ByteArray) [.string (⟨#[100, 114, 111, 112]⟩ : ByteArray)] from rfl) (Reps.none _ _))))))); intro v138 w1 ho2 hb hg_ hnew_; clear hg_ hnew_; (first | rw [← Ny137.out] at ho2 | (simp only [Int.reduceToNat] at ho2; rw [← Ny137.out] at ho2)); have HO139 := Aside0.mk (Kd.R_lower ho2 (below_size (zB HB))); replace HB := Aside0.mk (below_step (zB HB) hb); clear hb ho2))
 go_ret
 exact ⟨_, by first | rfl | (simp [errW_none, errW_some] <;> rfl) | (simp [*, errW_none, errW_some] <;> rfl), by (with_reducible repeat (first | apply Kd.R_alloc | apply Kd.R_drewN | apply Kd.R_drew)); exact HO139.out, by repeat (first | (with_reducible first | exact HB.out | apply below_alloc | apply pw_below_drewN | apply below_drew1) | exact HB.out)⟩
def asset_apps.f  : Option (List ByteArray) := some (([(⟨#[114, 97, 119]⟩ : ByteArray), (⟨#[104, 116, 116, 112]⟩ : ByteArray), (⟨#[115, 109, 116, 112]⟩ : ByteArray), (⟨#[116, 108, 115]⟩ : ByteArray), (⟨#[100, 110, 115]⟩ : ByteArray)] : List ByteArray))
theorem asset_apps.calls  (r : List ByteArray) (w : World) (h : asset_apps.f  = some r) :
 Calls Tryz.prog 44 #[] w fun e w' => ∃ v0_ : Value, e = .returned (v0_) ∧ Kd.R Kd.string 9 w' w.heap.size (fun _ => True) v0_ r ∧ Below w.heap.size w w' := by
 have HB := Aside0.mk (Below.refl w.heap.size w)
 unfold asset_apps.f at h; have H := h
 clear h
 obtain ⟨y144, hy144⟩ : ∃ y_ : List ByteArray, y_ = (([(⟨#[114, 97, 119]⟩ : ByteArray), (⟨#[104, 116, 116, 112]⟩ : ByteArray), (⟨#[115, 109, 116, 112]⟩ : ByteArray), (⟨#[116, 108, 115]⟩ : ByteArray), (⟨#[100, 110, 115]⟩ : ByteArray)] : List ByteArray)) := ⟨_, rfl⟩
 rw [← hy144] at H; try dsimp only [Option.bind_some] at H
 have Ny144 := Aside0.mk hy144; clear hy144
 obtain rfl := Option.some.inj H
 go_enter Tryz.func44, Tryz.ntmps44
 go_wp2_with (first | ((with_reducible refine gate_dst (N := 1) rfl ?_); refine Kd.R_lit Kd.string _ 9 ?hg (N := 1) ?hd (xs := ([(⟨#[114, 97, 119]⟩ : ByteArray), (⟨#[104, 116, 116, 112]⟩ : ByteArray), (⟨#[115, 109, 116, 112]⟩ : ByteArray), (⟨#[116, 108, 115]⟩ : ByteArray), (⟨#[100, 110, 115]⟩ : ByteArray)] : List ByteArray)) (inner := [.string (⟨#[114, 97, 119]⟩ : ByteArray), .string (⟨#[104, 116, 116, 112]⟩ : ByteArray), .string (⟨#[115, 109, 116, 112]⟩ : ByteArray), .string (⟨#[116, 108, 115]⟩ : ByteArray), .string (⟨#[100, 110, 115]⟩ : ByteArray)]) (ok := fun _ => True) (okp := fun _ => True) ?hr ?hp (fun _ hk => hk) trivial (Below.refl _ _) (Nat.le_refl _) (by simp) ?_; (case hd => rfl); (case hg => rfl); (case hr => first | (go_simp; done) | (go_simp; rfl)); (case hp => exact (Reps.one (show Kd.M Kd.string _ _ _ (⟨#[114, 97, 119]⟩ : ByteArray) [.string (⟨#[114, 97, 119]⟩ : ByteArray)] from rfl) (Reps.one (show Kd.M Kd.string _ _ _ (⟨#[104, 116, 116, 112]⟩ : ByteArray) [.string (⟨#[104, 116, 116, 112]⟩ : ByteArray)] from rfl) (Reps.one (show Kd.M Kd.string _ _ _ (⟨#[115, 109, 116, 112]⟩ : ByteArray) [.string (⟨#[115, 109, 116, 112]⟩ : ByteArray)] from rfl) (Reps.one (show Kd.M Kd.string _ _ _ (⟨#[116, 108, 115]⟩ : ByteArray) [.string (⟨#[116, 108, 115]⟩ : ByteArray)] from rfl) (Reps.one (show Kd.M Kd.string _ _ _ (⟨#[100, 110, 115]⟩ : ByteArray) [.string (⟨#[100, 110, 115]⟩ : ByteArray)] from rfl) (Reps.none _ _))))))); intro v145 w1 ho2 hb hg_ hnew_; clear hg_ hnew_; (first | rw [← Ny144.out] at ho2 | (simp only [Int.reduceToNat] at ho2; rw [← Ny144.out] at ho2)); have HO146 := Aside0.mk (Kd.R_lower ho2 (below_size (zB HB))); replace HB := Aside0.mk (below_step (zB HB) hb); clear hb ho2))
 go_ret
 exact ⟨_, by first | rfl | (simp [errW_none, errW_some] <;> rfl) | (simp [*, errW_none, errW_some] <;> rfl), by (with_reducible repeat (first | apply Kd.R_alloc | apply Kd.R_drewN | apply Kd.R_drew)); exact HO146.out, by repeat (first | (with_reducible first | exact HB.out | apply below_alloc | apply pw_below_drewN | apply below_drew1) | exact HB.out)⟩
end Go.Proofs.YtnphnhkinjppjaaGreatDoor.Q
end

section
set_option maxHeartbeats 8000000
set_option maxRecDepth 100000
namespace Go.Proofs.YtnphnhkinjppjaaGreatDoor.Q
open Go.RowKit Go.Proofs.YtnphnhkinjppjaaGreatDoorW.PrintWords Go.Proofs.YtnphnhkinjppjaaGreatDoorW.PrintLast Go.Proofs.YtnphnhkinjppjaaGreatDoorW.PrintMore
structure FmtI (w W : World) (b : Nat) (out : List UInt8) : Prop where
  bld : IsBld w.heap.size b out W
  bel : Below w.heap.size w W
  lt : b < W.heap.size
theorem FmtI.below {w W W1 : World} {b : Nat} {out : List UInt8} (h : FmtI w W b out) (hb : Below W.heap.size W W1) : FmtI w W1 b out := ⟨bld_below h.bld hb, below_then h.bel h.bel.size hb, Nat.lt_of_lt_of_le h.lt hb.size⟩
theorem others_below {e : TypeId} {b : Option Nat} {W W1 : World} (hb : Below W.heap.size W W1) : Lib.OthersKept e b W W1 := fun k o hk _ _ => blk_below hk hb
theorem FmtI.write {w W W1 : World} {b : Nat} {out : List UInt8} {s : ByteArray} (h : FmtI w W b out) (h1 : IsBld w.heap.size b (out ++ s.data.toList) W1) (h2 : Below w.heap.size W W1) : FmtI w W1 b (out ++ s.data.toList) := ⟨h1, h.bel.trans h2, Nat.lt_of_lt_of_le h.lt h2.size⟩
def polList : List ByteArray := [⟨#[102, 105, 114, 115, 116]⟩, ⟨#[108, 97, 115, 116]⟩, ⟨#[98, 115, 100]⟩, ⟨#[108, 105, 110, 117, 120]⟩, ⟨#[100, 114, 111, 112]⟩]
def sp : ByteArray := ⟨#[32]⟩
def namePart (word : ByteArray) (n : Int) : List UInt8 := if n = 1 then [] else (sp ++ word ++ sp ++ rdOf ByteArray.empty polList (n - 1)).data.toList
theorem name_walk (w W : World) (b : Nat) (out : List UInt8) (word : ByteArray) (n : Int) (h : FmtI w W b out) (hw : word.size ≤ 100) (hl : out.length ≤ 10000000) (h1 : 1 ≤ n) (h5 : n ≤ 5) :
    Calls Tryz.prog 42 #[.string word, .int .i64 n, .pointer (some ⟨b, 0, none⟩)] W fun e w' => e = .returned (.tuple #[]) ∧ FmtI w w' b (out ++ namePart word n) ∧ Lib.OthersKept 5 (some b) W w' := by
  have H := Aside0.mk h
  have HL := Aside0.mk hl
  clear h hl
  by_cases hn : n = 1
  · have HE : Aside0 (namePart word n = []) := ⟨if_pos hn⟩
    have b1 : (n != 1) = false := by rw [hn]; rfl
    clear hn
    go_enter Tryz.func42, Tryz.ntmps42
    go_wp2
    go_end0
    exact ⟨rfl, by rw [HE.out, List.append_nil]; exact H.out, Lib.OthersKept.refl _ _ _⟩
  · have HE : Aside0 (namePart word n = (sp ++ word ++ sp ++ rdOf ByteArray.empty polList (n - 1)).data.toList) := ⟨if_neg hn⟩
    have b1 : (n != 1) = true := bne_iff_ne.mpr hn
    clear hn
    go_enter Tryz.func42, Tryz.ntmps42
    go_wp2_with fail
    refine (asset_policies.calls polList W rfl).mono ?_
    rintro e w2 ⟨v, rfl, ho, hb⟩
    obtain ⟨A1, c1, hv⟩ := Kd.R_slice ho
    subst hv
    obtain ⟨ad, ha, hx⟩ := Kd.at_string (Kd.R_reads' ho).2.2 (n - 1) (by omega) (by show n - 1 < (5 : Nat); omega)
    subst ha
    have HO := Aside0.mk (others_below (e := 5) (b := some b) hb)
    have H2 := Aside0.mk (H.out.below hb)
    clear ho hb
    have hps : (rdOf ByteArray.empty polList (n - 1)).size ≤ 10 := by
      have hns : n = 1 ∨ n = 2 ∨ n = 3 ∨ n = 4 ∨ n = 5 := by omega
      rcases hns with rfl | rfl | rfl | rfl | rfl <;> decide
    obtain ⟨nm, hnm⟩ : ∃ x, rdOf ByteArray.empty polList (n - 1) = x := ⟨_, rfl⟩
    rw [hnm] at hx hps
    have HNM := Aside0.mk hnm
    clear hnm
    rw [show (n - 1).toNat = n.toNat - 1 from by omega] at hx
    have h5l : polList.length = 5 := rfl
    rw [h5l]
    have p1 : 0 ≤ n - 1 := by omega
    have p2 : n - 1 < 5 := by omega
    go_wp2_with fail
    refine (bld_str w.heap.size b out (sp ++ word ++ sp ++ nm) w2 H2.out.bld (by rw [ByteArray.size_append, ByteArray.size_append, ByteArray.size_append]; have := HL.out; have : sp.size = 1 := rfl; omega) H2.out.bel.size).mono ?_
    rintro e w3 ⟨rfl, hb1, hb2, hb3⟩
    have H3 := Aside0.mk (H2.out.write hb1 hb2)
    have HO3 := Aside0.mk (HO.out.trans hb3)
    clear hb1 hb2 hb3 hx p1 p2 hps h5l
    go_wp2
    go_end0
    exact ⟨rfl, by rw [HE.out, HNM.out]; exact H3.out, HO3.out⟩
theorem itoa_size {n : Int} (h : 0 ≤ n) (h2 : n ≤ 100000) : (⟨(Lib.itoa n).toArray⟩ : ByteArray).size ≤ 30 := by
  show (Lib.itoa n).toArray.size ≤ 30
  simp only [List.size_toArray]
  exact Nat.le_trans (Lib.itoa_length_le n (by omega) (by omega)) (by decide)
def numPart (word : ByteArray) (n usual : Int) : List UInt8 := if n = usual then [] else (sp ++ word ++ sp ++ ⟨(Lib.itoa n).toArray⟩).data.toList
theorem number_walk (w W : World) (b : Nat) (out : List UInt8) (word : ByteArray) (n usual : Int) (h : FmtI w W b out) (hW : WOK w) (hw : word.size ≤ 100) (hl : out.length ≤ 10000000) (h1 : 0 ≤ n) (h5 : n ≤ 100000) :
    Calls Tryz.prog 40 #[.string word, .int .i64 n, .int .i64 usual, .pointer (some ⟨b, 0, none⟩)] W fun e w' => e = .returned (.tuple #[]) ∧ FmtI w w' b (out ++ numPart word n usual) ∧ Lib.OthersKept 5 (some b) W w' := by
  have H := Aside0.mk h
  have HL := Aside0.mk hl
  have HW := Aside0.mk (hW.below h.bel)
  clear h hl
  by_cases hn : n = usual
  · have HE : Aside0 (numPart word n usual = []) := ⟨if_pos hn⟩
    have b1 : (n != usual) = false := by rw [hn]; simp
    clear hn
    go_enter Tryz.func40, Tryz.ntmps40
    go_wp2
    go_end0
    exact ⟨rfl, by rw [HE.out, List.append_nil]; exact H.out, Lib.OthersKept.refl _ _ _⟩
  · have HE : Aside0 (numPart word n usual = (sp ++ word ++ sp ++ ⟨(Lib.itoa n).toArray⟩).data.toList) := ⟨if_neg hn⟩
    have b1 : (n != usual) = true := bne_iff_ne.mpr hn
    have hps := itoa_size (n := n) (by omega) (by omega)
    have hit : strconv_Itoa.f n = some ⟨(Lib.itoa n).toArray⟩ := if_pos ⟨by omega, by omega⟩
    have HIT := Aside0.mk hit
    obtain ⟨nm, hnm⟩ : ∃ x, (⟨(Lib.itoa n).toArray⟩ : ByteArray) = x := ⟨_, rfl⟩
    rw [hnm] at hps HIT HE
    clear hn hit hnm
    go_enter Tryz.func40, Tryz.ntmps40
    go_wp2_with fail
    refine (strconv_Itoa.calls n nm W HIT.out HW.out).mono ?_
    rintro e w2 ⟨rfl, hb⟩
    have HO := Aside0.mk (others_below (e := 5) (b := some b) hb)
    have H2 := Aside0.mk (H.out.below hb)
    clear hb
    go_wp2_with fail
    refine (bld_str w.heap.size b out (sp ++ word ++ sp ++ nm) w2 H2.out.bld (by rw [ByteArray.size_append, ByteArray.size_append, ByteArray.size_append]; have := HL.out; have : sp.size = 1 := rfl; omega) H2.out.bel.size).mono ?_
    rintro e w3 ⟨rfl, hb1, hb2, hb3⟩
    have H3 := Aside0.mk (H2.out.write hb1 hb2)
    have HO3 := Aside0.mk (HO.out.trans hb3)
    clear hb1 hb2 hb3 hps
    go_wp2
    go_end0
    exact ⟨rfl, by rw [HE.out]; exact H3.out, HO3.out⟩
def appList : List ByteArray := [⟨#[114, 97, 119]⟩, ⟨#[104, 116, 116, 112]⟩, ⟨#[115, 109, 116, 112]⟩, ⟨#[116, 108, 115]⟩, ⟨#[100, 110, 115]⟩]
def bHost5 : ByteArray := ⟨#[104, 111, 115, 116, 32]⟩
def bSvc9 : ByteArray := ⟨#[32, 115, 101, 114, 118, 105, 99, 101, 32]⟩
def svcPart (s : S74) : List UInt8 := (bSvc9 ++ (if s.f0 = 17 then ⟨#[117, 100, 112]⟩ else ⟨#[116, 99, 112]⟩) ++ sp ++ ⟨(Lib.itoa s.f1).toArray⟩ ++ sp ++ rdOf ByteArray.empty appList s.f2).data.toList
def headPart (A : S36) (fp : ByteArray) : List UInt8 := (bHost5 ++ A.f0 ++ sp ++ fp).data.toList
def linePart (A : S36) (fp : ByteArray) : List UInt8 :=
  headPart A fp ++ namePart ⟨#[112, 111, 108, 105, 99, 121]⟩ A.f2 ++ namePart ⟨#[102, 114, 97, 103]⟩ A.f3 ++ numPart ⟨#[104, 111, 112, 115]⟩ A.f4 0 ++ numPart ⟨#[119, 105, 110, 100, 111, 119]⟩ A.f5 8192 ++ (if A.f6 = true then [32, 115, 116, 97, 109, 112, 115] else []) ++ numPart ⟨#[118, 97, 108, 117, 101]⟩ A.f7 1 ++ (A.f8.map svcPart).flatten ++ [59, 10]
def fineB (A : S36) : Bool := decide (A.f0.size ≤ 100) && decide (1 ≤ A.f2) && decide (A.f2 ≤ 5) && decide (1 ≤ A.f3) && decide (A.f3 ≤ 5) && decide (0 ≤ A.f4) && decide (A.f4 ≤ 100000) && decide (0 ≤ A.f5) && decide (A.f5 ≤ 100000) && decide (0 ≤ A.f7) && decide (A.f7 ≤ 100000) && decide (A.f8.length ≤ 100) && A.f8.all fun s => decide (0 ≤ s.f1) && decide (s.f1 ≤ 100000) && decide (0 ≤ s.f2) && decide (s.f2 ≤ 4)
structure FineA (A : S36) : Prop where
  f0 : A.f0.size ≤ 100
  f2 : 1 ≤ A.f2 ∧ A.f2 ≤ 5
  f3 : 1 ≤ A.f3 ∧ A.f3 ≤ 5
  f4 : 0 ≤ A.f4 ∧ A.f4 ≤ 100000
  f5 : 0 ≤ A.f5 ∧ A.f5 ≤ 100000
  f7 : 0 ≤ A.f7 ∧ A.f7 ≤ 100000
  f8 : A.f8.length ≤ 100
  sv : ∀ s ∈ A.f8, 0 ≤ s.f1 ∧ s.f1 ≤ 100000 ∧ 0 ≤ s.f2 ∧ s.f2 ≤ 4
theorem fine_of {A : S36} (h : fineB A = true) : FineA A := by
  unfold fineB at h
  simp only [Bool.and_eq_true, decide_eq_true_eq, List.all_eq_true] at h
  obtain ⟨⟨⟨⟨⟨⟨⟨⟨⟨⟨⟨⟨h0, h1⟩, h2⟩, h3⟩, h4⟩, h5⟩, h6⟩, h7⟩, h8⟩, h9⟩, h10⟩, h11⟩, h12⟩ := h
  exact ⟨h0, ⟨h1, h2⟩, ⟨h3, h4⟩, ⟨h5, h6⟩, ⟨h7, h8⟩, ⟨h9, h10⟩, h11, fun s hs => by obtain ⟨⟨⟨a, b⟩, c⟩, d⟩ := h12 s hs; exact ⟨a, b, c, d⟩⟩
def asset_Format.l0 : Nat → List S36 → Nat → List UInt8 → Option (List UInt8)
  | 0, _, _, _ => none
  | k + 1, l, i, out =>
    if i < l.length then
      if fineB (rd_T36 l (i : Int)) = true then
        (address_FormatPrefix.f (rd_T36 l (i : Int)).f1.f0.f0 (rd_T36 l (i : Int)).f1.f0.f1 (rd_T36 l (i : Int)).f1.f0.f2 (rd_T36 l (i : Int)).f1.f1).bind fun fp =>
          if fp.size ≤ 1000 then asset_Format.l0 k l (i + 1) (out ++ linePart (rd_T36 l (i : Int)) fp) else none
      else none
    else some out
def asset_Format.f (k : Nat) (l : List S36) : Option ByteArray := (asset_Check.f k l).bind fun c => if c = 0 then (if l.length ≤ 100 then (asset_Format.l0 k l 0 []).bind fun out => some ⟨out.toArray⟩ else none) else some ⟨#[]⟩
theorem asset_Format.mono_l : ∀ (k : Nat) (l : List S36) (i : Nat) (out : List UInt8), LeO (asset_Format.l0 k l i out) (asset_Format.l0 (k + 1) l i out) := by
  intro k
  induction k with
  | zero => intro l i out; exact LeO.none _
  | succ k ih =>
    intro l i out
    rw [asset_Format.l0, asset_Format.l0]
    exact LeO.ite (LeO.ite (LeO.bind (LeO.refl _) fun fp => LeO.ite (ih _ _ _) (LeO.refl _)) (LeO.refl _)) (LeO.refl _)
theorem asset_Format.mono : ∀ l k, LeO (asset_Format.f k l) (asset_Format.f (k + 1) l) := fun l k => LeO.bind (asset_Check.mono _ _) fun c => LeO.ite (LeO.ite (LeO.bind (asset_Format.mono_l _ _ _ _) fun out => LeO.refl _) (LeO.refl _)) (LeO.refl _)
theorem name_size (w : ByteArray) (n : Int) (hw : w.size ≤ 100) (h1 : 1 ≤ n) (h5 : n ≤ 5) : (namePart w n).length ≤ 200 := by
  have hps : (rdOf ByteArray.empty polList (n - 1)).size ≤ 10 := by
    have hns : n = 1 ∨ n = 2 ∨ n = 3 ∨ n = 4 ∨ n = 5 := by omega
    rcases hns with rfl | rfl | rfl | rfl | rfl <;> decide
  unfold namePart
  split
  · simp
  · rw [data_length, ByteArray.size_append, ByteArray.size_append, ByteArray.size_append]
    have : sp.size = 1 := rfl
    omega
theorem num_size (w : ByteArray) (n u : Int) (hw : w.size ≤ 100) (h1 : 0 ≤ n) (h5 : n ≤ 100000) : (numPart w n u).length ≤ 200 := by
  have hps := itoa_size h1 h5
  unfold numPart
  split
  · simp
  · rw [data_length, ByteArray.size_append, ByteArray.size_append, ByteArray.size_append]
    have : sp.size = 1 := rfl
    omega
theorem format_on {k : Nat} {l : List S36} {i : Nat} {out o : List UInt8} (h : asset_Format.l0 k l i out = some o) (hi : i < l.length) {A : S36} (hA : rd_T36 l (i : Int) = A) :
    ∃ k' fp, k = k' + 1 ∧ FineA A ∧ address_FormatPrefix.f A.f1.f0.f0 A.f1.f0.f1 A.f1.f0.f2 A.f1.f1 = some fp ∧ fp.size ≤ 1000 ∧ asset_Format.l0 k' l (i + 1) (out ++ linePart A fp) = some o := by
  subst hA
  cases k with
  | zero => cases h
  | succ k =>
    rw [asset_Format.l0, if_pos hi] at h
    split at h
    · rename_i hf
      obtain ⟨fp, h1, h2⟩ := Option.bind_eq_some_iff.mp h
      split at h2
      · rename_i hs
        exact ⟨k, fp, rfl, fine_of hf, h1, hs, h2⟩
      · cases h2
    · cases h
theorem format_fin {k : Nat} {l : List S36} {i : Nat} {out o : List UInt8} (h : asset_Format.l0 k l i out = some o) (hi : ¬ i < l.length) : out = o := by
  cases k with
  | zero => cases h
  | succ k => rw [asset_Format.l0, if_neg hi] at h; exact Option.some.inj h
theorem app_size {n : Int} (h0 : 0 ≤ n) (h4 : n ≤ 4) : (rdOf ByteArray.empty appList n).size ≤ 10 := by
  have hns : n = 0 ∨ n = 1 ∨ n = 2 ∨ n = 3 ∨ n = 4 := by omega
  rcases hns with rfl | rfl | rfl | rfl | rfl <;> decide
theorem pro_size (n : Int) : ((if n = 17 then ⟨#[117, 100, 112]⟩ else ⟨#[116, 99, 112]⟩ : ByteArray)).size = 3 := by split <;> rfl
theorem svc_size {s : S74} (h : 0 ≤ s.f1 ∧ s.f1 ≤ 100000 ∧ 0 ≤ s.f2 ∧ s.f2 ≤ 4) : (svcPart s).length ≤ 100 := by
  have h1 := itoa_size h.1 h.2.1
  have h2 := app_size h.2.2.1 h.2.2.2
  have h3 := pro_size s.f0
  have h4 : bSvc9.size = 9 := rfl
  have h5 : sp.size = 1 := rfl
  rw [svcPart, data_length, ByteArray.size_append, ByteArray.size_append, ByteArray.size_append, ByteArray.size_append, ByteArray.size_append]
  omega
theorem svcs_size : ∀ (l : List S74), (∀ s ∈ l, 0 ≤ s.f1 ∧ s.f1 ≤ 100000 ∧ 0 ≤ s.f2 ∧ s.f2 ≤ 4) → ((l.map svcPart).flatten).length ≤ 100 * l.length
  | [], _ => by simp
  | s :: l, h => by
    have h1 := svc_size (h s (List.mem_cons_self ..))
    have h2 := svcs_size l (fun x hx => h x (List.mem_cons_of_mem _ hx))
    rw [List.map_cons, List.flatten_cons, List.length_append, List.length_cons]
    omega
theorem line_size {A : S36} {fp : ByteArray} (h : FineA A) (hf : fp.size ≤ 1000) : (linePart A fp).length ≤ 30000 := by
  have h1 := name_size ⟨#[112, 111, 108, 105, 99, 121]⟩ A.f2 (by decide) h.f2.1 h.f2.2
  have h2 := name_size ⟨#[102, 114, 97, 103]⟩ A.f3 (by decide) h.f3.1 h.f3.2
  have h3 := num_size ⟨#[104, 111, 112, 115]⟩ A.f4 0 (by decide) h.f4.1 h.f4.2
  have h4 := num_size ⟨#[119, 105, 110, 100, 111, 119]⟩ A.f5 8192 (by decide) h.f5.1 h.f5.2
  have h5 := num_size ⟨#[118, 97, 108, 117, 101]⟩ A.f7 1 (by decide) h.f7.1 h.f7.2
  have h6 := svcs_size A.f8 h.sv
  have h7 : (if A.f6 = true then [32, 115, 116, 97, 109, 112, 115] else [] : List UInt8).length ≤ 7 := by split <;> decide
  have h8 : (headPart A fp).length ≤ 1200 := by
    rw [headPart, data_length, ByteArray.size_append, ByteArray.size_append, ByteArray.size_append]
    have := h.f0; have : sp.size = 1 := rfl; have : bHost5.size = 5 := rfl; omega
  have h9 := h.f8
  have h10 : ([59, 10] : List UInt8).length = 2 := rfl
  unfold linePart
  simp only [List.length_append] at *
  omega
theorem st_size (b : Bool) : (if b = true then [32, 115, 116, 97, 109, 112, 115] else [] : List UInt8).length ≤ 7 := by split <;> decide
theorem svc_len {pr nm ap : ByteArray} {x : Nat} (h : pr.size = 3 ∧ nm.size ≤ 30 ∧ ap.size ≤ 10) (hl : x ≤ 3013100) : x + (bSvc9 ++ pr ++ sp ++ nm ++ sp ++ ap).size ≤ 100000000 := by
  rw [ByteArray.size_append, ByteArray.size_append, ByteArray.size_append, ByteArray.size_append, ByteArray.size_append]
  have h4 : bSvc9.size = 9 := rfl
  have h5 : sp.size = 1 := rfl
  omega
theorem svc_mem {l : List S74} {j : Nat} (h : j < l.length) : rd_T74 l (j : Int) ∈ l := by
  have : rd_T74 l (j : Int) = l[j] := by unfold rd_T74; rw [Int.toNat_natCast, List.getD_eq_getElem?_getD, List.getElem?_eq_getElem h]; rfl
  rw [this]; exact List.getElem_mem h
theorem svc_take {l : List S74} {j : Nat} (h : j < l.length) : ((l.take (j + 1)).map svcPart).flatten = ((l.take j).map svcPart).flatten ++ svcPart (rd_T74 l (j : Int)) := by
  have : rd_T74 l (j : Int) = l[j] := by unfold rd_T74; rw [Int.toNat_natCast, List.getD_eq_getElem?_getD, List.getElem?_eq_getElem h]; rfl
  rw [this, ← List.take_append_getElem h, List.map_append, List.flatten_append]
  simp
theorem keepS {b ga : Nat} {v : Array Value} {w w' : World} (h : w.heap[ga]? = some (.cells v 74 (0, 0))) (hb : ga ≠ b) (ho : Lib.OthersKept 5 (some b) w w') : w'.heap[ga]? = some (.cells v 74 (0, 0)) :=
  ho ga _ h (fun e => hb (Option.some.inj e)) (fun c fz e => by injection e with e1 e2 e3; exact absurd e2 (by decide))
theorem keepA {b ga : Nat} {v : Array Value} {w w' : World} (h : w.heap[ga]? = some (.cells v 36 (0, 0))) (hb : ga ≠ b) (ho : Lib.OthersKept 5 (some b) w w') : w'.heap[ga]? = some (.cells v 36 (0, 0)) :=
  ho ga _ h (fun e => hb (Option.some.inj e)) (fun c fz e => by injection e with e1 e2 e3; exact absurd e2 (by decide))
theorem asset_Format.calls (k : Nat) (A : Option Addr) (c : Nat) (l : List S36) (r : ByteArray) (w : World) (hC : Kd.C k36 w A l.length l) (hc : l.length ≤ c) (h : asset_Format.f k l = some r) (hW_ : WOK w) :
    Calls Tryz.prog 14 #[.slice A l.length c] w fun e w' => e = .returned (.string r) ∧ Below w.heap.size w w' := by
  have hu := Tryz.underlying36
  have hu33 := Tryz.underlying33
  have HC := Aside0.mk hC
  have HCC := Aside0.mk hc
  have HW0 := Aside0.mk hW_
  obtain ⟨n, hn⟩ : ∃ n, l.length = n := ⟨_, rfl⟩
  obtain ⟨cv, hch, hr⟩ := Option.bind_eq_some_iff.mp h
  have HCH := Aside0.mk hch
  have HCK := Aside0.mk (asset_Check.calls k A c l cv w hC hc hch)
  clear h hch hC hc hW_
  rw [hn] at HCK ⊢
  have HN := Aside0.mk hn
  by_cases hz : cv = 0
  · rw [if_pos hz] at hr
    subst hz
    by_cases h100 : l.length ≤ 100
    · rw [if_pos h100] at hr
      obtain ⟨out, ho, hr2⟩ := Option.bind_eq_some_iff.mp hr
      have hr3 := Option.some.inj hr2
      subst hr3
      have HO := Aside0.mk ho
      have H100 : Aside0 (n ≤ 100) := ⟨by omega⟩
      clear hr hr2 ho h100 hn
      go_enter Tryz.func14, Tryz.ntmps14
      go_wp2_with fail
      refine HCK.out.mono ?_
      rintro e w2 ⟨rfl, hb2⟩
      have HB2 := Aside0.mk hb2
      clear hb2
      go_upto_region 4 with (fail)
      have HF : Aside0 (FmtI w2 (w2.alloc (.cells #[.pointer none, .slice none 0 0] 62)) w2.heap.size []) := ⟨bld_new w2, below_alloc (Below.refl _ _) _, by show _ < (w2.heap.push _).size; rw [Array.size_push]; exact Nat.lt_succ_self _⟩
      obtain ⟨b, hb⟩ : ∃ x, w2.heap.size = x := ⟨_, rfl⟩
      simp only [hb] at HF ⊢
      have HBB := Aside0.mk hb
      clear hb
      generalize w2.alloc (.cells #[.pointer none, .slice none 0 0] 62) = W0 at HF ⊢
      go_upto_region 5 with (fail)
      go_loopg [16] k (fun gg v16 wr => ∃ (i : Nat) (o : List UInt8), v16 = .int .i64 (i : Int) ∧ Aside0 (asset_Format.l0 gg l i o = some out ∧ i ≤ n ∧ o.length ≤ 30000 * i) ∧ Aside0 (FmtI w2 wr b o))
      case atStart => exact ⟨0, [], rfl, ⟨HO.out, by omega, by simp⟩, HF⟩
      case round =>
        clear HO HF W0
        obtain ⟨i, o, rfl, HI, HF⟩ := hrel
        have HB := Aside0.mk (below_then HB2.out HB2.out.size HF.out.bel)
        by_cases hi : i < n
        · have b2 : decide ((i : Int) < (n : Int)) = true := decide_eq_true (by omega)
          have b2' : decide (i < n) = true := decide_eq_true hi
          obtain ⟨ad, Ab, cb, rfl, k0, k1, k2, k3, k4, k5, k6, k7, k8, k9, k10, k11, kl, kc⟩ := at_T36 HC.out (i : Int) (by omega) (by rw [HN.out]; omega)
          replace k0 := pw_cell_below HB.out k0
          replace k1 := pw_cell_below HB.out k1
          replace k2 := pw_cell_below HB.out k2
          replace k3 := pw_cell_below HB.out k3
          replace k4 := pw_cell_below HB.out k4
          replace k5 := pw_cell_below HB.out k5
          replace k6 := pw_cell_below HB.out k6
          replace k7 := pw_cell_below HB.out k7
          replace k8 := pw_cell_below HB.out k8
          replace k9 := pw_cell_below HB.out k9
          replace k10 := pw_cell_below HB.out k10
          replace k11 := pw_cell_below HB.out k11
          simp only [Int.toNat_natCast] at k0 k1 k2 k3 k4 k5 k6 k7 k8 k9 k10 k11
          obtain ⟨a, ha⟩ : ∃ a, rd_T36 l (i : Int) = a := ⟨_, rfl⟩
          obtain ⟨k', fp, hk', hfine, hfp, hfs, hnext⟩ := format_on HI.out.1 (by rw [HN.out]; exact hi) ha
          rw [ha] at k0 k1 k2 k3 k4 k5 k6 k7 k8 k9 k10 k11 kl kc
          subst hk'
          have HFN := Aside0.mk hfine
          have HFP := Aside0.mk hfp
          have HFS := Aside0.mk hfs
          have HNX := Aside0.mk hnext
          have HKL := Aside0.mk kl
          have HKC0 := Aside0.mk kc
          have HKC := Aside0.mk (Kd.C_below kc HB.out)
          have HII := Aside0.mk hi
          have HOL : Aside0 (o.length ≤ 3000000) := ⟨by have := HI.out.2.2; have := HI.out.2.1; have := H100.out; omega⟩
          have HIL : Aside0 (o.length ≤ 30000 * i) := ⟨HI.out.2.2⟩
          have b3 : n ≤ 1000000 := by have := H100.out; omega
          clear kl kc hfine hfp hfs hnext ha HI
          go_upto_region 7 with (fail)
          obtain ⟨ga, hga⟩ : ∃ x, wr.heap.size = x := ⟨_, rfl⟩
          have HA : Aside0 ((wr.alloc (.cells (asC a (.slice Ab a.f8.length cb)) 36)).heap[wr.heap.size]? = some (.cells (asC a (.slice Ab a.f8.length cb)) 36 (0, 0))) := ⟨heap_alloc_new _ _⟩
          rw [hga] at HA
          simp only [hga]
          have HGA : Aside0 (ga ≠ b ∧ w2.heap.size ≤ ga) := ⟨by have := HF.out.lt; omega, by have := HF.out.bel.size; omega⟩
          clear hga k0 k1 k2 k3 k4 k5 k6 k7 k8 k9 k10 k11
          replace HKC := Aside0.mk (Kd.C_below HKC.out (below_alloc (Below.refl _ _) (.cells (asC a (.slice Ab a.f8.length cb)) 36)))
          replace HF := Aside0.mk (HF.out.below (below_alloc (Below.refl _ _) (.cells (asC a (.slice Ab a.f8.length cb)) 36)))
          change Code.wp _ _ _ _ (wr.alloc (.cells (asC a (.slice Ab a.f8.length cb)) 36))
          generalize wr.alloc (.cells (asC a (.slice Ab a.f8.length cb)) 36) = W1 at HA HKC HF ⊢
          obtain ⟨d0, d1, d2, d3, d4, d5, d6, d7, d8, d9, d10, d11⟩ := zc12 HA
          obtain ⟨f0, f1, f2, f3, f4, f5, f6, f7, f8, f9, f10, f11⟩ := zf12 HA
          have s1 : (9223372036854775807 < 5 + a.f0.size) = False := eq_false (by have := HFN.out.f0; omega)
          have s2 : (9223372036854775807 < 5 + a.f0.size + 1) = False := eq_false (by have := HFN.out.f0; omega)
          have s3 : (9223372036854775807 < 5 + a.f0.size + 1 + fp.size) = False := eq_false (by have := HFN.out.f0; have := HFS.out; omega)
          refine start_ (n := 9) (S := fun w' => w'.cell? ⟨ga, 0, none⟩ = some (.string a.f0) ∧ w'.cell? ⟨ga, 1, none⟩ = some (.bool a.f1.f0.f0) ∧ w'.cell? ⟨ga, 2, none⟩ = some (.int .u64 a.f1.f0.f1) ∧ w'.cell? ⟨ga, 3, none⟩ = some (.int .u64 a.f1.f0.f2) ∧ w'.cell? ⟨ga, 4, none⟩ = some (.int .i64 a.f1.f1) ∧ w'.cell? ⟨ga, 5, none⟩ = some (.int .i64 a.f2) ∧ w'.cell? ⟨ga, 6, none⟩ = some (.int .i64 a.f3) ∧ w'.cell? ⟨ga, 7, none⟩ = some (.int .i64 a.f4) ∧ w'.cell? ⟨ga, 8, none⟩ = some (.int .i64 a.f5) ∧ w'.cell? ⟨ga, 9, none⟩ = some (.bool a.f6) ∧ w'.cell? ⟨ga, 10, none⟩ = some (.int .i64 a.f7) ∧ w'.cell? ⟨ga, 11, none⟩ = some (.slice Ab a.f8.length cb)) (ds := []) #[false, false, false, false, false, false, false, false, false] (by kernel_rfl) rfl rfl ⟨zc HA 0, zc HA 1, zc HA 2, zc HA 3, zc HA 4, zc HA 5, zc HA 6, zc HA 7, zc HA 8, zc HA 9, zc HA 10, zc HA 11⟩ (fun hHeld => ?_)
          replace HF := Aside0.mk (HF.out.below (Below.drew (Below.refl _ _)))
          replace HKC := Aside0.mk (Kd.C_below HKC.out (Below.drew (Below.refl _ _)))
          replace HA : Aside0 (W1.drew.heap[ga]? = some (.cells (asC a (.slice Ab a.f8.length cb)) 36 (0, 0))) := ⟨HA.out⟩
          clear d0 d1 d2 d3 d4 d5 d6 d7 d8 d9 d10 d11 f0 f1 f2 f3 f4 f5 f6 f7 f8 f9 f10 f11
          generalize W1.drew = W2 at HA HKC HF hHeld ⊢
          refine zp0 0 20 ?_; refine zp0 4 24 ?_; refine zt0 1 21 hHeld ?_; refine zp0 2 22 ?_; refine zp0 3 23 ?_; refine zt0 5 25 hHeld ?_; refine zo0 6 26 (fun K hK => ?_)
          refine zg Tryz.func39 #[.agg #[.bool a.f1.f0.f0, .int .u64 a.f1.f0.f1, .int .u64 a.f1.f0.f2, .int .i64 a.f1.f1]] ?_
          with_reducible refine (address_FormatPrefix.calls a.f1.f0.f0 a.f1.f0.f1 a.f1.f0.f2 a.f1.f1 fp W2 HFP.out (HW0.out.below (below_then HB2.out HB2.out.size HF.out.bel))).mono ?_
          rintro e w3 ⟨rfl, hb⟩
          refine ⟨_, rfl, ?_⟩
          replace HA := Aside0.mk (blk_below HA.out hb)
          replace HF := Aside0.mk (HF.out.below hb)
          replace HKC := Aside0.mk (Kd.C_below HKC.out hb)
          clear hb
          refine hK.out _ _ ⟨zc HA 0, zc HA 1, zc HA 2, zc HA 3, zc HA 4, zc HA 5, zc HA 6, zc HA 7, zc HA 8, zc HA 9, zc HA 10, zc HA 11⟩ (fun hHeld => ?_)
          clear hK K
          refine zn 26 ?_; refine zp0 7 27 ?_; refine zo0 8 28 (fun K hK => ?_)
          refine zg Tryz.func38 #[.pointer (some ⟨b, 0, none⟩), .string (bHost5 ++ a.f0 ++ sp ++ fp)] ?_
          refine (bld_str w2.heap.size b o (bHost5 ++ a.f0 ++ sp ++ fp) w3 HF.out.bld (by rw [ByteArray.size_append, ByteArray.size_append, ByteArray.size_append]; have := HOL.out; have := HFN.out.f0; have := HFS.out; have : sp.size = 1 := rfl; have : bHost5.size = 5 := rfl; omega) HF.out.bel.size).mono ?_
          rintro e w4 ⟨rfl, hb1, hb2, hb3⟩
          refine ⟨_, rfl, ?_⟩
          have HF4 := Aside0.mk (HF.out.write hb1 hb2)
          have HA4 := Aside0.mk (keepA HA.out HGA.out.1 hb3)
          clear hb1 hb2 hb3
          replace HA := HA4
          replace HF := HF4
          clear HA4 HF4
          refine hK.out _ _ ⟨zc HA 0, zc HA 1, zc HA 2, zc HA 3, zc HA 4, zc HA 5, zc HA 6, zc HA 7, zc HA 8, zc HA 9, zc HA 10, zc HA 11⟩ (fun hHeld => ?_)
          clear hK K
          refine zn 28 ?_; refine zd0 ?_
          replace HF : Aside0 (FmtI w2 w4 b (o ++ headPart a fp)) := ⟨HF.out⟩
          have HL : Aside0 ((o ++ headPart a fp).length ≤ 3002000) := ⟨by rw [List.length_append, headPart, data_length, ByteArray.size_append, ByteArray.size_append, ByteArray.size_append]; have := HOL.out; have := HFN.out.f0; have := HFS.out; have : sp.size = 1 := rfl; have : bHost5.size = 5 := rfl; omega⟩
          have HW2 := Aside0.mk (HW0.out.below HB2.out)
          clear hHeld s1 s2 s3 HKC
          obtain ⟨d0, d1, d2, d3, d4, d5, d6, d7, d8, d9, d10, d11⟩ := zc12 HA
          go_wp2_with fail
          refine (name_walk w2 w4 b (o ++ headPart a fp) ⟨#[112, 111, 108, 105, 99, 121]⟩ a.f2 HF.out (by decide) (by have := HL.out; omega) HFN.out.f2.1 HFN.out.f2.2).mono ?_
          rintro e w5 ⟨rfl, hf, ho⟩
          replace HA := Aside0.mk (keepA HA.out HGA.out.1 ho)
          replace HF := Aside0.mk hf
          replace HL : Aside0 ((o ++ headPart a fp ++ namePart ⟨#[112, 111, 108, 105, 99, 121]⟩ a.f2).length ≤ 3002200) := ⟨by rw [List.length_append]; have := HL.out; have := name_size ⟨#[112, 111, 108, 105, 99, 121]⟩ a.f2 (by decide) HFN.out.f2.1 HFN.out.f2.2; omega⟩
          clear hf ho d0 d1 d2 d3 d4 d5 d6 d7 d8 d9 d10 d11
          obtain ⟨d0, d1, d2, d3, d4, d5, d6, d7, d8, d9, d10, d11⟩ := zc12 HA
          go_wp2_with fail
          refine (name_walk w2 w5 b (o ++ headPart a fp ++ namePart ⟨#[112, 111, 108, 105, 99, 121]⟩ a.f2) ⟨#[102, 114, 97, 103]⟩ a.f3 HF.out (by decide) (by have := HL.out; omega) HFN.out.f3.1 HFN.out.f3.2).mono ?_
          rintro e w6 ⟨rfl, hf, ho⟩
          replace HA := Aside0.mk (keepA HA.out HGA.out.1 ho)
          replace HF := Aside0.mk hf
          replace HL : Aside0 ((o ++ headPart a fp ++ namePart ⟨#[112, 111, 108, 105, 99, 121]⟩ a.f2 ++ namePart ⟨#[102, 114, 97, 103]⟩ a.f3).length ≤ 3002400) := ⟨by rw [List.length_append]; have := HL.out; have := name_size ⟨#[102, 114, 97, 103]⟩ a.f3 (by decide) HFN.out.f3.1 HFN.out.f3.2; omega⟩
          clear hf ho d0 d1 d2 d3 d4 d5 d6 d7 d8 d9 d10 d11
          obtain ⟨d0, d1, d2, d3, d4, d5, d6, d7, d8, d9, d10, d11⟩ := zc12 HA
          go_wp2_with fail
          refine (number_walk w2 w6 b (o ++ headPart a fp ++ namePart ⟨#[112, 111, 108, 105, 99, 121]⟩ a.f2 ++ namePart ⟨#[102, 114, 97, 103]⟩ a.f3) ⟨#[104, 111, 112, 115]⟩ a.f4 0 HF.out HW2.out (by decide) (by have := HL.out; omega) HFN.out.f4.1 HFN.out.f4.2).mono ?_
          rintro e w7 ⟨rfl, hf, ho⟩
          replace HA := Aside0.mk (keepA HA.out HGA.out.1 ho)
          replace HF := Aside0.mk hf
          replace HL : Aside0 ((o ++ headPart a fp ++ namePart ⟨#[112, 111, 108, 105, 99, 121]⟩ a.f2 ++ namePart ⟨#[102, 114, 97, 103]⟩ a.f3 ++ numPart ⟨#[104, 111, 112, 115]⟩ a.f4 0).length ≤ 3002600) := ⟨by rw [List.length_append]; have := HL.out; have := num_size ⟨#[104, 111, 112, 115]⟩ a.f4 0 (by decide) HFN.out.f4.1 HFN.out.f4.2; omega⟩
          clear hf ho d0 d1 d2 d3 d4 d5 d6 d7 d8 d9 d10 d11
          obtain ⟨d0, d1, d2, d3, d4, d5, d6, d7, d8, d9, d10, d11⟩ := zc12 HA
          go_wp2_with fail
          refine (number_walk w2 w7 b (o ++ headPart a fp ++ namePart ⟨#[112, 111, 108, 105, 99, 121]⟩ a.f2 ++ namePart ⟨#[102, 114, 97, 103]⟩ a.f3 ++ numPart ⟨#[104, 111, 112, 115]⟩ a.f4 0) ⟨#[119, 105, 110, 100, 111, 119]⟩ a.f5 8192 HF.out HW2.out (by decide) (by have := HL.out; omega) HFN.out.f5.1 HFN.out.f5.2).mono ?_
          rintro e w8 ⟨rfl, hf, ho⟩
          replace HA := Aside0.mk (keepA HA.out HGA.out.1 ho)
          replace HF := Aside0.mk hf
          replace HL : Aside0 ((o ++ headPart a fp ++ namePart ⟨#[112, 111, 108, 105, 99, 121]⟩ a.f2 ++ namePart ⟨#[102, 114, 97, 103]⟩ a.f3 ++ numPart ⟨#[104, 111, 112, 115]⟩ a.f4 0 ++ numPart ⟨#[119, 105, 110, 100, 111, 119]⟩ a.f5 8192).length ≤ 3002800) := ⟨by rw [List.length_append]; have := HL.out; have := num_size ⟨#[119, 105, 110, 100, 111, 119]⟩ a.f5 8192 (by decide) HFN.out.f5.1 HFN.out.f5.2; omega⟩
          clear hf ho d0 d1 d2 d3 d4 d5 d6 d7 d8 d9 d10 d11
          obtain ⟨d0, d1, d2, d3, d4, d5, d6, d7, d8, d9, d10, d11⟩ := zc12 HA
          go_upto_if 48 with (fail)
          go_cut [3] (fun v3 wc => v3 = .pointer (some ⟨b, 0, none⟩) ∧ Aside0 (FmtI w2 wc b (o ++ headPart a fp ++ namePart ⟨#[112, 111, 108, 105, 99, 121]⟩ a.f2 ++ namePart ⟨#[102, 114, 97, 103]⟩ a.f3 ++ numPart ⟨#[104, 111, 112, 115]⟩ a.f4 0 ++ numPart ⟨#[119, 105, 110, 100, 111, 119]⟩ a.f5 8192 ++ (if a.f6 = true then [32, 115, 116, 97, 109, 112, 115] else []))) ∧ Aside0 (wc.heap[ga]? = some (.cells (asC a (.slice Ab a.f8.length cb)) 36 (0, 0))))
          case first =>
            by_cases hst : a.f6 = true
            · have HST := Aside0.mk hst
              rw [hst]
              go_wp2_with fail
              refine (bld_str w2.heap.size b (o ++ headPart a fp ++ namePart ⟨#[112, 111, 108, 105, 99, 121]⟩ a.f2 ++ namePart ⟨#[102, 114, 97, 103]⟩ a.f3 ++ numPart ⟨#[104, 111, 112, 115]⟩ a.f4 0 ++ numPart ⟨#[119, 105, 110, 100, 111, 119]⟩ a.f5 8192) ⟨#[32, 115, 116, 97, 109, 112, 115]⟩ w8 HF.out.bld (by have := HL.out; have : (⟨#[32, 115, 116, 97, 109, 112, 115]⟩ : ByteArray).size = 7 := rfl; omega) HF.out.bel.size).mono ?_
              rintro e w9 ⟨rfl, hb1, hb2, hb3⟩
              have HF9 := Aside0.mk (HF.out.write hb1 hb2)
              have HA9 := Aside0.mk (keepA HA.out HGA.out.1 hb3)
              clear hb1 hb2 hb3
              go_wp2
              go_meet
              case rel => exact ⟨rfl, ⟨by rw [if_pos HST.out]; exact HF9.out⟩, HA9⟩
            · have HST := Aside0.mk hst
              rw [show a.f6 = false from by simpa using hst]
              go_wp2
              go_meet
              case rel => exact ⟨rfl, ⟨by rw [if_neg HST.out, List.append_nil]; exact HF.out⟩, HA⟩
          case rest =>
            obtain ⟨rfl, HFc, HAc⟩ := hcut
            replace HF := HFc
            replace HA := HAc
            clear HFc HAc d0 d1 d2 d3 d4 d5 d6 d7 d8 d9 d10 d11
            replace HL : Aside0 ((o ++ headPart a fp ++ namePart ⟨#[112, 111, 108, 105, 99, 121]⟩ a.f2 ++ namePart ⟨#[102, 114, 97, 103]⟩ a.f3 ++ numPart ⟨#[104, 111, 112, 115]⟩ a.f4 0 ++ numPart ⟨#[119, 105, 110, 100, 111, 119]⟩ a.f5 8192 ++ (if a.f6 = true then [32, 115, 116, 97, 109, 112, 115] else [])).length ≤ 3002900) := ⟨by rw [List.length_append]; have := HL.out; have := st_size a.f6; omega⟩
            obtain ⟨d0, d1, d2, d3, d4, d5, d6, d7, d8, d9, d10, d11⟩ := zc12 HA
            go_wp2_with fail
            refine (number_walk w2 wc b (o ++ headPart a fp ++ namePart ⟨#[112, 111, 108, 105, 99, 121]⟩ a.f2 ++ namePart ⟨#[102, 114, 97, 103]⟩ a.f3 ++ numPart ⟨#[104, 111, 112, 115]⟩ a.f4 0 ++ numPart ⟨#[119, 105, 110, 100, 111, 119]⟩ a.f5 8192 ++ (if a.f6 = true then [32, 115, 116, 97, 109, 112, 115] else [])) ⟨#[118, 97, 108, 117, 101]⟩ a.f7 1 HF.out HW2.out (by decide) (by have := HL.out; omega) HFN.out.f7.1 HFN.out.f7.2).mono ?_
            rintro e w9 ⟨rfl, hf, ho⟩
            replace HA := Aside0.mk (keepA HA.out HGA.out.1 ho)
            replace HF := Aside0.mk hf
            replace HL : Aside0 ((o ++ headPart a fp ++ namePart ⟨#[112, 111, 108, 105, 99, 121]⟩ a.f2 ++ namePart ⟨#[102, 114, 97, 103]⟩ a.f3 ++ numPart ⟨#[104, 111, 112, 115]⟩ a.f4 0 ++ numPart ⟨#[119, 105, 110, 100, 111, 119]⟩ a.f5 8192 ++ (if a.f6 = true then [32, 115, 116, 97, 109, 112, 115] else []) ++ numPart ⟨#[118, 97, 108, 117, 101]⟩ a.f7 1).length ≤ 3003100) := ⟨by rw [List.length_append]; have := HL.out; have := num_size ⟨#[118, 97, 108, 117, 101]⟩ a.f7 1 (by decide) HFN.out.f7.1 HFN.out.f7.2; omega⟩
            clear hf ho d0 d1 d2 d3 d4 d5 d6 d7 d8 d9 d10 d11
            obtain ⟨o5, ho5⟩ : ∃ x, o ++ headPart a fp ++ namePart ⟨#[112, 111, 108, 105, 99, 121]⟩ a.f2 ++ namePart ⟨#[102, 114, 97, 103]⟩ a.f3 ++ numPart ⟨#[104, 111, 112, 115]⟩ a.f4 0 ++ numPart ⟨#[119, 105, 110, 100, 111, 119]⟩ a.f5 8192 ++ (if a.f6 = true then [32, 115, 116, 97, 109, 112, 115] else []) ++ numPart ⟨#[118, 97, 108, 117, 101]⟩ a.f7 1 = x := ⟨_, rfl⟩
            rw [ho5] at HF HL
            have HL5 := HL
            have HO5 := Aside0.mk ho5
            clear ho5
            obtain ⟨d0, d1, d2, d3, d4, d5, d6, d7, d8, d9, d10, d11⟩ := zc12 HA
            go_upto_region 18 with (fail)
            clear d0 d1 d2 d3 d4 d5 d6 d7 d8 d9 d10 d11
            go_loopg [57] (a.f8.length + 1) (fun gg v57 wr => ∃ j : Nat, v57 = .int .i64 (j : Int) ∧ Aside0 (gg + j = a.f8.length + 1 ∧ j ≤ a.f8.length) ∧ Aside0 (FmtI w2 wr b (o5 ++ ((a.f8.take j).map svcPart).flatten)) ∧ Aside0 (wr.heap[ga]? = some (.cells (asC a (.slice Ab a.f8.length cb)) 36 (0, 0))))
            case atStart => exact ⟨0, rfl, ⟨by omega, by omega⟩, ⟨by simpa using HF.out⟩, HA⟩
            case round =>
              clear HF HA HL
              obtain ⟨j, rfl, HJ, HF, HA⟩ := hrel
              have HB := Aside0.mk (below_then HB2.out HB2.out.size HF.out.bel)
              have HL : Aside0 ((o5 ++ ((a.f8.take j).map svcPart).flatten).length ≤ 3013100) := ⟨by rw [List.length_append]; have := HL5.out; have h1 := svcs_size (a.f8.take j) (fun s hs => HFN.out.sv s (List.mem_of_mem_take hs)); rw [List.length_take] at h1; have := HFN.out.f8; have := HJ.out.2; omega⟩
              by_cases hj : j < a.f8.length
              · have HJJ := Aside0.mk hj
                have c2 : decide ((j : Int) < (a.f8.length : Int)) = true := decide_eq_true (by omega)
                have c2' : decide (j < a.f8.length) = true := decide_eq_true hj
                obtain ⟨ads, rfl, k0, k1, k2⟩ := at_T74 (Kd.C_below HKC0.out HB.out) (j : Int) (by omega) (by omega)
                simp only [Int.toNat_natCast] at k0 k1 k2
                have HTK := Aside0.mk (svc_take hj)
                have HSM := Aside0.mk (HFN.out.sv _ (svc_mem hj))
                obtain ⟨s, hs⟩ : ∃ s, rd_T74 a.f8 (j : Int) = s := ⟨_, rfl⟩
                rw [hs] at k0 k1 k2 HTK HSM
                have c3 : a.f8.length ≤ 1000000 := by have := HFN.out.f8; omega
                clear hs
                go_upto_region 20 with (fail)
                obtain ⟨gs, hgs⟩ : ∃ x, wr.heap.size = x := ⟨_, rfl⟩
                have HS : Aside0 ((wr.alloc (.cells #[.int .i64 s.f0, .int .i64 s.f1, .int .i64 s.f2] 74)).heap[wr.heap.size]? = some (.cells #[.int .i64 s.f0, .int .i64 s.f1, .int .i64 s.f2] 74 (0, 0))) := ⟨heap_alloc_new _ _⟩
                have HGS : Aside0 (wr.heap.size ≠ b) := ⟨by have := HF.out.lt; omega⟩
                rw [hgs] at HS HGS
                simp only [hgs]
                clear hgs k0 k1 k2
                replace HA := Aside0.mk (blk_alloc HA.out (.cells #[.int .i64 s.f0, .int .i64 s.f1, .int .i64 s.f2] 74))
                replace HF := Aside0.mk (HF.out.below (below_alloc (Below.refl _ _) (.cells #[.int .i64 s.f0, .int .i64 s.f1, .int .i64 s.f2] 74)))
                change Code.wp _ _ _ _ (wr.alloc (.cells #[.int .i64 s.f0, .int .i64 s.f1, .int .i64 s.f2] 74))
                generalize wr.alloc (.cells #[.int .i64 s.f0, .int .i64 s.f1, .int .i64 s.f2] 74) = V1 at HA HS HF ⊢
                obtain ⟨e0, e1, e2⟩ := zc3 HS
                go_upto_if 63 with (fail)
                go_cut [10] (fun v10 wc => v10 = .string (if s.f0 = 17 then ⟨#[117, 100, 112]⟩ else ⟨#[116, 99, 112]⟩) ∧ Aside0 (FmtI w2 wc b (o5 ++ ((a.f8.take j).map svcPart).flatten)) ∧ Aside0 (wc.heap[ga]? = some (.cells (asC a (.slice (some ads) a.f8.length cb)) 36 (0, 0))) ∧ Aside0 (wc.heap[gs]? = some (.cells #[.int .i64 s.f0, .int .i64 s.f1, .int .i64 s.f2] 74 (0, 0))))
                case first =>
                  by_cases hp : s.f0 = 17
                  · have c5 : (s.f0 == 17) = true := beq_iff_eq.mpr hp
                    have HP := Aside0.mk hp
                    clear hp
                    (first | rw [c5] | skip)
                    go_wp2
                    go_meet
                    case rel => exact ⟨by rw [if_pos HP.out], HF, HA, HS⟩
                  · have c5 : (s.f0 == 17) = false := beq_eq_false_iff_ne.mpr hp
                    have HP := Aside0.mk hp
                    clear hp
                    (first | rw [c5] | skip)
                    go_wp2
                    go_meet
                    case rel => exact ⟨by rw [if_neg HP.out], HF, HA, HS⟩
                case rest =>
                  clear HF HA HS e0 e1 e2
                  obtain ⟨rfl, HF, HA, HS⟩ := hcut
                  have c6 := pro_size s.f0
                  have HSV : Aside0 (svcPart s = (bSvc9 ++ (if s.f0 = 17 then ⟨#[117, 100, 112]⟩ else ⟨#[116, 99, 112]⟩) ++ sp ++ ⟨(Lib.itoa s.f1).toArray⟩ ++ sp ++ rdOf ByteArray.empty appList s.f2).data.toList) := ⟨rfl⟩
                  obtain ⟨pr, hpr⟩ : ∃ x : ByteArray, (if s.f0 = 17 then ⟨#[117, 100, 112]⟩ else ⟨#[116, 99, 112]⟩ : ByteArray) = x := ⟨_, rfl⟩
                  have c7 := itoa_size HSM.out.1 HSM.out.2.1
                  have c8 := app_size HSM.out.2.2.1 HSM.out.2.2.2
                  have HIT : Aside0 (strconv_Itoa.f s.f1 = some ⟨(Lib.itoa s.f1).toArray⟩) := ⟨if_pos ⟨by have := HSM.out.1; omega, by have := HSM.out.2.1; omega⟩⟩
                  obtain ⟨nm, hnm⟩ : ∃ x, (⟨(Lib.itoa s.f1).toArray⟩ : ByteArray) = x := ⟨_, rfl⟩
                  obtain ⟨ap, hap⟩ : ∃ x, rdOf ByteArray.empty appList s.f2 = x := ⟨_, rfl⟩
                  rw [hpr] at HSV c6 ⊢
                  rw [hnm] at HSV HIT c7
                  rw [hap] at HSV c8
                  have HAP := Aside0.mk hap
                  clear hpr hnm hap
                  have t1 : (9223372036854775807 < 9 + pr.size) = False := eq_false (by omega)
                  have t2 : (9223372036854775807 < 9 + pr.size + 1) = False := eq_false (by omega)
                  have t3 : (9223372036854775807 < 9 + pr.size + 1 + nm.size) = False := eq_false (by omega)
                  have t4 : (9223372036854775807 < 9 + pr.size + 1 + nm.size + 1) = False := eq_false (by omega)
                  have t5 : (9223372036854775807 < 9 + pr.size + 1 + nm.size + 1 + ap.size) = False := eq_false (by omega)
                  have HSZ : Aside0 (pr.size = 3 ∧ nm.size ≤ 30 ∧ ap.size ≤ 10) := ⟨c6, c7, c8⟩
                  clear c6 c7 c8
                  go_upto_region 23 with (fail)
                  refine start_ (n := 15) (S := fun w' => w'.cell? ⟨gs, 0, none⟩ = some (.int .i64 s.f0) ∧ w'.cell? ⟨gs, 1, none⟩ = some (.int .i64 s.f1) ∧ w'.cell? ⟨gs, 2, none⟩ = some (.int .i64 s.f2)) (ds := []) #[false, false, false, false, false, false, false, false, false, false, false, false, false, false, false] (by kernel_rfl) rfl rfl ⟨zc HS 0, zc HS 1, zc HS 2⟩ (fun hHeld => ?_)
                  replace HF := Aside0.mk (HF.out.below (Below.drew (Below.refl _ _)))
                  replace HA : Aside0 (wc.drew.heap[ga]? = some (.cells (asC a (.slice (some ads) a.f8.length cb)) 36 (0, 0))) := ⟨HA.out⟩
                  replace HS : Aside0 (wc.drew.heap[gs]? = some (.cells #[.int .i64 s.f0, .int .i64 s.f1, .int .i64 s.f2] 74 (0, 0))) := ⟨HS.out⟩
                  generalize wc.drew = V2 at HA HS HF hHeld ⊢
                  refine zp0 0 64 ?_; refine zp0 1 65 ?_; refine zp0 2 66 ?_; refine zp0 3 67 ?_; refine zp0 9 73 ?_; refine zt0 4 68 hHeld ?_; refine zt0 10 74 hHeld ?_; refine zo0 5 69 (fun K hK => ?_)
                  refine zg Tryz.func41 #[.int .i64 s.f1] ?_
                  with_reducible refine (strconv_Itoa.calls s.f1 nm V2 HIT.out (HW0.out.below (below_then HB2.out HB2.out.size HF.out.bel))).mono ?_
                  rintro e V3 ⟨rfl, hb⟩
                  refine ⟨_, rfl, ?_⟩
                  replace HA := Aside0.mk (blk_below HA.out hb)
                  replace HS := Aside0.mk (blk_below HS.out hb)
                  replace HF := Aside0.mk (HF.out.below hb)
                  clear hb
                  refine hK.out _ _ ⟨zc HS 0, zc HS 1, zc HS 2⟩ (fun hHeld => ?_)
                  clear hK K
                  refine zn 69 ?_; refine zp0 6 70 ?_; refine zp0 7 71 ?_; refine zo0 8 72 (fun K hK => ?_)
                  refine zg Tryz.func44 #[] ?_
                  with_reducible refine (asset_apps.calls appList V3 rfl).mono ?_
                  rintro e V4 ⟨v, rfl, hlist, hb⟩
                  refine ⟨_, rfl, ?_⟩
                  replace HA := Aside0.mk (blk_below HA.out hb)
                  replace HS := Aside0.mk (blk_below HS.out hb)
                  replace HF := Aside0.mk (HF.out.below hb)
                  clear hb
                  obtain ⟨Al, cl, hv⟩ := Kd.R_slice hlist
                  subst hv
                  have q0 : 0 ≤ s.f2 := HSM.out.2.2.1
                  have q1 : s.f2 < (5 : Int) := by have := HSM.out.2.2.2; omega
                  obtain ⟨adl, hal, hx⟩ := Kd.at_string (Kd.R_reads' hlist).2.2 s.f2 q0 q1
                  subst hal
                  rw [HAP.out] at hx
                  have h5l : appList.length = 5 := rfl
                  rw [h5l]
                  clear hlist
                  replace q0 := eq_true q0
                  replace q1 := eq_true q1
                  refine hK.out _ _ ⟨zc HS 0, zc HS 1, zc HS 2⟩ (fun hHeld => ?_)
                  clear hK K
                  refine zn 72 ?_; refine zp0 11 75 ?_
                  refine zo0 12 76 (fun K hK => ?_)
                  refine value_ (w1 := ?_) (v := ?_) (by rfl) rfl ?_ ?_
                  rotate_left 2
                  · go_simp
                    constructor
                    · rfl
                    · rfl
                  refine hK.out _ _ ⟨zc HS 0, zc HS 1, zc HS 2⟩ (fun hHeld => ?_)
                  clear hK K
                  refine zn 76 ?_; refine zp0 13 77 ?_; refine zo0 14 78 (fun K hK => ?_)
                  refine zg Tryz.func38 #[.pointer (some ⟨b, 0, none⟩), .string (bSvc9 ++ pr ++ sp ++ nm ++ sp ++ ap)] ?_
                  refine (bld_str w2.heap.size b (o5 ++ ((a.f8.take j).map svcPart).flatten) (bSvc9 ++ pr ++ sp ++ nm ++ sp ++ ap) V4 HF.out.bld (svc_len HSZ.out HL.out) HF.out.bel.size).mono ?_
                  rintro e V5 ⟨rfl, hb1, hb2, hb3⟩
                  refine ⟨_, rfl, ?_⟩
                  have HF4 := Aside0.mk (HF.out.write hb1 hb2)
                  have HA4 := Aside0.mk (keepA HA.out HGA.out.1 hb3)
                  have HS4 := Aside0.mk (keepS HS.out HGS.out hb3)
                  clear hb1 hb2 hb3
                  replace HA := HA4
                  replace HF := HF4
                  replace HS := HS4
                  clear HA4 HF4 HS4
                  refine hK.out _ _ ⟨zc HS 0, zc HS 1, zc HS 2⟩ (fun hHeld => ?_)
                  clear hK K
                  refine zn 78 ?_; refine zd0 ?_
                  have HFL : Aside0 (FmtI w2 V5 b (o5 ++ ((a.f8.take (j + 1)).map svcPart).flatten)) := ⟨by rw [HTK.out, HSV.out, ← List.append_assoc]; exact HF.out⟩
                  have HJ1 : Aside0 ((a.f8.length - j) + (j + 1) = a.f8.length + 1 ∧ j + 1 ≤ a.f8.length) := ⟨by have := HJJ.out; omega, HJJ.out⟩
                  go_wp2
                  go_roundg (a.f8.length - j)
                  case measure => have := HJ.out.1; have := HJJ.out; omega
                  case rel => exact ⟨j + 1, by go_num, HJ1, HFL, HA⟩
              · have HJE : Aside0 (a.f8.take j = a.f8) := ⟨List.take_of_length_le (by omega)⟩
                have c2 : decide ((j : Int) < (a.f8.length : Int)) = false := decide_eq_false (by omega)
                have c2' : decide (j < a.f8.length) = false := decide_eq_false hj
                rw [HJE.out] at HF HL
                go_wp2_with fail
                refine (bld_str w2.heap.size b (o5 ++ (a.f8.map svcPart).flatten) ⟨#[59, 10]⟩ wr HF.out.bld (by have := HL.out; have : (⟨#[59, 10]⟩ : ByteArray).size = 2 := rfl; omega) HF.out.bel.size).mono ?_
                rintro e w10 ⟨rfl, hb1, hb2, hb3⟩
                have HF10 := Aside0.mk (HF.out.write hb1 hb2)
                clear hb1 hb2 hb3
                have HNEW : Aside0 (asset_Format.l0 k' l (i + 1) (o ++ linePart a fp) = some out ∧ i + 1 ≤ n ∧ (o ++ linePart a fp).length ≤ 30000 * (i + 1)) := ⟨HNX.out, HII.out, by rw [List.length_append]; have := HIL.out; have := line_size HFN.out HFS.out; omega⟩
                have HFL : Aside0 (FmtI w2 w10 b (o ++ linePart a fp)) := ⟨by have := HF10.out; rw [← HO5.out] at this; unfold linePart; simp only [List.append_assoc] at this ⊢; exact this⟩
                go_wp2
                go_roundg k'
                case measure => exact Nat.lt_succ_self k'
                case rel => exact ⟨i + 1, _, by go_num, HNEW, HFL⟩
        · have HE : Aside0 (o = out) := ⟨format_fin HI.out.1 (by rw [HN.out]; exact hi)⟩
          have b2 : decide ((i : Int) < (n : Int)) = false := decide_eq_false (by omega)
          have b2' : decide (i < n) = false := decide_eq_false hi
          go_wp2_with fail
          refine (bld_string w2.heap.size b o wr HF.out.bld HF.out.bel.size).mono ?_
          rintro e w4 ⟨rfl, hb4⟩
          have HB4 := Aside0.mk hb4
          clear hb4
          go_wp2
          go_ret
          exact ⟨by rw [HE.out]; rfl, below_then HB2.out HB2.out.size (HF.out.bel.trans HB4.out.2.1)⟩
    · rw [if_neg h100] at hr
      cases hr
  · rw [if_neg hz] at hr
    have hr3 := Option.some.inj hr
    subst hr3
    have b1 : (cv != 0) = true := bne_iff_ne.mpr hz
    clear hr hz hn
    go_enter Tryz.func14, Tryz.ntmps14
    go_wp2_with fail
    refine HCK.out.mono ?_
    rintro e w2 ⟨rfl, hb2⟩
    go_wp2
    go_ret
    exact ⟨rfl, hb2⟩
end Go.Proofs.YtnphnhkinjppjaaGreatDoor.Q
end

section
namespace Go.Proofs.YtnphnhkinjppjaaGreatDoor.Q
open Go.RowKit Go.Proofs.YtnphnhkinjppjaaGreatDoorW.PrintWords Go.Proofs.YtnphnhkinjppjaaGreatDoorW.PrintLast Go.Proofs.YtnphnhkinjppjaaGreatDoorW.PrintMore
attribute [local go_sem] max2_int min2_int max_two min_two max_three min_three max_four min_four
def r18_Policies.f  : Option (List ByteArray) := some (([(⟨#[102, 105, 114, 115, 116]⟩ : ByteArray), (⟨#[108, 97, 115, 116]⟩ : ByteArray), (⟨#[98, 115, 100]⟩ : ByteArray), (⟨#[108, 105, 110, 117, 120]⟩ : ByteArray), (⟨#[100, 114, 111, 112]⟩ : ByteArray)] : List ByteArray))
def r18_Apps.f  : Option (List ByteArray) := some (([(⟨#[114, 97, 119]⟩ : ByteArray), (⟨#[104, 116, 116, 112]⟩ : ByteArray), (⟨#[115, 109, 116, 112]⟩ : ByteArray), (⟨#[116, 108, 115]⟩ : ByteArray), (⟨#[100, 110, 115]⟩ : ByteArray)] : List ByteArray))
end Go.Proofs.YtnphnhkinjppjaaGreatDoor.Q
end

section
namespace Go.Proofs.YtnphnhkinjppjaaGreatDoor.Q
open Go.RowKit Go.Proofs.YtnphnhkinjppjaaGreatDoorW.PrintWords Go.Proofs.YtnphnhkinjppjaaGreatDoorW.PrintLast Go.Proofs.YtnphnhkinjppjaaGreatDoorW.PrintMore
def rsPol (lit : ByteArray) (n : Int) (s : ByteArray) : ByteArray := if n = 1 then s else s ++ (lit ++ rdOf ByteArray.empty polList (n - 1))
def rsNum (lit t : ByteArray) (n u : Int) (s : ByteArray) : ByteArray := if n = u then s else s ++ (lit ++ t)
def rsSvc (s t : ByteArray) (x : S74) : ByteArray := (s ++ (if x.f0 = 6 then ⟨#[32, 115, 101, 114, 118, 105, 99, 101, 32, 116, 99, 112, 32]⟩ else ⟨#[32, 115, 101, 114, 118, 105, 99, 101, 32, 117, 100, 112, 32]⟩)) ++ ((t ++ ⟨#[32]⟩) ++ rdOf ByteArray.empty appList x.f2)
def rsFold : List S74 → List ByteArray → ByteArray → ByteArray
  | x :: xs, t :: ts, s => rsFold xs ts (rsSvc s t x)
  | _, _, s => s
def rsList (k : Nat) : List S74 → Option (List ByteArray)
  | [] => some []
  | x :: xs => (r06_Number.f k x.f1).bind fun t => (rsList k xs).bind fun ts => some (t :: ts)
def rsAll (a : S36) (fp t4 t5 t7 : ByteArray) (ts : List ByteArray) : ByteArray :=
  rsFold a.f8 ts (rsNum ⟨#[32, 118, 97, 108, 117, 101, 32]⟩ t7 a.f7 1 ((fun s => if a.f6 = true then s ++ ⟨#[32, 115, 116, 97, 109, 112, 115]⟩ else s) (rsNum ⟨#[32, 119, 105, 110, 100, 111, 119, 32]⟩ t5 a.f5 8192 (rsNum ⟨#[32, 104, 111, 112, 115, 32]⟩ t4 a.f4 0 (rsPol ⟨#[32, 102, 114, 97, 103, 32]⟩ a.f3 (rsPol ⟨#[32, 112, 111, 108, 105, 99, 121, 32]⟩ a.f2 (((⟨#[104, 111, 115, 116, 32]⟩ ++ a.f0) ++ ⟨#[32]⟩) ++ fp))))))) ++ ⟨#[59]⟩
def r18_Statement.g (k : Nat) (a : S36) : Option ByteArray :=
  (r06_FormatPrefix.f k a.f1.f0.f0 a.f1.f0.f1 a.f1.f0.f2 a.f1.f1).bind fun fp => (r06_Number.f k a.f4).bind fun t4 => (r06_Number.f k a.f5).bind fun t5 => (r06_Number.f k a.f7).bind fun t7 => (rsList k a.f8).bind fun ts =>
    if (fineB a && decide (fp.size ≤ 1000) && decide (t4.size ≤ 50) && decide (t5.size ≤ 50) && decide (t7.size ≤ 50) && ts.all fun t => decide (t.size ≤ 50)) = true then some (rsAll a fp t4 t5 t7 ts) else none
def r18_Statement.f (k : Nat) (a0 : ByteArray) (a1 : Bool) (a2 a3 a4 a5 a6 a7 a8 : Int) (a9 : Bool) (a10 : Int) (l : List S74) : Option ByteArray := r18_Statement.g k ⟨a0, ⟨⟨a1, a2, a3⟩, a4⟩, a5, a6, a7, a8, a9, a10, l⟩
theorem rsList.mono (k : Nat) : ∀ l, LeO (rsList k l) (rsList (k + 1) l)
  | [] => LeO.refl _
  | x :: xs => LeO.bind (r06_Number.mono _ _) fun _ => LeO.bind (rsList.mono k xs) fun _ => LeO.refl _
theorem r18_Statement.mono (a0 : ByteArray) (a1 : Bool) (a2 a3 a4 a5 a6 a7 a8 : Int) (a9 : Bool) (a10 : Int) (l : List S74) (k : Nat) : LeO (r18_Statement.f k a0 a1 a2 a3 a4 a5 a6 a7 a8 a9 a10 l) (r18_Statement.f (k + 1) a0 a1 a2 a3 a4 a5 a6 a7 a8 a9 a10 l) :=
  LeO.bind (r06_FormatPrefix.mono _ _ _ _ _) fun _ => LeO.bind (r06_Number.mono _ _) fun _ => LeO.bind (r06_Number.mono _ _) fun _ => LeO.bind (r06_Number.mono _ _) fun _ => LeO.bind (rsList.mono _ _) fun _ => LeO.refl _
end Go.Proofs.YtnphnhkinjppjaaGreatDoor.Q
end

section
namespace Go.Proofs.YtnphnhkinjppjaaGreatDoor.Q
open Go.RowKit Go.Proofs.YtnphnhkinjppjaaGreatDoorW.PrintWords Go.Proofs.YtnphnhkinjppjaaGreatDoorW.PrintLast Go.Proofs.YtnphnhkinjppjaaGreatDoorW.PrintMore
attribute [local go_sem] max2_int min2_int max_two min_two max_three min_three max_four min_four
def r18_Format.l0 : Nat → List (S36) → ByteArray → Int → Option (ByteArray)
  | 0, _, _, _ => none
  | k + 1, x0, x3, x4 => if x4 < (x0.length : Int) then (if 0 ≤ x4 then ((r18_Statement.f k ((rd_T36 x0 x4).f0) ((rd_T36 x0 x4).f1.f0.f0) ((rd_T36 x0 x4).f1.f0.f1) ((rd_T36 x0 x4).f1.f0.f2) ((rd_T36 x0 x4).f1.f1) ((rd_T36 x0 x4).f2) ((rd_T36 x0 x4).f3) ((rd_T36 x0 x4).f4) ((rd_T36 x0 x4).f5) ((rd_T36 x0 x4).f6) ((rd_T36 x0 x4).f7) ((rd_T36 x0 x4).f8)).bind fun t386 => (if t386.size + 1 ≤ 9223372036854775807 then (if x3.size + (t386 ++ (⟨#[10]⟩ : ByteArray)).size ≤ 9223372036854775807 then (r18_Format.l0 k x0 (x3 ++ (t386 ++ (⟨#[10]⟩ : ByteArray))) (wrap64 (x4 + 1))) else (none)) else (none))) else (none)) else (some x3)
def r18_Format.f (k : Nat) (l0 : List (S36)) : Option (ByteArray) := (r18_Check.f k l0).bind fun t384 => (if t384 = 0 then (r18_Format.l0 k l0 (⟨#[]⟩ : ByteArray) 0) else (some (⟨#[]⟩ : ByteArray)))
theorem r18_Format.mono_l : ∀ k, (∀ y0 y1 y2, LeO (r18_Format.l0 k y0 y1 y2) (r18_Format.l0 (k + 1) y0 y1 y2))
  | 0 => fun _ _ _ r h => by simp [r18_Format.l0] at h
  | k + 1 => by
    have ih0 := r18_Format.mono_l k
    · intro y0 y1 y2
      unfold r18_Format.l0
      repeat' first
      | (with_reducible exact ih0 _ _ _)
      | (with_reducible exact r18_Check.mono _ _)
      | (with_reducible exact r18_Statement.mono _ _ _ _ _ _ _ _ _ _ _ _ _)
      | (with_reducible exact LeO.refl _)
      | (with_reducible exact LeO.none _)
      | (with_reducible refine LeO.ite ?_ ?_)
      | (with_reducible refine LeO.bind ?_ (fun _ => ?_))
theorem r18_Format.mono : ∀ a0 k, LeO (r18_Format.f k a0) (r18_Format.f (k + 1) a0) := by
  intro a0 k
  have ih0 := r18_Format.mono_l k
  unfold r18_Format.f
  repeat' first
      | (with_reducible exact ih0 _ _ _)
      | (with_reducible exact r18_Check.mono _ _)
      | (with_reducible exact r18_Statement.mono _ _ _ _ _ _ _ _ _ _ _ _ _)
      | (with_reducible exact LeO.refl _)
      | (with_reducible exact LeO.none _)
      | (with_reducible refine LeO.ite ?_ ?_)
      | (with_reducible refine LeO.bind ?_ (fun _ => ?_))
end Go.Proofs.YtnphnhkinjppjaaGreatDoor.Q
end

section
namespace Go.Proofs.YtnphnhkinjppjaaGreatDoor.Q
open Go.RowKit Go.Proofs.YtnphnhkinjppjaaGreatDoorW.PrintWords Go.Proofs.YtnphnhkinjppjaaGreatDoorW.PrintLast Go.Proofs.YtnphnhkinjppjaaGreatDoorW.PrintMore
theorem dig_tab : ((List.range 10).all fun m => (strOfNums [(wrap64 (48 + (m : Int))) % 256]).data.toList == [UInt8.ofNat (48 + m)]) = true := by kernel_rfl
theorem dig_eq {m : Nat} (h : m < 10) : strOfNums [(wrap64 (48 + (m : Int))) % 256] = ⟨#[UInt8.ofNat (48 + m)]⟩ := by
  have := List.all_eq_true.1 dig_tab m (List.mem_range.2 h)
  rw [beq_iff_eq] at this
  apply ByteArray.ext
  rw [← Array.toList_inj, this]
theorem rnum0 : ∀ (d n : Nat) (t : ByteArray), d ≤ 9 → n < 10 ^ (d + 1) → t.size + d ≤ 100 → Ev (fun k => r06_Number.l0 k (n : Int) t) ((⟨(Lib.decDigits n).toArray⟩ : ByteArray) ++ t) := by
  intro d
  induction d with
  | zero =>
    intro n t hd hn ht
    have hn : n < 10 := by simpa using hn
    refine Ev.step (f := fun _ => some ((⟨(Lib.decDigits n).toArray⟩ : ByteArray) ++ t)) (fun k => ?_) (Ev.now _)
    rw [r06_Number.l0, if_neg (by omega), Option.bind_some, dig_eq hn, if_pos (by show 1 + t.size ≤ _; omega), Lib.decDigits_one hn]
  | succ d ih =>
    intro n t hd hn ht
    by_cases h : n < 10
    · refine Ev.step (f := fun _ => some ((⟨(Lib.decDigits n).toArray⟩ : ByteArray) ++ t)) (fun k => ?_) (Ev.now _)
      rw [r06_Number.l0, if_neg (by omega), Option.bind_some, dig_eq h, if_pos (by show 1 + t.size ≤ _; omega), Lib.decDigits_one h]
    · have hm : n % 10 < 10 := Nat.mod_lt _ (by decide)
      have hq : n / 10 < 10 ^ (d + 1) := Nat.div_lt_of_lt_mul (by rw [Nat.pow_succ, Nat.mul_comm] at hn; exact hn)
      have hb : n < 9223372036854775808 := by
        have := Nat.pow_le_pow_right (show 0 < 10 by decide) (show d + 1 + 1 ≤ 10 by omega)
        rw [show (10 : Nat) ^ 10 = 10000000000 from by decide] at this
        omega
      have := ih (n / 10) (⟨#[UInt8.ofNat (48 + n % 10)]⟩ ++ t) (by omega) hq (by rw [ByteArray.size_append, show (⟨#[UInt8.ofNat (48 + n % 10)]⟩ : ByteArray).size = 1 from rfl]; omega)
      rw [show (⟨(Lib.decDigits n).toArray⟩ : ByteArray) ++ t = ⟨(Lib.decDigits (n / 10)).toArray⟩ ++ (⟨#[UInt8.ofNat (48 + n % 10)]⟩ ++ t) from by rw [Lib.decDigits, dif_neg h]; exact ba_app _ _ _]
      refine Ev.step (fun k => ?_) this
      have e1 : Int.tmod (n : Int) 10 = ((n % 10 : Nat) : Int) := rfl
      have e2 : wrap64 (Int.tdiv (n : Int) 10) = ((n / 10 : Nat) : Int) := by rw [show Int.tdiv (n : Int) 10 = ((n / 10 : Nat) : Int) from rfl, wid (by omega) (by omega)]
      rw [r06_Number.l0, if_pos (by omega), Option.bind_some, e1, e2, dig_eq hm, if_pos (by show 1 + t.size ≤ _; omega)]
theorem ba_nil (s : ByteArray) : s ++ ⟨#[]⟩ = s := by apply ByteArray.ext; rw [ByteArray.data_append]; simp
theorem rnum_ev {n : Int} (h0 : 0 ≤ n) (h1 : n ≤ 1000000) : Ev (fun k => r06_Number.f k n) (decB n) := by
  have := rnum0 9 n.toNat ⟨#[]⟩ (by omega) (by rw [show (10 : Nat) ^ (9 + 1) = 10000000000 from by decide]; omega) (by decide)
  rw [ba_nil, show ((n.toNat : Nat) : Int) = n from by omega] at this
  rw [show decB n = ⟨(Lib.decDigits n.toNat).toArray⟩ from by unfold decB Lib.itoa; rw [if_neg (by omega)]]
  exact this
theorem decB_size {n : Int} (h0 : 0 ≤ n) (h1 : n ≤ 1000000) : (decB n).size ≤ 21 := by
  have := Lib.itoa_length_le n (by omega) (by omega)
  show (Lib.itoa n).toArray.size ≤ 21
  simpa using this
def chkR (pre : List S36) : List S36 → Int
  | [] => 0
  | b :: bs => if oneR b = 0 then (if (pre.any fun x => clash x b) = true then 7 else if twR [] b.f8 = true then 7 else chkR (pre ++ [b]) bs) else oneR b
theorem one_len {b : S36} (h : oneR b = 0) : b.f8.length ≤ 16 := by
  unfold oneR at h
  split at h
  · cases h
  · omega
theorem take_as {l : List S36} {i : Nat} (h : i < l.length) : l.take i ++ [l[i]] = l.take (i + 1) := List.take_append_getElem h
theorem chk_l (l : List S36) (ha : ∀ x ∈ l, AW x.f1.f0) : ∀ (d i : Nat), l.length - i = d → i ≤ l.length → Ev (fun k => asset_Check.l0 k l i) (chkR (l.take i) (l.drop i))
  | 0, i, hd, hi => by
    rw [List.drop_of_length_le (by omega), chkR]
    refine Ev.step (f := fun _ => some 0) (fun k => ?_) (Ev.now _)
    rw [asset_Check.l0, if_neg (by omega)]
  | d + 1, i, hd, hi => by
    have h : i < l.length := by omega
    have ih := chk_l l ha d (i + 1) (by omega) (by omega)
    rw [List.drop_eq_getElem_cons h, chkR, take_as h]
    refine Ev.step (f := fun k => (asset_checkOne.f k l[i].f0 l[i].f1.f0.f0 l[i].f1.f0.f1 l[i].f1.f0.f2 l[i].f1.f1 l[i].f2 l[i].f3 l[i].f4 l[i].f5 l[i].f6 l[i].f7 l[i].f8).bind fun e => if e = 0 then (if ((l.take i).any fun b => clash b l[i]) = true then some 7 else (asset_twice.f k l[i].f8).bind fun t => if t = true then some 7 else asset_Check.l0 k l (i + 1)) else some e) (fun k => by rw [asset_Check.l0, if_pos h, as_get h]) ?_
    refine Ev.bind (one_ev _ (ha _ (List.getElem_mem h))) ?_
    refine ev_ite (fun h0 => ?_) fun h0 => ev_is (by rw [if_neg h0])
    rw [if_pos h0]
    refine ev_ite (fun h1 => ev_is (by rw [if_pos h1])) fun h1 => ?_
    rw [if_neg h1]
    refine Ev.bind (twice_ev _ (by have := one_len h0; omega)) ?_
    refine ev_ite (fun h2 => ev_is (by rw [if_pos h2])) fun h2 => ?_
    rw [if_neg h2]
    exact ih
def chkB (l : List S36) : Int := if (l.length : Int) > 64 then 3 else chkR [] l
theorem check_ev (l : List S36) (ha : ∀ x ∈ l, AW x.f1.f0) : Ev (fun k => asset_Check.f k l) (chkB l) := by
  unfold asset_Check.f chkB
  refine ev_ite (fun h => ev_is (by rw [if_pos h])) fun h => ?_
  rw [if_neg h]
  exact chk_l l ha _ 0 rfl (by omega)
theorem rone_ev (b : S36) (ha : AW b.f1.f0) : Ev (fun k => refOne k b) (oneR b) := by
  unfold refOne oneR
  refine ev_ite (fun h => ev_is (by rw [if_pos (by omega)])) fun h => ?_
  rw [if_neg (show ¬ 16 < b.f8.length from by omega)]
  refine Ev.bind (rIsName_ev b.f0) ?_
  refine ev_ite (fun hn => ?_) fun hn => ev_is (by rw [if_neg hn])
  rw [if_pos hn]
  refine Ev.bind (rng_ev b (by omega)) ?_
  refine ev_ite (fun hq => ?_) fun hq => ev_is (by rw [if_neg hq])
  rw [if_pos hq]
  refine Ev.bind (rvp_ev ha b.f1.f1) ?_
  exact ev_ite (fun hv => ev_is (by rw [if_pos hv])) fun hv => ev_is (by rw [if_neg hv])
theorem rchk_l (l : List S36) (ha : ∀ x ∈ l, AW x.f1.f0) : ∀ (d i : Nat), l.length - i = d → i ≤ l.length → Ev (fun k => r18_Check.l0 k l i) (chkR (l.take i) (l.drop i))
  | 0, i, hd, hi => by
    rw [List.drop_of_length_le (by omega), chkR]
    refine Ev.step (f := fun _ => some 0) (fun k => ?_) (Ev.now _)
    rw [r18_Check.l0, if_neg (by omega)]
  | d + 1, i, hd, hi => by
    have h : i < l.length := by omega
    have ih := rchk_l l ha d (i + 1) (by omega) (by omega)
    rw [List.drop_eq_getElem_cons h, chkR, take_as h]
    refine Ev.step (f := fun k => (refOne k l[i]).bind fun e => if e = 0 then (if ((l.take i).any fun b => clash b l[i]) = true then some 7 else (refTwice k l[i]).bind fun t => if t = true then some 7 else r18_Check.l0 k l (i + 1)) else some e) (fun k => by rw [r18_Check.l0, if_pos h, as_get h]) ?_
    refine Ev.bind (rone_ev _ (ha _ (List.getElem_mem h))) ?_
    refine ev_ite (fun h0 => ?_) fun h0 => ev_is (by rw [if_neg h0])
    rw [if_pos h0]
    refine ev_ite (fun h1 => ev_is (by rw [if_pos h1])) fun h1 => ?_
    rw [if_neg h1]
    refine Ev.bind (rtwice_ev _ (by have := one_len h0; omega)) ?_
    refine ev_ite (fun h2 => ev_is (by rw [if_pos h2])) fun h2 => ?_
    rw [if_neg h2]
    exact ih
theorem rcheck_ev (l : List S36) (ha : ∀ x ∈ l, AW x.f1.f0) : Ev (fun k => r18_Check.f k l) (chkB l) := by
  unfold r18_Check.f chkB
  refine ev_ite (fun h => ev_is (by rw [if_pos h])) fun h => ?_
  rw [if_neg h]
  exact rchk_l l ha _ 0 rfl (by omega)
theorem chkR_one : ∀ (l pre : List S36), chkR pre l = 0 → ∀ b ∈ l, oneR b = 0
  | [], _, _, b, hb => by cases hb
  | x :: xs, pre, h, b, hb => by
    rw [chkR] at h
    split at h
    · rename_i h0
      rcases List.mem_cons.1 hb with rfl | hb
      · exact h0
      · split at h
        · cases h
        · split at h
          · cases h
          · exact chkR_one xs _ h b hb
    · rename_i h0
      exact absurd h h0
theorem chkB_one {l : List S36} (h : chkB l = 0) : l.length ≤ 64 ∧ ∀ b ∈ l, oneR b = 0 := by
  unfold chkB at h
  split at h
  · cases h
  · exact ⟨by omega, chkR_one l [] h⟩
structure GoodA (a : S36) : Prop where
  f8 : a.f8.length ≤ 16
  name : nameB a.f0.data.toList = true
  num : 1 ≤ a.f2 ∧ a.f2 ≤ 4 ∧ 1 ≤ a.f3 ∧ a.f3 ≤ 5 ∧ 0 ≤ a.f4 ∧ a.f4 ≤ 64 ∧ 1 ≤ a.f5 ∧ a.f5 ≤ 8192 ∧ 0 ≤ a.f7 ∧ a.f7 ≤ 3
  svc : ∀ s ∈ a.f8, (s.f0 = 6 ∨ s.f0 = 17) ∧ 0 ≤ s.f1 ∧ s.f1 ≤ 65535 ∧ 0 ≤ s.f2 ∧ s.f2 ≤ 4
  vp : vpB a.f1.f0 a.f1.f1 = true
theorem good_of {a : S36} (h : oneR a = 0) : GoodA a := by
  have hl := one_len h
  unfold oneR at h
  rw [if_neg (by omega)] at h
  split at h
  · rename_i hn
    split at h
    · rename_i hq
      split at h
      · rename_i hv
        rw [Bool.and_eq_true, List.all_eq_true] at hq
        exact ⟨hl, hn, of_decide_eq_true hq.1, fun s hs => of_decide_eq_true (hq.2 s hs), hv⟩
      · cases h
    · cases h
  · cases h
theorem GoodA.fine {a : S36} (h : GoodA a) : fineB a = true := by
  have hs : a.f0.size ≤ 100 := by
    have := h.name
    unfold nameB at this
    simp only [Bool.and_eq_true, decide_eq_true_eq] at this
    rw [size_list]
    omega
  have hn := h.num
  have hl := h.f8
  unfold fineB
  simp only [Bool.and_eq_true, decide_eq_true_eq, List.all_eq_true]
  refine ⟨⟨⟨⟨⟨⟨⟨⟨⟨⟨⟨⟨hs, by omega⟩, by omega⟩, by omega⟩, by omega⟩, by omega⟩, by omega⟩, by omega⟩, by omega⟩, by omega⟩, by omega⟩, by omega⟩, fun s hs => ?_⟩
  have := h.svc s hs
  exact ⟨⟨⟨by omega, by omega⟩, by omega⟩, by omega⟩
theorem GoodA.bits {a : S36} (h : GoodA a) : 0 ≤ a.f1.f1 ∧ a.f1.f1 ≤ szA a.f1.f0.f0 ∧ a.f1.f1 < 256 := by
  have := h.vp
  unfold vpB at this
  simp only [Bool.and_eq_true, decide_eq_true_eq] at this
  have h2 := szA_le a.f1.f0.f0
  omega
def fpA (a : S36) : ByteArray := txtP a.f1.f0 a.f1.f1
theorem GoodA.fps {a : S36} (h : GoodA a) : (fpA a).size ≤ 1000 := by
  have h1 := txtA_size a.f1.f0
  have h2 := decB_size h.bits.1 (by have := h.bits.2.2; omega)
  unfold fpA txtP
  rw [ByteArray.size_append, ByteArray.size_append, show (⟨#[47]⟩ : ByteArray).size = 1 from rfl]
  omega
theorem rsList_ev : ∀ (l : List S74), (∀ x ∈ l, 0 ≤ x.f1 ∧ x.f1 ≤ 65535) → Ev (fun k => rsList k l) (l.map fun x => decB x.f1)
  | [], _ => Ev.now _
  | x :: xs, h => by
    have h1 := h x (List.mem_cons_self ..)
    exact Ev.bind (rnum_ev h1.1 (by omega)) (Ev.bind (rsList_ev xs fun y hy => h y (List.mem_cons_of_mem _ hy)) (Ev.now _))
def stB (a : S36) : ByteArray := rsAll a (fpA a) (decB a.f4) (decB a.f5) (decB a.f7) (a.f8.map fun x => decB x.f1)
theorem GoodA.st {a : S36} (h : GoodA a) : Ev (fun k => r18_Statement.f k a.f0 a.f1.f0.f0 a.f1.f0.f1 a.f1.f0.f2 a.f1.f1 a.f2 a.f3 a.f4 a.f5 a.f6 a.f7 a.f8) (stB a) := by
  have hn := h.num
  have s4 := decB_size (n := a.f4) (by omega) (by omega)
  have s5 := decB_size (n := a.f5) (by omega) (by omega)
  have s7 := decB_size (n := a.f7) (by omega) (by omega)
  refine Ev.bind (rfp_ev a.f1.f0 h.bits.1 h.bits.2.2) (Ev.bind (rnum_ev (n := a.f4) (by omega) (by omega)) (Ev.bind (rnum_ev (n := a.f5) (by omega) (by omega)) (Ev.bind (rnum_ev (n := a.f7) (by omega) (by omega)) (Ev.bind (rsList_ev a.f8 fun x hx => ⟨(h.svc x hx).2.1, (h.svc x hx).2.2.1⟩) ?_))))
  refine Ev.congr (fun k => if_pos ?_) (Ev.now _)
  have hf := h.fine
  have hfp := h.fps
  unfold fpA at hfp
  simp only [Bool.and_eq_true, decide_eq_true_eq, List.all_eq_true]
  refine ⟨⟨⟨⟨⟨hf, hfp⟩, by omega⟩, by omega⟩, by omega⟩, fun t ht => ?_⟩
  obtain ⟨x, hx, rfl⟩ := List.mem_map.1 ht
  have := h.svc x hx
  have := decB_size (n := x.f1) (by omega) (by omega)
  omega
end Go.Proofs.YtnphnhkinjppjaaGreatDoor.Q
end

section
set_option maxHeartbeats 8000000
set_option maxRecDepth 100000
namespace Go.Proofs.YtnphnhkinjppjaaGreatDoor.Q
open Go.RowKit Go.Proofs.YtnphnhkinjppjaaGreatDoorW.PrintWords Go.Proofs.YtnphnhkinjppjaaGreatDoorW.PrintLast Go.Proofs.YtnphnhkinjppjaaGreatDoorW.PrintMore
attribute [local go_sem] max2_int min2_int max_two min_two max_three min_three max_four min_four
mutual
def r18_Few.l0 : Nat → List (S36) → Int → Option (Bool)
  | 0, _, _ => none
  | k + 1, x0, x3 => if x3 < (x0.length : Int) then (r18_Few.j1 k x0 x3 (decide (x3 < 71))) else (r18_Few.j1 k x0 x3 false)
def r18_Few.j1 : Nat → List (S36) → Int → Bool → Option (Bool)
  | 0, _, _, _ => none
  | k + 1, x0, x3, x11 => if x11 = true then (if 0 ≤ x3 then (if x3 < (x0.length : Int) then (if (((rd_T36 x0 x3).f8).length : Int) > 20 then (some false) else (if (((rd_T36 x0 x3).f0).size : Int) > 100 then (some false) else (r18_Few.l0 k x0 (wrap64 (x3 + 1))))) else (none)) else (none)) else (some (decide ((x0.length : Int) ≤ 70)))
end
def r18_Few.f (k : Nat) (l0 : List (S36)) : Option (Bool) := r18_Few.l0 k l0 0
theorem r18_Few.mono_l : ∀ k, (∀ y0 y1, LeO (r18_Few.l0 k y0 y1) (r18_Few.l0 (k + 1) y0 y1)) ∧ (∀ y0 y1 y2, LeO (r18_Few.j1 k y0 y1 y2) (r18_Few.j1 (k + 1) y0 y1 y2))
  | 0 => ⟨fun _ _ r h => by simp [r18_Few.l0] at h, fun _ _ _ r h => by simp [r18_Few.j1] at h⟩
  | k + 1 => by
    obtain ⟨ih0, ih1⟩ := r18_Few.mono_l k
    refine ⟨?_, ?_⟩
    · intro y0 y1
      unfold r18_Few.l0
      repeat' first
      | (with_reducible exact ih0 _ _)
      | (with_reducible exact ih1 _ _ _)
      | (with_reducible exact LeO.refl _)
      | (with_reducible exact LeO.none _)
      | (with_reducible refine LeO.ite ?_ ?_)
      | (with_reducible refine LeO.bind ?_ (fun _ => ?_))
    · intro y0 y1 y2
      unfold r18_Few.j1
      repeat' first
      | (with_reducible exact ih0 _ _)
      | (with_reducible exact ih1 _ _ _)
      | (with_reducible exact LeO.refl _)
      | (with_reducible exact LeO.none _)
      | (with_reducible refine LeO.ite ?_ ?_)
      | (with_reducible refine LeO.bind ?_ (fun _ => ?_))
theorem r18_Few.mono : ∀ a0 k, LeO (r18_Few.f k a0) (r18_Few.f (k + 1) a0) := by
  intro a0 k
  obtain ⟨ih0, ih1⟩ := r18_Few.mono_l k
  unfold r18_Few.f
  repeat' first
      | (with_reducible exact ih0 _ _)
      | (with_reducible exact ih1 _ _ _)
      | (with_reducible exact LeO.refl _)
      | (with_reducible exact LeO.none _)
      | (with_reducible refine LeO.ite ?_ ?_)
      | (with_reducible refine LeO.bind ?_ (fun _ => ?_))
theorem r18_Few.calls (k : Nat) (A0 : Option Addr) (c0 : Nat) (l0 : List (S36)) (r : Bool) (w : World) (hr0 : Kd.C k36 w A0 l0.length l0) (hc0 : l0.length ≤ c0) (h : r18_Few.f k l0 = some r) :
 Calls Tryz.prog 10 #[.slice A0 l0.length c0] w fun e w' => e = .returned (.bool r) ∧ Drawn0 w w' := by
 have HR0 := Aside0.mk hr0; have HC0 := Aside0.mk hc0; clear hr0 hc0
 unfold r18_Few.f at h; have H := h
 clear h
 have H' := Aside0.mk H
 clear H
 go_enter Tryz.func10, Tryz.ntmps10
 go_wp2
 go_loopg [3] k (fun kq v3 w' => ∃ (x3_1 : Int), v3 = .int .i64 x3_1 ∧ Aside0 (r18_Few.l0 kq l0 x3_1 = some r) ∧ Aside0 (kq ≤ k) ∧ Drawn0 w w')
 case atStart => exact ⟨(0), zI, H', ⟨Nat.le_refl _⟩, by repeat (first | exact Drawn0.refl _ | apply Drawn0.step)⟩
 case round =>
  clear H'
  obtain ⟨x3_1, rfl, HA, HK1, ⟨m1, rfl⟩⟩ := hrel
  rcases gk with _ | k1
  · exact absurd HA.out (by simp [r18_Few.l0])
  have H := HA.out
  clear HA
  simp only [r18_Few.l0] at H
  have HC2 := Aside0.mk H; clear H
  go_upto_region 2 with (fail)
  go_cut [11] (fun v11 wc => ∃ (kq : Nat) (x11_1 : Bool), v11 = .bool x11_1 ∧ Aside0 (r18_Few.j1 kq l0 x3_1 x11_1 = some r) ∧ Aside0 (kq ≤ k1) ∧ Drawn0 w wc)
  case first =>
   have H := HC2.out
   clear HC2
   by_cases c3 : x3_1 < (l0.length : Int)
   · rw [if_pos c3] at H
     have c3b0 : decide (x3_1 < (l0.length : Int)) = true := decide_eq_true c3; clear c3
     (first | rw [c3b0] | (simp only [i64_w, i32_w]; rw [c3b0]) | skip)
     have H' := Aside0.mk H
     clear H
     go_wp2
     go_meet
     case rel => exact ⟨_, (decide (x3_1 < 71)), zI, H', ⟨by have := HK1.out; first | omega | exact Nat.le_refl _⟩, by repeat (first | exact Drawn0.refl _ | apply Drawn0.step)⟩
   rw [if_neg c3] at H
   have c3b0 : decide (x3_1 < (l0.length : Int)) = false := decide_eq_false c3; clear c3
   (first | rw [c3b0] | (simp only [i64_w, i32_w]; rw [c3b0]) | skip)
   have H' := Aside0.mk H
   clear H
   go_wp2
   go_meet
   case rel => exact ⟨_, (false), zI, H', ⟨by have := HK1.out; first | omega | exact Nat.le_refl _⟩, by repeat (first | exact Drawn0.refl _ | apply Drawn0.step)⟩
  case rest =>
   clear HC2
   obtain ⟨kq, x11_1, rfl, HA, HJ1, ⟨mc1, rfl⟩⟩ := hcut
   rcases kq with _ | kj1
   · exact absurd HA.out (by simp [r18_Few.j1])
   have H := HA.out
   clear HA
   simp only [r18_Few.j1] at H
   by_cases c4 : x11_1 = true
   rotate_left
   · replace c4 := Bool.eq_false_iff.mpr c4
     subst c4; rw [if_neg zF] at H
     obtain rfl := Option.some.inj H
     go_wp2
     go_ret
     exact ⟨by first | rfl | (simp; done) | (simp [*]; done), by repeat (first | exact Drawn0.refl _ | apply Drawn0.step)⟩
   subst c4; rw [if_pos rfl] at H
   by_cases c5 : 0 ≤ x3_1
   rotate_left
   · rw [if_neg c5] at H
     exact absurd H (by simp)
   rw [if_pos c5] at H
   have c5b0 : decide (0 ≤ x3_1) = true := decide_eq_true c5; clear c5
   by_cases c6 : x3_1 < (l0.length : Int)
   rotate_left
   · rw [if_neg c6] at H
     exact absurd H (by simp)
   rw [if_pos c6] at H
   have c6b0 : decide (x3_1 < (l0.length : Int)) = true := decide_eq_true c6; clear c6
   by_cases c7 : (((rd_T36 l0 x3_1).f8).length : Int) > 20
   · rw [if_pos c7] at H
     have c7b0 : decide (20 < (((rd_T36 l0 x3_1).f8).length : Int)) = true := decide_eq_true c7
     have c7b1 : decide (20 < ((rd_T36 l0 x3_1).f8).length) = true := decide_eq_true (by omega)
     clear c7
     obtain rfl := Option.some.inj H
     have p101 : 0 ≤ (x3_1 : Int) := za
     have q101 : x3_1 < (l0.length : Int) := za
     obtain ⟨ad101, A101_11, c101_11, e101, hx101_0, hx101_1, hx101_2, hx101_3, hx101_4, hx101_5, hx101_6, hx101_7, hx101_8, hx101_9, hx101_10, hx101_11, hl101_11, hi101_11⟩ := at_T36 HR0.out x3_1 p101 q101
     cases e101
     have HR101_11 := Aside0.mk hi101_11; have HC101_11 := Aside0.mk hl101_11; clear hi101_11 hl101_11
     replace p101 := eq_true p101
     replace q101 := eq_true q101
     go_wp2
     go_ret
     exact ⟨by first | rfl | (simp; done) | (simp [*]; done), by repeat (first | exact Drawn0.refl _ | apply Drawn0.step)⟩
   rw [if_neg c7] at H; have c7b0 : decide (20 < (((rd_T36 l0 x3_1).f8).length : Int)) = false := decide_eq_false c7
   have c7b1 : decide (20 < ((rd_T36 l0 x3_1).f8).length) = false := decide_eq_false (by omega)
   clear c7
   by_cases c8 : (((rd_T36 l0 x3_1).f0).size : Int) > 100
   · rw [if_pos c8] at H
     have c8b0 : decide (100 < (((rd_T36 l0 x3_1).f0).size : Int)) = true := decide_eq_true c8
     have c8b1 : decide (100 < ((rd_T36 l0 x3_1).f0).size) = true := decide_eq_true (by omega)
     clear c8
     obtain rfl := Option.some.inj H
     have p101 : 0 ≤ (x3_1 : Int) := za
     have q101 : x3_1 < (l0.length : Int) := za
     obtain ⟨ad101, A101_11, c101_11, e101, hx101_0, hx101_1, hx101_2, hx101_3, hx101_4, hx101_5, hx101_6, hx101_7, hx101_8, hx101_9, hx101_10, hx101_11, hl101_11, hi101_11⟩ := at_T36 HR0.out x3_1 p101 q101
     cases e101
     have HR101_11 := Aside0.mk hi101_11; have HC101_11 := Aside0.mk hl101_11; clear hi101_11 hl101_11
     replace p101 := eq_true p101
     replace q101 := eq_true q101
     have p102 : 0 ≤ (x3_1 : Int) := za
     have q102 : x3_1 < (l0.length : Int) := za
     obtain ⟨ad102, A102_11, c102_11, e102, hx102_0, hx102_1, hx102_2, hx102_3, hx102_4, hx102_5, hx102_6, hx102_7, hx102_8, hx102_9, hx102_10, hx102_11, hl102_11, hi102_11⟩ := at_T36 HR0.out x3_1 p102 q102
     obtain rfl : ad101 = ad102 := (by injection e102)
     have HR102_11 := Aside0.mk hi102_11; have HC102_11 := Aside0.mk hl102_11; clear hi102_11 hl102_11
     replace p102 := eq_true p102
     replace q102 := eq_true q102
     have ea_ := Option.some.inj (hx101_11.symm.trans hx102_11)
     injection ea_ with ea_ en_ ec_
     subst ea_; subst ec_; clear en_
     go_wp2
     go_ret
     exact ⟨by first | rfl | (simp; done) | (simp [*]; done), by repeat (first | exact Drawn0.refl _ | apply Drawn0.step)⟩
   rw [if_neg c8] at H; have c8b0 : decide (100 < (((rd_T36 l0 x3_1).f0).size : Int)) = false := decide_eq_false c8
   have c8b1 : decide (100 < ((rd_T36 l0 x3_1).f0).size) = false := decide_eq_false (by omega)
   clear c8
   have H' := Aside0.mk H
   clear H
   have p101 : 0 ≤ (x3_1 : Int) := za
   have q101 : x3_1 < (l0.length : Int) := za
   obtain ⟨ad101, A101_11, c101_11, e101, hx101_0, hx101_1, hx101_2, hx101_3, hx101_4, hx101_5, hx101_6, hx101_7, hx101_8, hx101_9, hx101_10, hx101_11, hl101_11, hi101_11⟩ := at_T36 HR0.out x3_1 p101 q101
   cases e101
   have HR101_11 := Aside0.mk hi101_11; have HC101_11 := Aside0.mk hl101_11; clear hi101_11 hl101_11
   replace p101 := eq_true p101
   replace q101 := eq_true q101
   have p102 : 0 ≤ (x3_1 : Int) := za
   have q102 : x3_1 < (l0.length : Int) := za
   obtain ⟨ad102, A102_11, c102_11, e102, hx102_0, hx102_1, hx102_2, hx102_3, hx102_4, hx102_5, hx102_6, hx102_7, hx102_8, hx102_9, hx102_10, hx102_11, hl102_11, hi102_11⟩ := at_T36 HR0.out x3_1 p102 q102
   obtain rfl : ad101 = ad102 := (by injection e102)
   have HR102_11 := Aside0.mk hi102_11; have HC102_11 := Aside0.mk hl102_11; clear hi102_11 hl102_11
   replace p102 := eq_true p102
   replace q102 := eq_true q102
   have ea_ := Option.some.inj (hx101_11.symm.trans hx102_11)
   injection ea_ with ea_ en_ ec_
   subst ea_; subst ec_; clear en_
   go_wp2
   go_roundg kj1
   case measure => have := HK1.out; have := HJ1.out; omega
   case rel => exact ⟨(wrap64 (x3_1 + 1)), zI, H', ⟨by have := HK1.out; have := HJ1.out; omega⟩, by repeat (first | exact Drawn0.refl _ | apply Drawn0.step)⟩
end Go.Proofs.YtnphnhkinjppjaaGreatDoor.Q
end

section
namespace Go.Proofs.YtnphnhkinjppjaaGreatDoor.Q
open Go.RowKit Go.Proofs.YtnphnhkinjppjaaGreatDoorW.PrintWords Go.Proofs.YtnphnhkinjppjaaGreatDoorW.PrintLast Go.Proofs.YtnphnhkinjppjaaGreatDoorW.PrintMore
attribute [local go_sem] max2_int min2_int max_two min_two max_three min_three max_four min_four
theorem eqA74 (d : Nat) (w : World) (x0 y0 : Int) (x1 y1 : Int) (x2 y2 : Int) :
    (Op.equalIn (d + 2) 74 (.agg #[.int .i64 x0, .int .i64 x1, .int .i64 x2]) (.agg #[.int .i64 y0, .int .i64 y1, .int .i64 y2])).run Tryz.prog w = .ok (x0 == y0 && (x1 == y1 && (x2 == y2))) w := by
  refine eqA_of Tryz.underlying74 (by kernel_rfl) ?_
  refine eqf_cons (by rfl) (by go_simp; rfl) (by go_simp; rfl) (by go_simp) ?_
  refine eqf_cons (by rfl) (by go_simp; rfl) (by go_simp; rfl) (by go_simp) ?_
  exact eqf_last (by rfl) (by go_simp; rfl) (by go_simp; rfl) (by go_simp)
end Go.Proofs.YtnphnhkinjppjaaGreatDoor.Q
end

section
set_option maxHeartbeats 8000000
set_option maxRecDepth 100000
namespace Go.Proofs.YtnphnhkinjppjaaGreatDoor.Q
open Go.RowKit Go.Proofs.YtnphnhkinjppjaaGreatDoorW.PrintWords Go.Proofs.YtnphnhkinjppjaaGreatDoorW.PrintLast Go.Proofs.YtnphnhkinjppjaaGreatDoorW.PrintMore
attribute [local go_sem] max2_int min2_int max_two min_two max_three min_three max_four min_four
attribute [local go_sem high] eqA33 eqA74
mutual
def r18_One.j0 : Nat → Bool → ByteArray → Bool → Int → Int → Int → Int → Int → Int → Int → Bool → Int → List (S74) → ByteArray → Bool → Int → Int → Int → Int → Int → Int → Int → Bool → Int → List (S74) → Option (Bool)
  | 0, _, _, _, _, _, _, _, _, _, _, _, _, _, _, _, _, _, _, _, _, _, _, _, _, _ => none
  | k + 1, x68, x388000, x388001, x388002, x388003, x388004, x388005, x388006, x388007, x388008, x388009, x388010, x388011, x389000, x389001, x389002, x389003, x389004, x389005, x389006, x389007, x389008, x389009, x389010, x389011 => if x68 = true then (some false) else (r18_One.l0 k 0 x388000 x388001 x388002 x388003 x388004 x388005 x388006 x388007 x388008 x388009 x388010 x388011 x389000 x389001 x389002 x389003 x389004 x389005 x389006 x389007 x389008 x389009 x389010 x389011)
def r18_One.l0 : Nat → Int → ByteArray → Bool → Int → Int → Int → Int → Int → Int → Int → Bool → Int → List (S74) → ByteArray → Bool → Int → Int → Int → Int → Int → Int → Int → Bool → Int → List (S74) → Option (Bool)
  | 0, _, _, _, _, _, _, _, _, _, _, _, _, _, _, _, _, _, _, _, _, _, _, _, _, _ => none
  | k + 1, x5, x388000, x388001, x388002, x388003, x388004, x388005, x388006, x388007, x388008, x388009, x388010, x388011, x389000, x389001, x389002, x389003, x389004, x389005, x389006, x389007, x389008, x389009, x389010, x389011 => if x5 < (x388011.length : Int) then (if 0 ≤ x5 then (if x5 < (x389011.length : Int) then (if (!(((rd_T74 x388011 x5).f0) == ((rd_T74 x389011 x5).f0)) || (!(((rd_T74 x388011 x5).f1) == ((rd_T74 x389011 x5).f1)) || (!(((rd_T74 x388011 x5).f2) == ((rd_T74 x389011 x5).f2))))) = true then (some false) else (r18_One.l0 k (wrap64 (x5 + 1)) x388000 x388001 x388002 x388003 x388004 x388005 x388006 x388007 x388008 x388009 x388010 x388011 x389000 x389001 x389002 x389003 x389004 x389005 x389006 x389007 x389008 x389009 x389010 x389011)) else (none)) else (none)) else (some true)
end
def r18_One.f (k : Nat) (a0_0 : ByteArray) (a0_1 : Bool) (a0_2 : Int) (a0_3 : Int) (a0_4 : Int) (a0_5 : Int) (a0_6 : Int) (a0_7 : Int) (a0_8 : Int) (a0_9 : Bool) (a0_10 : Int) (l0_11 : List (S74)) (a1_0 : ByteArray) (a1_1 : Bool) (a1_2 : Int) (a1_3 : Int) (a1_4 : Int) (a1_5 : Int) (a1_6 : Int) (a1_7 : Int) (a1_8 : Int) (a1_9 : Bool) (a1_10 : Int) (l1_11 : List (S74)) : Option (Bool) := if a0_0.toList = a1_0.toList then (if ((!(a0_1 == a1_1) || (!(a0_2 == a1_2) || (!(a0_3 == a1_3)))) || (!(a0_4 == a1_4))) = true then (r18_One.j0 k true a0_0 a0_1 a0_2 a0_3 a0_4 a0_5 a0_6 a0_7 a0_8 a0_9 a0_10 l0_11 a1_0 a1_1 a1_2 a1_3 a1_4 a1_5 a1_6 a1_7 a1_8 a1_9 a1_10 l1_11) else (if a0_5 = a1_5 then (if a0_6 = a1_6 then (if a0_7 = a1_7 then (if a0_8 = a1_8 then (if (a0_9 != a1_9) = true then (r18_One.j0 k true a0_0 a0_1 a0_2 a0_3 a0_4 a0_5 a0_6 a0_7 a0_8 a0_9 a0_10 l0_11 a1_0 a1_1 a1_2 a1_3 a1_4 a1_5 a1_6 a1_7 a1_8 a1_9 a1_10 l1_11) else (if a0_10 = a1_10 then (r18_One.j0 k ((l0_11.length : Int) != (l1_11.length : Int)) a0_0 a0_1 a0_2 a0_3 a0_4 a0_5 a0_6 a0_7 a0_8 a0_9 a0_10 l0_11 a1_0 a1_1 a1_2 a1_3 a1_4 a1_5 a1_6 a1_7 a1_8 a1_9 a1_10 l1_11) else (r18_One.j0 k true a0_0 a0_1 a0_2 a0_3 a0_4 a0_5 a0_6 a0_7 a0_8 a0_9 a0_10 l0_11 a1_0 a1_1 a1_2 a1_3 a1_4 a1_5 a1_6 a1_7 a1_8 a1_9 a1_10 l1_11))) else (r18_One.j0 k true a0_0 a0_1 a0_2 a0_3 a0_4 a0_5 a0_6 a0_7 a0_8 a0_9 a0_10 l0_11 a1_0 a1_1 a1_2 a1_3 a1_4 a1_5 a1_6 a1_7 a1_8 a1_9 a1_10 l1_11)) else (r18_One.j0 k true a0_0 a0_1 a0_2 a0_3 a0_4 a0_5 a0_6 a0_7 a0_8 a0_9 a0_10 l0_11 a1_0 a1_1 a1_2 a1_3 a1_4 a1_5 a1_6 a1_7 a1_8 a1_9 a1_10 l1_11)) else (r18_One.j0 k true a0_0 a0_1 a0_2 a0_3 a0_4 a0_5 a0_6 a0_7 a0_8 a0_9 a0_10 l0_11 a1_0 a1_1 a1_2 a1_3 a1_4 a1_5 a1_6 a1_7 a1_8 a1_9 a1_10 l1_11)) else (r18_One.j0 k true a0_0 a0_1 a0_2 a0_3 a0_4 a0_5 a0_6 a0_7 a0_8 a0_9 a0_10 l0_11 a1_0 a1_1 a1_2 a1_3 a1_4 a1_5 a1_6 a1_7 a1_8 a1_9 a1_10 l1_11))) else (r18_One.j0 k true a0_0 a0_1 a0_2 a0_3 a0_4 a0_5 a0_6 a0_7 a0_8 a0_9 a0_10 l0_11 a1_0 a1_1 a1_2 a1_3 a1_4 a1_5 a1_6 a1_7 a1_8 a1_9 a1_10 l1_11)
theorem r18_One.mono_l : ∀ k, (∀ y0 y1 y2 y3 y4 y5 y6 y7 y8 y9 y10 y11 y12 y13 y14 y15 y16 y17 y18 y19 y20 y21 y22 y23 y24, LeO (r18_One.j0 k y0 y1 y2 y3 y4 y5 y6 y7 y8 y9 y10 y11 y12 y13 y14 y15 y16 y17 y18 y19 y20 y21 y22 y23 y24) (r18_One.j0 (k + 1) y0 y1 y2 y3 y4 y5 y6 y7 y8 y9 y10 y11 y12 y13 y14 y15 y16 y17 y18 y19 y20 y21 y22 y23 y24)) ∧ (∀ y0 y1 y2 y3 y4 y5 y6 y7 y8 y9 y10 y11 y12 y13 y14 y15 y16 y17 y18 y19 y20 y21 y22 y23 y24, LeO (r18_One.l0 k y0 y1 y2 y3 y4 y5 y6 y7 y8 y9 y10 y11 y12 y13 y14 y15 y16 y17 y18 y19 y20 y21 y22 y23 y24) (r18_One.l0 (k + 1) y0 y1 y2 y3 y4 y5 y6 y7 y8 y9 y10 y11 y12 y13 y14 y15 y16 y17 y18 y19 y20 y21 y22 y23 y24))
  | 0 => ⟨fun _ _ _ _ _ _ _ _ _ _ _ _ _ _ _ _ _ _ _ _ _ _ _ _ _ r h => by simp [r18_One.j0] at h, fun _ _ _ _ _ _ _ _ _ _ _ _ _ _ _ _ _ _ _ _ _ _ _ _ _ r h => by simp [r18_One.l0] at h⟩
  | k + 1 => by
    obtain ⟨ih0, ih1⟩ := r18_One.mono_l k
    refine ⟨?_, ?_⟩
    · intro y0 y1 y2 y3 y4 y5 y6 y7 y8 y9 y10 y11 y12 y13 y14 y15 y16 y17 y18 y19 y20 y21 y22 y23 y24
      unfold r18_One.j0
      repeat' first
      | (with_reducible exact ih0 _ _ _ _ _ _ _ _ _ _ _ _ _ _ _ _ _ _ _ _ _ _ _ _ _)
      | (with_reducible exact ih1 _ _ _ _ _ _ _ _ _ _ _ _ _ _ _ _ _ _ _ _ _ _ _ _ _)
      | (with_reducible exact LeO.refl _)
      | (with_reducible exact LeO.none _)
      | (with_reducible refine LeO.ite ?_ ?_)
      | (with_reducible refine LeO.bind ?_ (fun _ => ?_))
    · intro y0 y1 y2 y3 y4 y5 y6 y7 y8 y9 y10 y11 y12 y13 y14 y15 y16 y17 y18 y19 y20 y21 y22 y23 y24
      unfold r18_One.l0
      repeat' first
      | (with_reducible exact ih0 _ _ _ _ _ _ _ _ _ _ _ _ _ _ _ _ _ _ _ _ _ _ _ _ _)
      | (with_reducible exact ih1 _ _ _ _ _ _ _ _ _ _ _ _ _ _ _ _ _ _ _ _ _ _ _ _ _)
      | (with_reducible exact LeO.refl _)
      | (with_reducible exact LeO.none _)
      | (with_reducible refine LeO.ite ?_ ?_)
      | (with_reducible refine LeO.bind ?_ (fun _ => ?_))
theorem r18_One.mono : ∀ a0 a1 a2 a3 a4 a5 a6 a7 a8 a9 a10 a11 a12 a13 a14 a15 a16 a17 a18 a19 a20 a21 a22 a23 k, LeO (r18_One.f k a0 a1 a2 a3 a4 a5 a6 a7 a8 a9 a10 a11 a12 a13 a14 a15 a16 a17 a18 a19 a20 a21 a22 a23) (r18_One.f (k + 1) a0 a1 a2 a3 a4 a5 a6 a7 a8 a9 a10 a11 a12 a13 a14 a15 a16 a17 a18 a19 a20 a21 a22 a23) := by
  intro a0 a1 a2 a3 a4 a5 a6 a7 a8 a9 a10 a11 a12 a13 a14 a15 a16 a17 a18 a19 a20 a21 a22 a23 k
  obtain ⟨ih0, ih1⟩ := r18_One.mono_l k
  unfold r18_One.f
  repeat' first
      | (with_reducible exact ih0 _ _ _ _ _ _ _ _ _ _ _ _ _ _ _ _ _ _ _ _ _ _ _ _ _)
      | (with_reducible exact ih1 _ _ _ _ _ _ _ _ _ _ _ _ _ _ _ _ _ _ _ _ _ _ _ _ _)
      | (with_reducible exact LeO.refl _)
      | (with_reducible exact LeO.none _)
      | (with_reducible refine LeO.ite ?_ ?_)
      | (with_reducible refine LeO.bind ?_ (fun _ => ?_))
theorem r18_One.calls (k : Nat) (a0_0 : ByteArray) (a0_1 : Bool) (a0_2 : Int) (a0_3 : Int) (a0_4 : Int) (a0_5 : Int) (a0_6 : Int) (a0_7 : Int) (a0_8 : Int) (a0_9 : Bool) (a0_10 : Int) (A0_11 : Option Addr) (c0_11 : Nat) (l0_11 : List (S74)) (a1_0 : ByteArray) (a1_1 : Bool) (a1_2 : Int) (a1_3 : Int) (a1_4 : Int) (a1_5 : Int) (a1_6 : Int) (a1_7 : Int) (a1_8 : Int) (a1_9 : Bool) (a1_10 : Int) (A1_11 : Option Addr) (c1_11 : Nat) (l1_11 : List (S74)) (r : Bool) (w : World) (hr0_11 : Kd.C k74 w A0_11 l0_11.length l0_11) (hc0_11 : l0_11.length ≤ c0_11) (hr1_11 : Kd.C k74 w A1_11 l1_11.length l1_11) (hc1_11 : l1_11.length ≤ c1_11) (h : r18_One.f k a0_0 a0_1 a0_2 a0_3 a0_4 a0_5 a0_6 a0_7 a0_8 a0_9 a0_10 l0_11 a1_0 a1_1 a1_2 a1_3 a1_4 a1_5 a1_6 a1_7 a1_8 a1_9 a1_10 l1_11 = some r) :
 Calls Tryz.prog 16 #[.agg #[.string a0_0, .bool a0_1, .int .u64 a0_2, .int .u64 a0_3, .int .i64 a0_4, .int .i64 a0_5, .int .i64 a0_6, .int .i64 a0_7, .int .i64 a0_8, .bool a0_9, .int .i64 a0_10, .slice A0_11 l0_11.length c0_11], .agg #[.string a1_0, .bool a1_1, .int .u64 a1_2, .int .u64 a1_3, .int .i64 a1_4, .int .i64 a1_5, .int .i64 a1_6, .int .i64 a1_7, .int .i64 a1_8, .bool a1_9, .int .i64 a1_10, .slice A1_11 l1_11.length c1_11]] w fun e w' => e = .returned (.bool r) ∧ Below w.heap.size w w' := by
 have hu36 := Tryz.underlying36
 have hu33 := Tryz.underlying33
 have hu74 := Tryz.underlying74
 have HR0_11 := Aside0.mk hr0_11; have HC0_11 := Aside0.mk hc0_11; clear hr0_11 hc0_11; have HR1_11 := Aside0.mk hr1_11; have HC1_11 := Aside0.mk hc1_11; clear hr1_11 hc1_11; have HB := Aside0.mk (Below.refl w.heap.size w)
 unfold r18_One.f at h; have H := h
 clear h; have HC3 := Aside0.mk H; clear H
 go_enter Tryz.func16, Tryz.ntmps16
 go_upto_region 1 with (first | ((with_reducible refine gate_dst (N := 2) rfl ?_); (try (refine gate_guard (by rfl) ?_; dsimp only)); refine zx 2 #[.string a0_0, .bool a0_1, .int .u64 a0_2, .int .u64 a0_3, .int .i64 a0_4, .int .i64 a0_5, .int .i64 a0_6, .int .i64 a0_7, .int .i64 a0_8, .bool a0_9, .int .i64 a0_10, .slice A0_11 l0_11.length c0_11] 36 ?_; intro gb387 hg w4 hbox hb; have BK387 := Aside0.mk (hbox); have GW387 := zG HB hg; have GE387 := zG HB hg; replace HB := Aside0.mk (below_step (zB HB) hb); clear hb hbox hg) | ((with_reducible refine gate_dst (N := 3) rfl ?_); (try (refine gate_guard (by rfl) ?_; dsimp only)); refine zx 3 #[.string a1_0, .bool a1_1, .int .u64 a1_2, .int .u64 a1_3, .int .i64 a1_4, .int .i64 a1_5, .int .i64 a1_6, .int .i64 a1_7, .int .i64 a1_8, .bool a1_9, .int .i64 a1_10, .slice A1_11 l1_11.length c1_11] 36 ?_; intro gb388 hg w5 hbox hb; have BK388 := Aside0.mk (hbox); have GW388 := zG HB hg; have GE388 := zG HB hg; replace HB := Aside0.mk (below_step (zB HB) hb); have NB387_388 := Aside0.mk ((by rw [hg]; exact Nat.ne_of_lt (blk_lt (g := gb387) (o := .cells #[.string a0_0, .bool a0_1, .int .u64 a0_2, .int .u64 a0_3, .int .i64 a0_4, .int .i64 a0_5, .int .i64 a0_6, .int .i64 a0_7, .int .i64 a0_8, .bool a0_9, .int .i64 a0_10, .slice A0_11 l0_11.length c0_11] 36 (0, 0)) (zK BK387)) : gb387 ≠ gb388)); have NB388_387 := Aside0.mk ((by rw [hg]; exact Nat.ne_of_gt (blk_lt (g := gb387) (o := .cells #[.string a0_0, .bool a0_1, .int .u64 a0_2, .int .u64 a0_3, .int .i64 a0_4, .int .i64 a0_5, .int .i64 a0_6, .int .i64 a0_7, .int .i64 a0_8, .bool a0_9, .int .i64 a0_10, .slice A0_11 l0_11.length c0_11] 36 (0, 0)) (zK BK387)) : gb388 ≠ gb387)); replace BK387 := zkb BK387 hb; clear hb hbox hg))
 repeat (go_quiet (first | ((with_reducible refine gate_dst (N := 2) rfl ?_); (try (refine gate_guard (by rfl) ?_; dsimp only)); refine zx 2 #[.string a0_0, .bool a0_1, .int .u64 a0_2, .int .u64 a0_3, .int .i64 a0_4, .int .i64 a0_5, .int .i64 a0_6, .int .i64 a0_7, .int .i64 a0_8, .bool a0_9, .int .i64 a0_10, .slice A0_11 l0_11.length c0_11] 36 ?_; intro gb387 hg w4 hbox hb; have BK387 := Aside0.mk (hbox); have GW387 := zG HB hg; have GE387 := zG HB hg; replace HB := Aside0.mk (below_step (zB HB) hb); clear hb hbox hg) | ((with_reducible refine gate_dst (N := 3) rfl ?_); (try (refine gate_guard (by rfl) ?_; dsimp only)); refine zx 3 #[.string a1_0, .bool a1_1, .int .u64 a1_2, .int .u64 a1_3, .int .i64 a1_4, .int .i64 a1_5, .int .i64 a1_6, .int .i64 a1_7, .int .i64 a1_8, .bool a1_9, .int .i64 a1_10, .slice A1_11 l1_11.length c1_11] 36 ?_; intro gb388 hg w5 hbox hb; have BK388 := Aside0.mk (hbox); have GW388 := zG HB hg; have GE388 := zG HB hg; replace HB := Aside0.mk (below_step (zB HB) hb); have NB387_388 := Aside0.mk ((by rw [hg]; exact Nat.ne_of_lt (blk_lt (g := gb387) (o := .cells #[.string a0_0, .bool a0_1, .int .u64 a0_2, .int .u64 a0_3, .int .i64 a0_4, .int .i64 a0_5, .int .i64 a0_6, .int .i64 a0_7, .int .i64 a0_8, .bool a0_9, .int .i64 a0_10, .slice A0_11 l0_11.length c0_11] 36 (0, 0)) (zK BK387)) : gb387 ≠ gb388)); have NB388_387 := Aside0.mk ((by rw [hg]; exact Nat.ne_of_gt (blk_lt (g := gb387) (o := .cells #[.string a0_0, .bool a0_1, .int .u64 a0_2, .int .u64 a0_3, .int .i64 a0_4, .int .i64 a0_5, .int .i64 a0_6, .int .i64 a0_7, .int .i64 a0_8, .bool a0_9, .int .i64 a0_10, .slice A0_11 l0_11.length c0_11] 36 (0, 0)) (zK BK387)) : gb388 ≠ gb387)); replace BK387 := zkb BK387 hb; clear hb hbox hg)); go_upto_region 1 with (first | ((with_reducible refine gate_dst (N := 2) rfl ?_); (try (refine gate_guard (by rfl) ?_; dsimp only)); refine zx 2 #[.string a0_0, .bool a0_1, .int .u64 a0_2, .int .u64 a0_3, .int .i64 a0_4, .int .i64 a0_5, .int .i64 a0_6, .int .i64 a0_7, .int .i64 a0_8, .bool a0_9, .int .i64 a0_10, .slice A0_11 l0_11.length c0_11] 36 ?_; intro gb387 hg w4 hbox hb; have BK387 := Aside0.mk (hbox); have GW387 := zG HB hg; have GE387 := zG HB hg; replace HB := Aside0.mk (below_step (zB HB) hb); clear hb hbox hg) | ((with_reducible refine gate_dst (N := 3) rfl ?_); (try (refine gate_guard (by rfl) ?_; dsimp only)); refine zx 3 #[.string a1_0, .bool a1_1, .int .u64 a1_2, .int .u64 a1_3, .int .i64 a1_4, .int .i64 a1_5, .int .i64 a1_6, .int .i64 a1_7, .int .i64 a1_8, .bool a1_9, .int .i64 a1_10, .slice A1_11 l1_11.length c1_11] 36 ?_; intro gb388 hg w5 hbox hb; have BK388 := Aside0.mk (hbox); have GW388 := zG HB hg; have GE388 := zG HB hg; replace HB := Aside0.mk (below_step (zB HB) hb); have NB387_388 := Aside0.mk ((by rw [hg]; exact Nat.ne_of_lt (blk_lt (g := gb387) (o := .cells #[.string a0_0, .bool a0_1, .int .u64 a0_2, .int .u64 a0_3, .int .i64 a0_4, .int .i64 a0_5, .int .i64 a0_6, .int .i64 a0_7, .int .i64 a0_8, .bool a0_9, .int .i64 a0_10, .slice A0_11 l0_11.length c0_11] 36 (0, 0)) (zK BK387)) : gb387 ≠ gb388)); have NB388_387 := Aside0.mk ((by rw [hg]; exact Nat.ne_of_gt (blk_lt (g := gb387) (o := .cells #[.string a0_0, .bool a0_1, .int .u64 a0_2, .int .u64 a0_3, .int .i64 a0_4, .int .i64 a0_5, .int .i64 a0_6, .int .i64 a0_7, .int .i64 a0_8, .bool a0_9, .int .i64 a0_10, .slice A0_11 l0_11.length c0_11] 36 (0, 0)) (zK BK387)) : gb388 ≠ gb387)); replace BK387 := zkb BK387 hb; clear hb hbox hg)))
 (try simp only [Act.put, List.setIfInBounds_toArray, List.set_cons_zero, List.set_cons_succ])
 go_cut [68] (fun v68 wc => ∃ (kq : Nat) (x68_2 : Bool), v68 = .bool x68_2 ∧ Aside0 (r18_One.j0 kq x68_2 a0_0 a0_1 a0_2 a0_3 a0_4 a0_5 a0_6 a0_7 a0_8 a0_9 a0_10 l0_11 a1_0 a1_1 a1_2 a1_3 a1_4 a1_5 a1_6 a1_7 a1_8 a1_9 a1_10 l1_11 = some r) ∧ Aside0 (kq ≤ k) ∧ Aside0 (wc.heap[gb387]? = some (.cells #[.string a0_0, .bool a0_1, .int .u64 a0_2, .int .u64 a0_3, .int .i64 a0_4, .int .i64 a0_5, .int .i64 a0_6, .int .i64 a0_7, .int .i64 a0_8, .bool a0_9, .int .i64 a0_10, (.slice A0_11 l0_11.length c0_11)] 36 (0, 0))) ∧ Aside0 (wc.heap[gb388]? = some (.cells #[.string a1_0, .bool a1_1, .int .u64 a1_2, .int .u64 a1_3, .int .i64 a1_4, .int .i64 a1_5, .int .i64 a1_6, .int .i64 a1_7, .int .i64 a1_8, .bool a1_9, .int .i64 a1_10, (.slice A1_11 l1_11.length c1_11)] 36 (0, 0))) ∧ Aside0 (Below w.heap.size w wc))
 case first =>
  have H := HC3.out
  clear HC3
  by_cases c6 : a0_0.toList = a1_0.toList
  rotate_left
  · rw [if_neg c6] at H
    have c6b0 : (a0_0.toList == a1_0.toList) = false := beq_eq_false_iff_ne.mpr c6
    have c6b1 : (a0_0.toList != a1_0.toList) = true := bne_iff_ne.mpr c6
    (first | rw [c6b0] | (simp only [i64_w, i32_w]; rw [c6b0]) | skip)
    have H' := Aside0.mk H
    clear H
    have hnb38 := NB387_388.out
    have hnc38 := NB388_387.out
    obtain ⟨hcz39_0, hcz39_1, hcz39_2, hcz39_3, hcz39_4, hcz39_5, hcz39_6, hcz39_7, hcz39_8, hcz39_9, hcz39_10, hcz39_11⟩ := zc12 BK387; obtain ⟨hfz39_0, hfz39_1, hfz39_2, hfz39_3, hfz39_4, hfz39_5, hfz39_6, hfz39_7, hfz39_8, hfz39_9, hfz39_10, hfz39_11⟩ := zf12 BK387; obtain ⟨hcz40_0, hcz40_1, hcz40_2, hcz40_3, hcz40_4, hcz40_5, hcz40_6, hcz40_7, hcz40_8, hcz40_9, hcz40_10, hcz40_11⟩ := zc12 BK388; obtain ⟨hfz40_0, hfz40_1, hfz40_2, hfz40_3, hfz40_4, hfz40_5, hfz40_6, hfz40_7, hfz40_8, hfz40_9, hfz40_10, hfz40_11⟩ := zf12 BK388
    go_wp2
    repeat (go_quiet (fail); try go_wp2)
    go_meet
    case rel => exact ⟨_, (true), zI, H', ⟨by first | omega | exact Nat.le_refl _⟩, ⟨zK BK387⟩, ⟨zK BK388⟩, ⟨zB HB⟩⟩
  rw [if_pos c6] at H
  have c6b0 : (a0_0.toList == a1_0.toList) = true := beq_iff_eq.mpr c6; have c6b1 : (a0_0.toList != a1_0.toList) = false := bne_eq_false_iff_eq.mpr c6; clear c6
  (first | rw [c6b0] | (simp only [i64_w, i32_w]; rw [c6b0]) | skip)
  by_cases c7 : ((!(a0_1 == a1_1) || (!(a0_2 == a1_2) || (!(a0_3 == a1_3)))) || (!(a0_4 == a1_4))) = true
  · rw [if_pos c7] at H
    have c7b0 : ((!(a0_1 == a1_1) || (!(a0_2 == a1_2) || (!(a0_3 == a1_3)))) || (!(a0_4 == a1_4))) = true := c7
    clear c7
    have H' := Aside0.mk H
    clear H
    have hnb8 := NB387_388.out
    have hnc8 := NB388_387.out
    obtain ⟨hcz9_0, hcz9_1, hcz9_2, hcz9_3, hcz9_4, hcz9_5, hcz9_6, hcz9_7, hcz9_8, hcz9_9, hcz9_10, hcz9_11⟩ := zc12 BK387; obtain ⟨hfz9_0, hfz9_1, hfz9_2, hfz9_3, hfz9_4, hfz9_5, hfz9_6, hfz9_7, hfz9_8, hfz9_9, hfz9_10, hfz9_11⟩ := zf12 BK387; obtain ⟨hcz10_0, hcz10_1, hcz10_2, hcz10_3, hcz10_4, hcz10_5, hcz10_6, hcz10_7, hcz10_8, hcz10_9, hcz10_10, hcz10_11⟩ := zc12 BK388; obtain ⟨hfz10_0, hfz10_1, hfz10_2, hfz10_3, hfz10_4, hfz10_5, hfz10_6, hfz10_7, hfz10_8, hfz10_9, hfz10_10, hfz10_11⟩ := zf12 BK388
    go_wp2
    repeat (go_quiet (fail); try go_wp2)
    go_meet
    case rel => exact ⟨_, (true), zI, H', ⟨by first | omega | exact Nat.le_refl _⟩, ⟨zK BK387⟩, ⟨zK BK388⟩, ⟨zB HB⟩⟩
  rw [if_neg c7] at H
  have c7b0 : ((!(a0_1 == a1_1) || (!(a0_2 == a1_2) || (!(a0_3 == a1_3)))) || (!(a0_4 == a1_4))) = false := by simpa using c7
  clear c7
  by_cases c11 : a0_5 = a1_5
  rotate_left
  · rw [if_neg c11] at H
    have c11b0 : (a0_5 == a1_5) = false := beq_eq_false_iff_ne.mpr c11
    have c11b1 : (a0_5 != a1_5) = true := bne_iff_ne.mpr c11
    have H' := Aside0.mk H
    clear H
    have hnb35 := NB387_388.out
    have hnc35 := NB388_387.out
    obtain ⟨hcz36_0, hcz36_1, hcz36_2, hcz36_3, hcz36_4, hcz36_5, hcz36_6, hcz36_7, hcz36_8, hcz36_9, hcz36_10, hcz36_11⟩ := zc12 BK387; obtain ⟨hfz36_0, hfz36_1, hfz36_2, hfz36_3, hfz36_4, hfz36_5, hfz36_6, hfz36_7, hfz36_8, hfz36_9, hfz36_10, hfz36_11⟩ := zf12 BK387; obtain ⟨hcz37_0, hcz37_1, hcz37_2, hcz37_3, hcz37_4, hcz37_5, hcz37_6, hcz37_7, hcz37_8, hcz37_9, hcz37_10, hcz37_11⟩ := zc12 BK388; obtain ⟨hfz37_0, hfz37_1, hfz37_2, hfz37_3, hfz37_4, hfz37_5, hfz37_6, hfz37_7, hfz37_8, hfz37_9, hfz37_10, hfz37_11⟩ := zf12 BK388
    go_wp2
    repeat (go_quiet (fail); try go_wp2)
    go_meet
    case rel => exact ⟨_, (true), zI, H', ⟨by first | omega | exact Nat.le_refl _⟩, ⟨zK BK387⟩, ⟨zK BK388⟩, ⟨zB HB⟩⟩
  rw [if_pos c11] at H
  have c11b0 : (a0_5 == a1_5) = true := beq_iff_eq.mpr c11; have c11b1 : (a0_5 != a1_5) = false := bne_eq_false_iff_eq.mpr c11; clear c11
  by_cases c12 : a0_6 = a1_6
  rotate_left
  · rw [if_neg c12] at H
    have c12b0 : (a0_6 == a1_6) = false := beq_eq_false_iff_ne.mpr c12
    have c12b1 : (a0_6 != a1_6) = true := bne_iff_ne.mpr c12
    have H' := Aside0.mk H
    clear H
    have hnb32 := NB387_388.out
    have hnc32 := NB388_387.out
    obtain ⟨hcz33_0, hcz33_1, hcz33_2, hcz33_3, hcz33_4, hcz33_5, hcz33_6, hcz33_7, hcz33_8, hcz33_9, hcz33_10, hcz33_11⟩ := zc12 BK387; obtain ⟨hfz33_0, hfz33_1, hfz33_2, hfz33_3, hfz33_4, hfz33_5, hfz33_6, hfz33_7, hfz33_8, hfz33_9, hfz33_10, hfz33_11⟩ := zf12 BK387; obtain ⟨hcz34_0, hcz34_1, hcz34_2, hcz34_3, hcz34_4, hcz34_5, hcz34_6, hcz34_7, hcz34_8, hcz34_9, hcz34_10, hcz34_11⟩ := zc12 BK388; obtain ⟨hfz34_0, hfz34_1, hfz34_2, hfz34_3, hfz34_4, hfz34_5, hfz34_6, hfz34_7, hfz34_8, hfz34_9, hfz34_10, hfz34_11⟩ := zf12 BK388
    go_wp2
    repeat (go_quiet (fail); try go_wp2)
    go_meet
    case rel => exact ⟨_, (true), zI, H', ⟨by first | omega | exact Nat.le_refl _⟩, ⟨zK BK387⟩, ⟨zK BK388⟩, ⟨zB HB⟩⟩
  rw [if_pos c12] at H
  have c12b0 : (a0_6 == a1_6) = true := beq_iff_eq.mpr c12; have c12b1 : (a0_6 != a1_6) = false := bne_eq_false_iff_eq.mpr c12; clear c12
  by_cases c13 : a0_7 = a1_7
  rotate_left
  · rw [if_neg c13] at H
    have c13b0 : (a0_7 == a1_7) = false := beq_eq_false_iff_ne.mpr c13
    have c13b1 : (a0_7 != a1_7) = true := bne_iff_ne.mpr c13
    have H' := Aside0.mk H
    clear H
    have hnb29 := NB387_388.out
    have hnc29 := NB388_387.out
    obtain ⟨hcz30_0, hcz30_1, hcz30_2, hcz30_3, hcz30_4, hcz30_5, hcz30_6, hcz30_7, hcz30_8, hcz30_9, hcz30_10, hcz30_11⟩ := zc12 BK387; obtain ⟨hfz30_0, hfz30_1, hfz30_2, hfz30_3, hfz30_4, hfz30_5, hfz30_6, hfz30_7, hfz30_8, hfz30_9, hfz30_10, hfz30_11⟩ := zf12 BK387; obtain ⟨hcz31_0, hcz31_1, hcz31_2, hcz31_3, hcz31_4, hcz31_5, hcz31_6, hcz31_7, hcz31_8, hcz31_9, hcz31_10, hcz31_11⟩ := zc12 BK388; obtain ⟨hfz31_0, hfz31_1, hfz31_2, hfz31_3, hfz31_4, hfz31_5, hfz31_6, hfz31_7, hfz31_8, hfz31_9, hfz31_10, hfz31_11⟩ := zf12 BK388
    go_wp2
    repeat (go_quiet (fail); try go_wp2)
    go_meet
    case rel => exact ⟨_, (true), zI, H', ⟨by first | omega | exact Nat.le_refl _⟩, ⟨zK BK387⟩, ⟨zK BK388⟩, ⟨zB HB⟩⟩
  rw [if_pos c13] at H
  have c13b0 : (a0_7 == a1_7) = true := beq_iff_eq.mpr c13; have c13b1 : (a0_7 != a1_7) = false := bne_eq_false_iff_eq.mpr c13; clear c13
  by_cases c14 : a0_8 = a1_8
  rotate_left
  · rw [if_neg c14] at H
    have c14b0 : (a0_8 == a1_8) = false := beq_eq_false_iff_ne.mpr c14
    have c14b1 : (a0_8 != a1_8) = true := bne_iff_ne.mpr c14
    have H' := Aside0.mk H
    clear H
    have hnb26 := NB387_388.out
    have hnc26 := NB388_387.out
    obtain ⟨hcz27_0, hcz27_1, hcz27_2, hcz27_3, hcz27_4, hcz27_5, hcz27_6, hcz27_7, hcz27_8, hcz27_9, hcz27_10, hcz27_11⟩ := zc12 BK387; obtain ⟨hfz27_0, hfz27_1, hfz27_2, hfz27_3, hfz27_4, hfz27_5, hfz27_6, hfz27_7, hfz27_8, hfz27_9, hfz27_10, hfz27_11⟩ := zf12 BK387; obtain ⟨hcz28_0, hcz28_1, hcz28_2, hcz28_3, hcz28_4, hcz28_5, hcz28_6, hcz28_7, hcz28_8, hcz28_9, hcz28_10, hcz28_11⟩ := zc12 BK388; obtain ⟨hfz28_0, hfz28_1, hfz28_2, hfz28_3, hfz28_4, hfz28_5, hfz28_6, hfz28_7, hfz28_8, hfz28_9, hfz28_10, hfz28_11⟩ := zf12 BK388
    go_wp2
    repeat (go_quiet (fail); try go_wp2)
    go_meet
    case rel => exact ⟨_, (true), zI, H', ⟨by first | omega | exact Nat.le_refl _⟩, ⟨zK BK387⟩, ⟨zK BK388⟩, ⟨zB HB⟩⟩
  rw [if_pos c14] at H
  have c14b0 : (a0_8 == a1_8) = true := beq_iff_eq.mpr c14; have c14b1 : (a0_8 != a1_8) = false := bne_eq_false_iff_eq.mpr c14; clear c14
  by_cases c15 : (a0_9 != a1_9) = true
  · rw [if_pos c15] at H
    have c15b0 : (a0_9 != a1_9) = true := c15
    (try (have c15b1 : decide (a0_9 = a1_9) = false := by first | (simpa using c15) | exact decide_eq_true (Decidable.not_not.1 (fun hn => c15 (bne_iff_ne.2 hn))) | exact beq_iff_eq.2 (Decidable.not_not.1 (fun hn => c15 (bne_iff_ne.2 hn))) | exact decide_eq_false (bne_iff_ne.1 c15) | exact beq_eq_false_iff_ne.2 (bne_iff_ne.1 c15) | exact bne_iff_ne.1 c15))
    (try (have c15b2 : (a0_9 == a1_9) = false := by first | (simpa using c15) | exact decide_eq_true (Decidable.not_not.1 (fun hn => c15 (bne_iff_ne.2 hn))) | exact beq_iff_eq.2 (Decidable.not_not.1 (fun hn => c15 (bne_iff_ne.2 hn))) | exact decide_eq_false (bne_iff_ne.1 c15) | exact beq_eq_false_iff_ne.2 (bne_iff_ne.1 c15) | exact bne_iff_ne.1 c15))
    (try (have c15b3 : ¬ (a0_9 = a1_9) := by first | (simpa using c15) | exact decide_eq_true (Decidable.not_not.1 (fun hn => c15 (bne_iff_ne.2 hn))) | exact beq_iff_eq.2 (Decidable.not_not.1 (fun hn => c15 (bne_iff_ne.2 hn))) | exact decide_eq_false (bne_iff_ne.1 c15) | exact beq_eq_false_iff_ne.2 (bne_iff_ne.1 c15) | exact bne_iff_ne.1 c15))
    clear c15
    have H' := Aside0.mk H
    clear H
    have hnb16 := NB387_388.out
    have hnc16 := NB388_387.out
    obtain ⟨hcz17_0, hcz17_1, hcz17_2, hcz17_3, hcz17_4, hcz17_5, hcz17_6, hcz17_7, hcz17_8, hcz17_9, hcz17_10, hcz17_11⟩ := zc12 BK387; obtain ⟨hfz17_0, hfz17_1, hfz17_2, hfz17_3, hfz17_4, hfz17_5, hfz17_6, hfz17_7, hfz17_8, hfz17_9, hfz17_10, hfz17_11⟩ := zf12 BK387; obtain ⟨hcz18_0, hcz18_1, hcz18_2, hcz18_3, hcz18_4, hcz18_5, hcz18_6, hcz18_7, hcz18_8, hcz18_9, hcz18_10, hcz18_11⟩ := zc12 BK388; obtain ⟨hfz18_0, hfz18_1, hfz18_2, hfz18_3, hfz18_4, hfz18_5, hfz18_6, hfz18_7, hfz18_8, hfz18_9, hfz18_10, hfz18_11⟩ := zf12 BK388
    go_wp2
    repeat (go_quiet (fail); try go_wp2)
    go_meet
    case rel => exact ⟨_, (true), zI, H', ⟨by first | omega | exact Nat.le_refl _⟩, ⟨zK BK387⟩, ⟨zK BK388⟩, ⟨zB HB⟩⟩
  rw [if_neg c15] at H
  have c15b0 : (a0_9 != a1_9) = false := by simpa using c15
  (try (have c15b1 : decide (a0_9 = a1_9) = true := by first | (simpa using c15) | exact decide_eq_true (Decidable.not_not.1 (fun hn => c15 (bne_iff_ne.2 hn))) | exact beq_iff_eq.2 (Decidable.not_not.1 (fun hn => c15 (bne_iff_ne.2 hn))) | exact decide_eq_false (bne_iff_ne.1 c15) | exact beq_eq_false_iff_ne.2 (bne_iff_ne.1 c15) | exact bne_iff_ne.1 c15))
  (try (have c15b2 : (a0_9 == a1_9) = true := by first | (simpa using c15) | exact decide_eq_true (Decidable.not_not.1 (fun hn => c15 (bne_iff_ne.2 hn))) | exact beq_iff_eq.2 (Decidable.not_not.1 (fun hn => c15 (bne_iff_ne.2 hn))) | exact decide_eq_false (bne_iff_ne.1 c15) | exact beq_eq_false_iff_ne.2 (bne_iff_ne.1 c15) | exact bne_iff_ne.1 c15))
  clear c15
  by_cases c19 : a0_10 = a1_10
  · rw [if_pos c19] at H
    have c19b0 : (a0_10 == a1_10) = true := beq_iff_eq.mpr c19; have c19b1 : (a0_10 != a1_10) = false := bne_eq_false_iff_eq.mpr c19; clear c19
    have H' := Aside0.mk H
    clear H
    have hnb20 := NB387_388.out
    have hnc20 := NB388_387.out
    obtain ⟨hcz21_0, hcz21_1, hcz21_2, hcz21_3, hcz21_4, hcz21_5, hcz21_6, hcz21_7, hcz21_8, hcz21_9, hcz21_10, hcz21_11⟩ := zc12 BK387; obtain ⟨hfz21_0, hfz21_1, hfz21_2, hfz21_3, hfz21_4, hfz21_5, hfz21_6, hfz21_7, hfz21_8, hfz21_9, hfz21_10, hfz21_11⟩ := zf12 BK387; obtain ⟨hcz22_0, hcz22_1, hcz22_2, hcz22_3, hcz22_4, hcz22_5, hcz22_6, hcz22_7, hcz22_8, hcz22_9, hcz22_10, hcz22_11⟩ := zc12 BK388; obtain ⟨hfz22_0, hfz22_1, hfz22_2, hfz22_3, hfz22_4, hfz22_5, hfz22_6, hfz22_7, hfz22_8, hfz22_9, hfz22_10, hfz22_11⟩ := zf12 BK388
    go_wp2
    repeat (go_quiet (fail); try go_wp2)
    go_meet
    case rel => exact ⟨_, (((l0_11.length : Int) != (l1_11.length : Int))), zI, H', ⟨by first | omega | exact Nat.le_refl _⟩, ⟨zK BK387⟩, ⟨zK BK388⟩, ⟨zB HB⟩⟩
  rw [if_neg c19] at H
  have c19b0 : (a0_10 == a1_10) = false := beq_eq_false_iff_ne.mpr c19
  have c19b1 : (a0_10 != a1_10) = true := bne_iff_ne.mpr c19
  have H' := Aside0.mk H
  clear H
  have hnb23 := NB387_388.out
  have hnc23 := NB388_387.out
  obtain ⟨hcz24_0, hcz24_1, hcz24_2, hcz24_3, hcz24_4, hcz24_5, hcz24_6, hcz24_7, hcz24_8, hcz24_9, hcz24_10, hcz24_11⟩ := zc12 BK387; obtain ⟨hfz24_0, hfz24_1, hfz24_2, hfz24_3, hfz24_4, hfz24_5, hfz24_6, hfz24_7, hfz24_8, hfz24_9, hfz24_10, hfz24_11⟩ := zf12 BK387; obtain ⟨hcz25_0, hcz25_1, hcz25_2, hcz25_3, hcz25_4, hcz25_5, hcz25_6, hcz25_7, hcz25_8, hcz25_9, hcz25_10, hcz25_11⟩ := zc12 BK388; obtain ⟨hfz25_0, hfz25_1, hfz25_2, hfz25_3, hfz25_4, hfz25_5, hfz25_6, hfz25_7, hfz25_8, hfz25_9, hfz25_10, hfz25_11⟩ := zf12 BK388
  go_wp2
  repeat (go_quiet (fail); try go_wp2)
  go_meet
  case rel => exact ⟨_, (true), zI, H', ⟨by first | omega | exact Nat.le_refl _⟩, ⟨zK BK387⟩, ⟨zK BK388⟩, ⟨zB HB⟩⟩
 case rest =>
  clear HC3
  obtain ⟨kq, x68_2, rfl, HA, HJ2, BK387, BK388, HB⟩ := hcut
  rcases kq with _ | kj2
  · exact absurd HA.out (by simp [r18_One.j0])
  have H := HA.out
  clear HA
  simp only [r18_One.j0] at H
  by_cases c41 : x68_2 = true
  · subst c41
    rw [if_pos rfl] at H
    obtain rfl := Option.some.inj H
    go_wp2
    repeat (go_quiet (fail); try go_wp2)
    go_ret
    exact ⟨zr, zB HB⟩
  replace c41 := Bool.eq_false_iff.mpr c41
  subst c41; rw [if_neg zF] at H
  have H' := Aside0.mk H
  clear H
  go_wp2
  repeat (go_quiet (fail); try go_wp2)
  go_loopg [5] kj2 (fun kq v5 w' => ∃ (x5_2 : Int), v5 = .int .i64 x5_2 ∧ Aside0 (r18_One.l0 kq x5_2 a0_0 a0_1 a0_2 a0_3 a0_4 a0_5 a0_6 a0_7 a0_8 a0_9 a0_10 l0_11 a1_0 a1_1 a1_2 a1_3 a1_4 a1_5 a1_6 a1_7 a1_8 a1_9 a1_10 l1_11 = some r) ∧ Aside0 (kq ≤ kj2) ∧ Aside0 (w'.heap[gb387]? = some (.cells #[.string a0_0, .bool a0_1, .int .u64 a0_2, .int .u64 a0_3, .int .i64 a0_4, .int .i64 a0_5, .int .i64 a0_6, .int .i64 a0_7, .int .i64 a0_8, .bool a0_9, .int .i64 a0_10, (.slice A0_11 l0_11.length c0_11)] 36 (0, 0))) ∧ Aside0 (w'.heap[gb388]? = some (.cells #[.string a1_0, .bool a1_1, .int .u64 a1_2, .int .u64 a1_3, .int .i64 a1_4, .int .i64 a1_5, .int .i64 a1_6, .int .i64 a1_7, .int .i64 a1_8, .bool a1_9, .int .i64 a1_10, (.slice A1_11 l1_11.length c1_11)] 36 (0, 0))) ∧ Aside0 (Below w.heap.size w w'))
  case atStart => exact ⟨(0), zI, H', ⟨Nat.le_refl _⟩, ⟨zK BK387⟩, ⟨zK BK388⟩, ⟨zB HB⟩⟩
  case round =>
   clear H'
   try clear c41
   obtain ⟨x5_2, rfl, HA, HK2, BK387, BK388, HB⟩ := hrel
   rcases gk with _ | k2
   · exact absurd HA.out (by simp [r18_One.l0])
   have H := HA.out
   clear HA
   simp only [r18_One.l0] at H
   by_cases c42 : x5_2 < (l0_11.length : Int)
   rotate_left
   · rw [if_neg c42] at H
     have c42b0 : decide (x5_2 < (l0_11.length : Int)) = false := decide_eq_false c42; clear c42
     obtain rfl := Option.some.inj H
     have hnb52 := NB387_388.out
     have hnc52 := NB388_387.out
     obtain ⟨hcz53_0, hcz53_1, hcz53_2, hcz53_3, hcz53_4, hcz53_5, hcz53_6, hcz53_7, hcz53_8, hcz53_9, hcz53_10, hcz53_11⟩ := zc12 BK387; obtain ⟨hfz53_0, hfz53_1, hfz53_2, hfz53_3, hfz53_4, hfz53_5, hfz53_6, hfz53_7, hfz53_8, hfz53_9, hfz53_10, hfz53_11⟩ := zf12 BK387
     go_wp2
     repeat (go_quiet (fail); try go_wp2)
     go_ret
     exact ⟨zr, zB HB⟩
   rw [if_pos c42] at H
   have c42b0 : decide (x5_2 < (l0_11.length : Int)) = true := decide_eq_true c42; clear c42
   by_cases c43 : 0 ≤ x5_2
   rotate_left
   · rw [if_neg c43] at H
     exact absurd H (by simp)
   rw [if_pos c43] at H
   have c43b0 : decide (0 ≤ x5_2) = true := decide_eq_true c43; clear c43
   by_cases c44 : x5_2 < (l1_11.length : Int)
   rotate_left
   · rw [if_neg c44] at H
     exact absurd H (by simp)
   rw [if_pos c44] at H
   have c44b0 : decide (x5_2 < (l1_11.length : Int)) = true := decide_eq_true c44; clear c44
   by_cases c45 : (!(((rd_T74 l0_11 x5_2).f0) == ((rd_T74 l1_11 x5_2).f0)) || (!(((rd_T74 l0_11 x5_2).f1) == ((rd_T74 l1_11 x5_2).f1)) || (!(((rd_T74 l0_11 x5_2).f2) == ((rd_T74 l1_11 x5_2).f2))))) = true
   · rw [if_pos c45] at H
     have c45b0 : (!(((rd_T74 l0_11 x5_2).f0) == ((rd_T74 l1_11 x5_2).f0)) || (!(((rd_T74 l0_11 x5_2).f1) == ((rd_T74 l1_11 x5_2).f1)) || (!(((rd_T74 l0_11 x5_2).f2) == ((rd_T74 l1_11 x5_2).f2))))) = true := c45
     clear c45
     obtain rfl := Option.some.inj H
     have hnb46 := NB387_388.out
     have hnc46 := NB388_387.out
     obtain ⟨hcz47_0, hcz47_1, hcz47_2, hcz47_3, hcz47_4, hcz47_5, hcz47_6, hcz47_7, hcz47_8, hcz47_9, hcz47_10, hcz47_11⟩ := zc12 BK387; obtain ⟨hfz47_0, hfz47_1, hfz47_2, hfz47_3, hfz47_4, hfz47_5, hfz47_6, hfz47_7, hfz47_8, hfz47_9, hfz47_10, hfz47_11⟩ := zf12 BK387
     have p389 : 0 ≤ (x5_2 : Int) := za
     have q389 : x5_2 < (l0_11.length : Int) := za
     obtain ⟨ad389, e389, hx389_0, hx389_1, hx389_2⟩ := at_T74 HR0_11.out x5_2 p389 q389
     cases e389
     replace hx389_0 := zh HB hx389_0; replace hx389_1 := zh HB hx389_1; replace hx389_2 := zh HB hx389_2
     replace p389 := eq_true p389
     replace q389 := eq_true q389
     obtain ⟨hcz48_0, hcz48_1, hcz48_2, hcz48_3, hcz48_4, hcz48_5, hcz48_6, hcz48_7, hcz48_8, hcz48_9, hcz48_10, hcz48_11⟩ := zc12 BK388; obtain ⟨hfz48_0, hfz48_1, hfz48_2, hfz48_3, hfz48_4, hfz48_5, hfz48_6, hfz48_7, hfz48_8, hfz48_9, hfz48_10, hfz48_11⟩ := zf12 BK388
     have p390 : 0 ≤ (x5_2 : Int) := za
     have q390 : x5_2 < (l1_11.length : Int) := za
     obtain ⟨ad390, e390, hx390_0, hx390_1, hx390_2⟩ := at_T74 HR1_11.out x5_2 p390 q390
     cases e390
     replace hx390_0 := zh HB hx390_0; replace hx390_1 := zh HB hx390_1; replace hx390_2 := zh HB hx390_2
     replace p390 := eq_true p390
     replace q390 := eq_true q390
     go_wp2
     repeat (go_quiet (fail); try go_wp2)
     go_ret
     exact ⟨zr, zB HB⟩
   rw [if_neg c45] at H
   have c45b0 : (!(((rd_T74 l0_11 x5_2).f0) == ((rd_T74 l1_11 x5_2).f0)) || (!(((rd_T74 l0_11 x5_2).f1) == ((rd_T74 l1_11 x5_2).f1)) || (!(((rd_T74 l0_11 x5_2).f2) == ((rd_T74 l1_11 x5_2).f2))))) = false := by simpa using c45
   clear c45
   have H' := Aside0.mk H
   clear H
   have hnb49 := NB387_388.out
   have hnc49 := NB388_387.out
   obtain ⟨hcz50_0, hcz50_1, hcz50_2, hcz50_3, hcz50_4, hcz50_5, hcz50_6, hcz50_7, hcz50_8, hcz50_9, hcz50_10, hcz50_11⟩ := zc12 BK387; obtain ⟨hfz50_0, hfz50_1, hfz50_2, hfz50_3, hfz50_4, hfz50_5, hfz50_6, hfz50_7, hfz50_8, hfz50_9, hfz50_10, hfz50_11⟩ := zf12 BK387
   have p389 : 0 ≤ (x5_2 : Int) := za
   have q389 : x5_2 < (l0_11.length : Int) := za
   obtain ⟨ad389, e389, hx389_0, hx389_1, hx389_2⟩ := at_T74 HR0_11.out x5_2 p389 q389
   cases e389
   replace hx389_0 := zh HB hx389_0; replace hx389_1 := zh HB hx389_1; replace hx389_2 := zh HB hx389_2
   replace p389 := eq_true p389
   replace q389 := eq_true q389
   obtain ⟨hcz51_0, hcz51_1, hcz51_2, hcz51_3, hcz51_4, hcz51_5, hcz51_6, hcz51_7, hcz51_8, hcz51_9, hcz51_10, hcz51_11⟩ := zc12 BK388; obtain ⟨hfz51_0, hfz51_1, hfz51_2, hfz51_3, hfz51_4, hfz51_5, hfz51_6, hfz51_7, hfz51_8, hfz51_9, hfz51_10, hfz51_11⟩ := zf12 BK388
   have p390 : 0 ≤ (x5_2 : Int) := za
   have q390 : x5_2 < (l1_11.length : Int) := za
   obtain ⟨ad390, e390, hx390_0, hx390_1, hx390_2⟩ := at_T74 HR1_11.out x5_2 p390 q390
   cases e390
   replace hx390_0 := zh HB hx390_0; replace hx390_1 := zh HB hx390_1; replace hx390_2 := zh HB hx390_2
   replace p390 := eq_true p390
   replace q390 := eq_true q390
   go_wp2
   repeat (go_quiet (fail); try go_wp2)
   go_roundg k2
   case measure => have := HJ2.out; have := HK2.out; omega
   case rel => exact ⟨(wrap64 (x5_2 + 1)), zI, H', ⟨by have := HJ2.out; have := HK2.out; omega⟩, ⟨zK BK387⟩, ⟨zK BK388⟩, ⟨zB HB⟩⟩
end Go.Proofs.YtnphnhkinjppjaaGreatDoor.Q
end

section
namespace Go.Proofs.YtnphnhkinjppjaaGreatDoor.Q
open Go.RowKit Go.Proofs.YtnphnhkinjppjaaGreatDoorW.PrintWords Go.Proofs.YtnphnhkinjppjaaGreatDoorW.PrintLast Go.Proofs.YtnphnhkinjppjaaGreatDoorW.PrintMore
def smallB (a : S36) : Bool := decide (a.f8.length ≤ 20) && decide (a.f0.size ≤ 100)
theorem few_l (l : List S36) : ∀ (d i : Nat), 71 - i = d → i ≤ 71 → i ≤ l.length → Ev (fun k => r18_Few.l0 k l (i : Int)) (((l.take 71).drop i).all smallB && decide ((l.length : Int) ≤ 70)) := by
  intro d
  induction d with
  | zero =>
    intro i hd hi hl
    have e : i = 71 := by omega
    have h0 : (l.take 71).drop i = [] := List.drop_of_length_le (by rw [List.length_take]; omega)
    rw [h0, List.all_nil, Bool.true_and]
    by_cases h : i < l.length
    · refine Ev.step (f := fun k => r18_Few.j1 k l (i : Int) false) (fun k => by rw [r18_Few.l0, if_pos (by omega), decide_eq_false (show ¬ (i : Int) < 71 by omega)]) ?_
      refine Ev.step (f := fun _ => some (decide ((l.length : Int) ≤ 70))) (fun k => by rw [r18_Few.j1, if_neg Bool.false_ne_true]) (Ev.now _)
    · refine Ev.step (f := fun k => r18_Few.j1 k l (i : Int) false) (fun k => by rw [r18_Few.l0, if_neg (by omega)]) ?_
      refine Ev.step (f := fun _ => some (decide ((l.length : Int) ≤ 70))) (fun k => by rw [r18_Few.j1, if_neg Bool.false_ne_true]) (Ev.now _)
  | succ d ih =>
    intro i hd hi hl
    by_cases h : i < l.length
    · have h2 : i < (l.take 71).length := by rw [List.length_take]; omega
      rw [List.drop_eq_getElem_cons h2, List.all_cons, List.getElem_take]
      refine Ev.step (f := fun k => r18_Few.j1 k l (i : Int) true) (fun k => by rw [r18_Few.l0, if_pos (by omega), decide_eq_true (show (i : Int) < 71 by omega)]) ?_
      by_cases h3 : (l[i].f8.length : Int) > 20
      · rw [show smallB l[i] = false from by unfold smallB; rw [decide_eq_false (by omega), Bool.false_and], Bool.false_and, Bool.false_and]
        refine Ev.step (f := fun _ => some false) (fun k => by rw [r18_Few.j1, if_pos rfl, if_pos (by omega), if_pos (by omega), as_get h, if_pos h3]) (Ev.now _)
      · by_cases h4 : (l[i].f0.size : Int) > 100
        · rw [show smallB l[i] = false from by unfold smallB; rw [decide_eq_false (show ¬ l[i].f0.size ≤ 100 by omega), Bool.and_false], Bool.false_and, Bool.false_and]
          refine Ev.step (f := fun _ => some false) (fun k => by rw [r18_Few.j1, if_pos rfl, if_pos (by omega), if_pos (by omega), as_get h, if_neg h3, if_pos h4]) (Ev.now _)
        · rw [show smallB l[i] = true from by unfold smallB; rw [decide_eq_true (by omega), decide_eq_true (by omega)]; rfl, Bool.true_and]
          refine Ev.step (fun k => ?_) (ih (i + 1) (by omega) (by omega) (by omega))
          rw [r18_Few.j1, if_pos rfl, if_pos (by omega), if_pos (by omega), as_get h, if_neg h3, if_neg h4, lx_up (by omega)]
    · have h0 : (l.take 71).drop i = [] := List.drop_of_length_le (by rw [List.length_take]; omega)
      rw [h0, List.all_nil, Bool.true_and]
      refine Ev.step (f := fun k => r18_Few.j1 k l (i : Int) false) (fun k => by rw [r18_Few.l0, if_neg (by omega)]) ?_
      refine Ev.step (f := fun _ => some (decide ((l.length : Int) ≤ 70))) (fun k => by rw [r18_Few.j1, if_neg Bool.false_ne_true]) (Ev.now _)
def fewB (l : List S36) : Bool := (l.take 71).all smallB && decide ((l.length : Int) ≤ 70)
theorem few_ev (l : List S36) : Ev (fun k => r18_Few.f k l) (fewB l) := few_l l _ 0 rfl (by omega) (by omega)
end Go.Proofs.YtnphnhkinjppjaaGreatDoor.Q
end

section
namespace Go.Proofs.YtnphnhkinjppjaaGreatDoor.Bridge
open Go.RowKit Go.Sort Go.Proofs.YtnphnhkinjppjaaGreatDoorW.PrintWords
variable {α : Type}
theorem chunk_get (k j : Nat) (hk : 0 < k) (a : List Value) (n : Nat) (ha : a.length = n * k) (hj : j < n * k) :
    a[j]? = ((a.drop (j / k * k)).take k)[j % k]? := by
  have h1 : j / k * k + j % k = j := by rw [Nat.mul_comm]; exact Nat.div_add_mod j k
  have h2 : j % k < k := Nat.mod_lt _ hk
  rw [List.getElem?_take, if_pos h2, List.getElem?_drop, h1]
variable [Inhabited α]
theorem reps_flat {enc : α → List Value} {k : Nat} (hk0 : 0 < k) (hk : ∀ x, (enc x).length = k) (l : List α) : Reps (fun p cs => cs = enc p) k l (flatK enc k l.toArray).toList := by
  refine ⟨by simp, fun j p hj => ?_⟩
  obtain ⟨hjl, hp⟩ := List.getElem?_eq_some_iff.1 hj
  have hle : j * k + k ≤ l.length * k := by rw [← Nat.succ_mul]; exact Nat.mul_le_mul_right _ hjl
  apply List.ext_getElem
  · rw [List.length_take, List.length_drop, Array.length_toList, size_flatK, hk]
    simp
    omega
  · intro i h1 h2
    have hi : i < k := by rw [hk] at h2; exact h2
    have e1 : (j * k + i) / k = j := (blk_iff k j _ hk0).1 ⟨by omega, by omega⟩
    have e2 : (j * k + i) % k = i := by rw [Nat.mod_eq_sub_div_mul, e1]; omega
    rw [List.getElem_take, List.getElem_drop, Array.getElem_toList]
    have hlt : j * k + i < l.toArray.size * k := by simp; omega
    have hg := get_flatK enc k l.toArray (j * k + i) hlt
    rw [getElem!_pos (flatK enc k l.toArray) (j * k + i) (by rw [size_flatK]; exact hlt), e1, e2] at hg
    rw [hg]
    have hx : l.toArray[j]! = p := by
      rw [getElem!_pos l.toArray j (by simpa using hjl)]
      simpa using hp
    rw [hx, getElem!_pos (enc p) i h2]
end Go.Proofs.YtnphnhkinjppjaaGreatDoor.Bridge
end

section
namespace Go.Proofs.YtnphnhkinjppjaaGreatDoor.Q
open Go.RowKit Go.Sort Go.Proofs.YtnphnhkinjppjaaGreatDoorW.PrintWords Go.Proofs.YtnphnhkinjppjaaGreatDoorW.PrintLast Go.Proofs.YtnphnhkinjppjaaGreatDoorW.PrintMore
def asset_given.f (l : List (S74)) : Option (List (S74)) := if l.length < 1000000 then some l else none
theorem given_some {l r : List (S74)} (h : asset_given.f l = some r) : l.length < 1000000 ∧ r = l := by
  unfold asset_given.f at h
  split at h
  · rename_i h1; injection h with h; exact ⟨h1, h.symm⟩
  · cases h
structure Given1 (w0 : World) (g n : Nat) (w : World) : Prop where
  base : w0.heap.size ≤ g
  row : ∃ cur, w.heap[g]? = some (.cells cur 74 (0, 0)) ∧ cur.size = n * 3
  bel : Below w0.heap.size w0 w
theorem Given1.drew {w0 w : World} {g n : Nat} (h : Given1 w0 g n w) : Given1 w0 g n w.drew := ⟨h.base, h.row, below_drew1 h.bel⟩
theorem given_make {w0 W : World} {l r : List (S74)} {ops : Array Oper} {rest : List Oper} {o : Oper} {a : Act} {Q : Exit → Act → World → Prop}
    (hg : o.guard = none) (hop : o.op = Op.makeSlice 34 (.tmp 6) (.tmp 6)) (hl : a.eval (.tmp 6) = .int .i64 l.length) (h : asset_given.f l = some r) (hB : Below w0.heap.size w0 W)
    (hK : ∀ g w', Aside0 (Given1 w0 g l.length w') → wpList Tryz.prog ops Q rest (a.put o.dst (.slice (some ⟨g, 0, none⟩) l.length l.length)) w') :
    wpList Tryz.prog ops Q (o :: rest) a W := by
  obtain ⟨hn, rfl⟩ := given_some h
  have h0 : (Tryz.prog.info? 74).isSome = true := by kernel_rfl
  obtain ⟨i, hi⟩ := Option.isSome_iff_exists.1 h0
  have h1 : ((Tryz.prog.info? 74).bind (·.zero)).isSome = true := by kernel_rfl
  have h2 : (Tryz.prog.info? 74).map (·.size) = some 3 := by kernel_rfl
  have h3 : (Tryz.prog.info? 74).map (·.bytes) = some 24 := by kernel_rfl
  rw [hi] at h1 h2 h3
  obtain ⟨z, hz⟩ := Option.isSome_iff_exists.1 h1
  simp only [Option.bind_some, Option.map_some, Option.some.injEq] at hz h2 h3
  refine wpList_make_full W hg _ _ 34 hop w0.heap.size 74 i z 3 Tryz.underlying34 hi hz h2 .i64 .i64 _ _ r.length hl hl rfl rfl (by rw [h3]; omega) (by simp [maxLen]; omega) hB.size ?_
  intro w' ho hgr
  refine hK _ w' ⟨⟨hB.size, ?_, ?_⟩⟩
  · rcases ho.2 with ⟨hx, _⟩ | ⟨g', cap', cur, hx, _, hh, _, _, hcs, _⟩
    · simp at hx
    · simp only [Value.slice.injEq, Option.some.injEq, Addr.mk.injEq, and_true, true_and] at hx
      obtain ⟨hx1, hx2⟩ := hx
      subst hx1
      subst hx2
      exact ⟨cur, hh, hcs⟩
  · exact pw_below_grown hB none hB.size hgr (by intro k hk; cases hk)
theorem run_copy_all {P : Program} (w : World) (dT sT ty elem : TypeId) (sz g n : Nat) (A : Option Addr) (sCap : Nat) (cur : Array Value) (cs : List Value)
    (hu : P.underlying dT = some (.slice elem)) (hs : (P.info? elem).map (·.size) = some sz)
    (hg : w.heap[g]? = some (.cells cur elem (0, 0))) (hn : cs.length = n * sz) (hcur : cur.size = n * sz)
    (hsrc : 0 < n → ∃ a, A = some a ∧ ∀ j v, cs[j]? = some v → w.cell? (a.add j) = some v) (h1 : ∀ v ∈ cs, v.oneCell' = true) :
    (Builtin.copy_ #[dT, sT] ty #[.slice (some ⟨g, 0, none⟩) n n, .slice A n sCap]).run P w = .ok (goInt n) (w.setRow g cs.toArray) := by
  have hst := run_storeCells_at P g 0 elem cs 0 cur w hg (by omega) h1
  have e0 : (cur.toList.take (0 + 0) ++ cs ++ cur.toList.drop (0 + 0 + cs.length)).toArray = cs.toArray := by
    rw [List.drop_of_length_le (by simp; omega)]
    simp
  rw [e0] at hst
  cases hq : P.info? elem with
  | none => simp [hq] at hs
  | some i =>
    have hi : i.size = sz := by simpa [hq] using hs
    cases A with
    | none =>
      have hn0 : n = 0 := by
        rcases Nat.eq_zero_or_pos n with h | h
        · exact h
        · obtain ⟨a, ha, _⟩ := hsrc h; cases ha
      subst hn0
      have hcs : cs = [] := List.eq_nil_of_length_eq_zero (by omega)
      subst hcs
      simp [Builtin.copy_, run_underlying hu, Builtin.lenOf, Builtin.firstCells, sizeOf, typeInfo, hq, storeCells] at hst ⊢
      exact hst
    | some a =>
      have hl : Sem.run P (loadCells a cs.length) w = Result.ok cs.toArray w := by
        apply run_loadCells_list
        rcases Nat.eq_zero_or_pos n with h | h
        · have hcs : cs = [] := List.eq_nil_of_length_eq_zero (by rw [hn, h]; simp)
          subst hcs
          intro j v hv
          simp at hv
        · obtain ⟨a', ha, hx⟩ := hsrc h
          cases ha
          exact hx
      rw [hn] at hl
      have hmin : Nat.min n n = n := Nat.min_self n
      simp [Builtin.copy_, run_underlying hu, Builtin.lenOf, Builtin.firstCells, sizeOf, typeInfo, hq, hi, hmin, hl, hst]
theorem given_copy {w0 W : World} {l r : List (S74)} {A0 : Option Addr} {c0 g : Nat} {ops : Array Oper} {rest : List Oper} {o : Oper} {a : Act} {Q : Exit → Act → World → Prop}
    (hg : o.guard = none) (hop : o.op = Op.call { callee := Callee.builtin Builtin.copy, args := #[.tmp 8, .tmp 10], argTypes := #[34, 34] })
    (h12 : a.eval (.tmp 8) = .slice (some ⟨g, 0, none⟩) l.length l.length) (h13 : a.eval (.tmp 10) = .slice A0 l.length c0) (h : asset_given.f l = some r)
    (hG : Given1 w0 g l.length W) (hR : Kd.C k74 w0 A0 l.length l)
    (hK : ∀ w', Kd.R k74 74 w' w0.heap.size (fun _ => True) (.slice (some ⟨g, 0, none⟩) l.length l.length) r → Below w0.heap.size w0 w' → wpList Tryz.prog ops Q rest (a.put o.dst (.int .i64 l.length)) w') :
    wpList Tryz.prog ops Q (o :: rest) a W := by
  obtain ⟨hn, rfl⟩ := given_some h
  obtain ⟨cur, hcur, hcs⟩ := hG.row
  haveI : Inhabited (S74) := ⟨z74⟩
  have hflat := Bridge.reps_flat (enc := fun x : S74 => [Value.int .i64 x.f0, .int .i64 x.f1, .int .i64 x.f2]) (k := 3) (by decide) (fun _ => rfl) r
  generalize (flatK (fun x : S74 => [Value.int .i64 x.f0, .int .i64 x.f1, .int .i64 x.f2]) 3 r.toArray).toList = cs at hflat
  have hone : ∀ v ∈ cs, v.oneCell' = true := by
    intro v hv
    obtain ⟨j, hj, rfl⟩ := List.getElem_of_mem hv
    have hj2 : j < r.length * 3 := by rw [← hflat.1]; exact hj
    have hc := Bridge.chunk_get 3 j (by decide) cs r.length hflat.1 hj2
    have hjl : j / 3 < r.length := Nat.div_lt_of_lt_mul (by rw [Nat.mul_comm]; exact hj2)
    have h3 := hflat.2 _ _ (List.getElem?_eq_getElem hjl)
    rw [h3, List.getElem?_eq_getElem hj] at hc
    have h4 := List.mem_of_getElem? hc.symm
    simp at h4
    rcases h4 with h4 | h4 | h4 <;> rw [h4] <;> rfl
  have hsrc : 0 < r.length → ∃ ad, A0 = some ad ∧ ∀ j v, cs[j]? = some v → W.cell? (ad.add j) = some v := by
    intro hp
    obtain ⟨ad, rfl, hx⟩ := hR.2.2 hp
    refine ⟨ad, rfl, fun j v hv => ?_⟩
    have hj : j < cs.length := (List.getElem?_eq_some_iff.1 hv).1
    have hj2 : j < r.length * 3 := by rw [← hflat.1]; exact hj
    have hc := Bridge.chunk_get 3 j (by decide) cs r.length hflat.1 hj2
    have hjl : j / 3 < r.length := Nat.div_lt_of_lt_mul (by rw [Nat.mul_comm]; exact hj2)
    have h3 := hflat.2 _ _ (List.getElem?_eq_getElem hjl)
    rw [h3] at hc
    obtain ⟨c, hcl, hk, hcell⟩ := hx _ _ (List.getElem?_eq_getElem hjl)
    have hk2 := k74_open hk
    rw [hk2] at hcell
    have h5 := hcell (j % 3) v (hc.symm.trans hv)
    rw [show j / 3 * k74.sz + j % 3 = j from by show j / 3 * 3 + j % 3 = j; omega] at h5
    exact (hG.bel.cell (World.block_lt_of_cell? _ _ h5)).trans h5
  have hrun := run_copy_all (P := Tryz.prog) W 34 34 o.type 74 3 g r.length A0 c0 cur cs Tryz.underlying34 (by kernel_rfl) hcur (by rw [hflat.1]) hcs hsrc hone
  have hb : Below w0.heap.size w0 (W.setRow g cs.toArray) := pw_below_grown hG.bel (some g) hG.bel.size ⟨rfl, rfl, rfl, by simp, fun k _ hk => setRow_other W g k _ (fun e => hk (by simp [e]))⟩ (by intro k hk; injection hk with hk; rw [← hk]; exact hG.base)
  have hr : Kd.R k74 74 (W.setRow g cs.toArray) w0.heap.size (fun _ => True) (.slice (some ⟨g, 0, none⟩) r.length r.length) r := by
    refine ⟨fun _ _ => trivial, cs, ⟨hflat.1, .inr ⟨g, r.length, cs.toArray, rfl, hG.base, setRow_heap W g cur _ _ _ hcur, Nat.le_refl _, by simp [maxLen]; omega, by show cs.toArray.size = r.length * 3; simp [hflat.1], by rw [List.take_of_length_le (by show cs.toArray.toList.length ≤ r.length * 3; simp [hflat.1])]⟩⟩, ?_⟩
    exact hflat.imp_ (fun p c hp => by rw [hp]; exact k74_mkM _ _ _ _)
  refine wpList_plain hg fun K hK' => ?_
  unfold Oper.wp
  simp [execOp, hop, resolve, invoke, builtin, h12, h13, hrun, Result.andThen]
  exact hK' _ _ (hK _ hr hb)
end Go.Proofs.YtnphnhkinjppjaaGreatDoor.Q
end
