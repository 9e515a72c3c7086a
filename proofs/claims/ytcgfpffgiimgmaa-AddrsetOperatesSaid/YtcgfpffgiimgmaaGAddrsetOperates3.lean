/- The law AddrsetOperates answers true for every input and leaves its arguments as they were. No condition. (Part 3 of 6: the kit's printed words and walks, hand-made contracts and plain laws, joined in build order, without what the theorem does not reach.) -/
import Derived.Test.YtcgfpffgiimgmaaGAddrsetOperates2
section
namespace Go.Proofs.Ytcgfpffgiimgmaa.Q
open Go.RowKit Go.Proofs.YtcgfpffgiimgmaaW.PrintWords Go.Proofs.YtcgfpffgiimgmaaW.PrintLast Go.Proofs.YtcgfpffgiimgmaaW.PrintMore
attribute [local go_sem] max2_int min2_int max_two min_two max_three min_three max_four min_four
set_option linter.unusedVariables false
set_option linter.unusedSimpArgs false
attribute [local go_sem high] eqA36
mutual
def addrset_greatest.j0 : Nat → Int → Bool → Int → Int → Bool → Int → Int → Option (Bool × Int × Int × Int)
  | 0, _, _, _, _, _, _, _ => none
  | k + 1, x5, x522000, x522001, x522002, x523000, x523001, x523002 => (address_MakePrefix.f x522000 x522001 x522002 x5).bind fun bt524 => (addrset_greatest.l0 k x5 x522000 x522001 x522002 x523000 x523001 x523002 bt524.1 bt524.2.1 bt524.2.2.1 bt524.2.2.2.1)
def addrset_greatest.l0 : Nat → Int → Bool → Int → Int → Bool → Int → Int → Bool → Int → Int → Int → Option (Bool × Int × Int × Int)
  | 0, _, _, _, _, _, _, _, _, _, _, _ => none
  | k + 1, x5, x522000, x522001, x522002, x523000, x523001, x523002, x530000, x530001, x530002, x530003 => if x5 > 0 then ((address_MakePrefix.f x522000 x522001 x522002 (wrap64 (x5 - 1))).bind fun bt530 => (if bt530.2.2.2.2 = 0 then (if (!(bt530.1 == x522000) || (!(bt530.2.1 == x522001) || (!(bt530.2.2.1 == x522002)))) = true then (some (x530000, x530001, x530002, x530003)) else ((address_Bounds.f bt530.1 bt530.2.1 bt530.2.2.1 bt530.2.2.2.1).bind fun bt536 => ((address_Compare.f bt536.2.2.2.1 bt536.2.2.2.2.1 bt536.2.2.2.2.2 x523000 x523001 x523002).bind fun t542 => (if t542 > 0 then (some (x530000, x530001, x530002, x530003)) else (addrset_greatest.l0 k (wrap64 (x5 - 1)) x522000 x522001 x522002 x523000 x523001 x523002 bt530.1 bt530.2.1 bt530.2.2.1 bt530.2.2.2.1))))) else (some (x530000, x530001, x530002, x530003)))) else (some (x530000, x530001, x530002, x530003))
end
def addrset_greatest.f (k : Nat) (a0_0 : Bool) (a0_1 : Int) (a0_2 : Int) (a1_0 : Bool) (a1_1 : Int) (a1_2 : Int) : Option (Bool × Int × Int × Int) := if a0_0 = true then (addrset_greatest.j0 k 128 a0_0 a0_1 a0_2 a1_0 a1_1 a1_2) else (addrset_greatest.j0 k 32 a0_0 a0_1 a0_2 a1_0 a1_1 a1_2)
theorem addrset_greatest.mono_l : ∀ k, (∀ y0 y1 y2 y3 y4 y5 y6, LeO (addrset_greatest.j0 k y0 y1 y2 y3 y4 y5 y6) (addrset_greatest.j0 (k + 1) y0 y1 y2 y3 y4 y5 y6)) ∧ (∀ y0 y1 y2 y3 y4 y5 y6 y7 y8 y9 y10, LeO (addrset_greatest.l0 k y0 y1 y2 y3 y4 y5 y6 y7 y8 y9 y10) (addrset_greatest.l0 (k + 1) y0 y1 y2 y3 y4 y5 y6 y7 y8 y9 y10))
  | 0 => ⟨fun _ _ _ _ _ _ _ r h => by simp [addrset_greatest.j0] at h, fun _ _ _ _ _ _ _ _ _ _ _ r h => by simp [addrset_greatest.l0] at h⟩
  | k + 1 => by
    obtain ⟨ih0, ih1⟩ := addrset_greatest.mono_l k
    refine ⟨?_, ?_⟩
    · intro y0 y1 y2 y3 y4 y5 y6
      unfold addrset_greatest.j0
      repeat' first
      | (with_reducible exact ih0 _ _ _ _ _ _ _)
      | (with_reducible exact ih1 _ _ _ _ _ _ _ _ _ _ _)
      | (with_reducible exact LeO.refl _)
      | (with_reducible exact LeO.none _)
      | (with_reducible refine LeO.ite ?_ ?_)
      | (with_reducible refine LeO.bind ?_ (fun _ => ?_))
      | exact ih0 _ _ _ _ _ _ _
      | exact ih1 _ _ _ _ _ _ _ _ _ _ _
      | exact LeO.none _
      | refine LeO.ite ?_ ?_
      | refine LeO.bind ?_ (fun _ => ?_)
    · intro y0 y1 y2 y3 y4 y5 y6 y7 y8 y9 y10
      unfold addrset_greatest.l0
      repeat' first
      | (with_reducible exact ih0 _ _ _ _ _ _ _)
      | (with_reducible exact ih1 _ _ _ _ _ _ _ _ _ _ _)
      | (with_reducible exact LeO.refl _)
      | (with_reducible exact LeO.none _)
      | (with_reducible refine LeO.ite ?_ ?_)
      | (with_reducible refine LeO.bind ?_ (fun _ => ?_))
      | exact ih0 _ _ _ _ _ _ _
      | exact ih1 _ _ _ _ _ _ _ _ _ _ _
      | exact LeO.none _
      | refine LeO.ite ?_ ?_
      | refine LeO.bind ?_ (fun _ => ?_)
theorem addrset_greatest.mono : ∀ a0 a1 a2 a3 a4 a5 k, LeO (addrset_greatest.f k a0 a1 a2 a3 a4 a5) (addrset_greatest.f (k + 1) a0 a1 a2 a3 a4 a5) := by
  intro a0 a1 a2 a3 a4 a5 k
  obtain ⟨ih0, ih1⟩ := addrset_greatest.mono_l k
  unfold addrset_greatest.f
  repeat' first
      | (with_reducible exact ih0 _ _ _ _ _ _ _)
      | (with_reducible exact ih1 _ _ _ _ _ _ _ _ _ _ _)
      | (with_reducible exact LeO.refl _)
      | (with_reducible exact LeO.none _)
      | (with_reducible refine LeO.ite ?_ ?_)
      | (with_reducible refine LeO.bind ?_ (fun _ => ?_))
      | exact ih0 _ _ _ _ _ _ _
      | exact ih1 _ _ _ _ _ _ _ _ _ _ _
      | exact LeO.none _
      | refine LeO.ite ?_ ?_
      | refine LeO.bind ?_ (fun _ => ?_)
def addrset_greatest.T8 : Bool × List (List Nat × List Nat) := (true, [([], []), ([0], [0]), ([1], [1]), ([2], [2]), ([3, 2], [2, 3]), ([2], [2]), ([4, 5, 2], [2, 4, 5]), ([2, 6], [2, 6]), ([7, 2], [7]), ([8], [8]), ([9, 8, 8], [8, 9]), ([10, 8], [8, 10]), ([8], [8]), ([11, 12, 10, 8], [8, 11, 12]), ([13, 8], [8, 13]), ([8, 14], [8, 14])])
def addrset_greatest.B8 : List Nat := [0, 1, 3, 7, 15, 7, 63, 127, 255, 511, 1023, 2047, 511, 8191, 16383, 32767]
theorem addrset_greatest.tab8 : rtab .any (opsOf Try.f86 8) = addrset_greatest.T8 := by kernel_rfl
theorem addrset_greatest.bits8 : waitsOk addrset_greatest.T8.2 addrset_greatest.B8 = true := by kernel_rfl
set_option maxHeartbeats 8000000 in
set_option maxRecDepth 100000 in
theorem addrset_greatest.calls (k : Nat) (a0_0 : Bool) (a0_1 : Int) (a0_2 : Int) (a1_0 : Bool) (a1_1 : Int) (a1_2 : Int) (r1 : Bool) (r2 : Int) (r3 : Int) (r4 : Int) (w : World) (h : addrset_greatest.f k a0_0 a0_1 a0_2 a1_0 a1_1 a1_2 = some (r1, r2, r3, r4)) :
 Calls Try.prog 86 #[.agg #[.bool a0_0, .int .u64 a0_1, .int .u64 a0_2], .agg #[.bool a1_0, .int .u64 a1_1, .int .u64 a1_2]] w fun e w' => e = .returned (.agg #[.bool r1, .int .u64 r2, .int .u64 r3, .int .i64 r4]) ∧ Below w.heap.size w w' := by
 have hfd66_1 : ∀ (a0 a1 a2 a3 a4 a5 : Value) (w' : World), (Instr.field 66 (.agg #[a0, a1, a2, a3, a4, a5]) 1).run Try.prog w' = .ok (.agg #[a3, a4, a5]) w' := fun _ _ _ _ _ _ _ => by kernel_rfl
 have hu66 := Try.underlying66
 have hu36 := Try.underlying36
 have hu45 := Try.underlying45
 have HB := Aside0.mk (Below.refl w.heap.size w)
 unfold addrset_greatest.f at h; have H := h
 clear h
 have HC3 := Aside0.mk H
 clear H
 go_enter Try.func86, Try.ntmps86
 go_upto_if 11 with (first | ((with_reducible refine gate_dst (N := 2) rfl ?_); refine zx 2 #[.bool a0_0, .int .u64 a0_1, .int .u64 a0_2] 36 ?_; intro gb521 hg w4 hbox hb; have BK521 := Aside0.mk (hbox); have GW521 := Aside0.mk ((by rw [hg]; exact (below_size (zB HB)) : w.heap.size ≤ gb521)); have GE521 := Aside0.mk ((by rw [hg]; exact (below_size (zB HB)) : w.heap.size ≤ gb521)); replace HB := Aside0.mk (below_step (zB HB) hb); clear hb hbox hg) | ((with_reducible refine gate_dst (N := 3) rfl ?_); refine zx 3 #[.bool a1_0, .int .u64 a1_1, .int .u64 a1_2] 36 ?_; intro gb522 hg w5 hbox hb; have BK522 := Aside0.mk (hbox); have GW522 := Aside0.mk ((by rw [hg]; exact (below_size (zB HB)) : w.heap.size ≤ gb522)); have GE522 := Aside0.mk ((by rw [hg]; exact (below_size (zB HB)) : w.heap.size ≤ gb522)); replace HB := Aside0.mk (below_step (zB HB) hb); have NB521_522 := Aside0.mk ((by rw [hg]; exact Nat.ne_of_lt (blk_lt (g := gb521) (o := .cells #[.bool a0_0, .int .u64 a0_1, .int .u64 a0_2] 36 (0, 0)) (zK BK521)) : gb521 ≠ gb522)); have NB522_521 := Aside0.mk ((by rw [hg]; exact Nat.ne_of_gt (blk_lt (g := gb521) (o := .cells #[.bool a0_0, .int .u64 a0_1, .int .u64 a0_2] 36 (0, 0)) (zK BK521)) : gb522 ≠ gb521)); replace BK521 := Aside0.mk (blk_below (g := gb521) (o := .cells #[.bool a0_0, .int .u64 a0_1, .int .u64 a0_2] 36 (0, 0)) (zK BK521) hb); clear hb hbox hg) | ((with_reducible refine gate_dst (N := 4) rfl ?_); refine zx 4 #[.bool false, .int .u64 0, .int .u64 0, .int .i64 0] 45 ?_; intro gb523 hg w6 hbox hb; have BK523 := Aside0.mk (hbox); have GW523 := Aside0.mk ((by rw [hg]; exact (below_size (zB HB)) : w.heap.size ≤ gb523)); have GE523 := Aside0.mk ((by rw [hg]; exact (below_size (zB HB)) : w.heap.size ≤ gb523)); replace HB := Aside0.mk (below_step (zB HB) hb); have NB521_523 := Aside0.mk ((by rw [hg]; exact Nat.ne_of_lt (blk_lt (g := gb521) (o := .cells #[.bool a0_0, .int .u64 a0_1, .int .u64 a0_2] 36 (0, 0)) (zK BK521)) : gb521 ≠ gb523)); have NB523_521 := Aside0.mk ((by rw [hg]; exact Nat.ne_of_gt (blk_lt (g := gb521) (o := .cells #[.bool a0_0, .int .u64 a0_1, .int .u64 a0_2] 36 (0, 0)) (zK BK521)) : gb523 ≠ gb521)); replace BK521 := Aside0.mk (blk_below (g := gb521) (o := .cells #[.bool a0_0, .int .u64 a0_1, .int .u64 a0_2] 36 (0, 0)) (zK BK521) hb); have NB522_523 := Aside0.mk ((by rw [hg]; exact Nat.ne_of_lt (blk_lt (g := gb522) (o := .cells #[.bool a1_0, .int .u64 a1_1, .int .u64 a1_2] 36 (0, 0)) (zK BK522)) : gb522 ≠ gb523)); have NB523_522 := Aside0.mk ((by rw [hg]; exact Nat.ne_of_gt (blk_lt (g := gb522) (o := .cells #[.bool a1_0, .int .u64 a1_1, .int .u64 a1_2] 36 (0, 0)) (zK BK522)) : gb523 ≠ gb522)); replace BK522 := Aside0.mk (blk_below (g := gb522) (o := .cells #[.bool a1_0, .int .u64 a1_1, .int .u64 a1_2] 36 (0, 0)) (zK BK522) hb); clear hb hbox hg; have hnb7 := NB521_522.out; have hnc7 := NB522_521.out; have hnb8 := NB521_523.out; have hnc8 := NB523_521.out; obtain ⟨hcz9_0, hcz9_1, hcz9_2⟩ := zc3 BK521; obtain ⟨hfz9_0, hfz9_1, hfz9_2⟩ := zf3 BK521))
 (try simp only [Act.put, List.setIfInBounds_toArray, List.set_cons_zero, List.set_cons_succ])
 go_cut [5] (fun v5 wc => ∃ (kq : Nat) (x5_2 : Int), v5 = .int .i64 x5_2 ∧ Aside0 (addrset_greatest.j0 kq x5_2 a0_0 a0_1 a0_2 a1_0 a1_1 a1_2 = some (r1, r2, r3, r4)) ∧ Aside0 (kq ≤ k) ∧ Aside0 (wc.heap[gb521]? = some (.cells #[.bool a0_0, .int .u64 a0_1, .int .u64 a0_2] 36 (0, 0))) ∧ Aside0 (wc.heap[gb522]? = some (.cells #[.bool a1_0, .int .u64 a1_1, .int .u64 a1_2] 36 (0, 0))) ∧ Aside0 (wc.heap[gb523]? = some (.cells #[.bool false, .int .u64 0, .int .u64 0, .int .i64 0] 45 (0, 0))) ∧ Aside0 (Below w.heap.size w wc))
 case first =>
  have H := HC3.out
  clear HC3
  by_cases c10 : a0_0 = true
  · subst c10
    rw [if_pos rfl] at H
    have H' := Aside0.mk H
    clear H
    go_wp2
    go_meet
    case rel => exact ⟨_, (128), (by first | rfl | (simp; done) | (simp [*]; done)), H', ⟨by first | omega | exact Nat.le_refl _⟩, ⟨zK BK521⟩, ⟨zK BK522⟩, ⟨zK BK523⟩, ⟨zB HB⟩⟩
  · replace c10 := Bool.eq_false_iff.mpr c10
    subst c10
    rw [if_neg zF] at H
    have H' := Aside0.mk H
    clear H
    go_wp2
    go_meet
    case rel => exact ⟨_, (32), (by first | rfl | (simp; done) | (simp [*]; done)), H', ⟨by first | omega | exact Nat.le_refl _⟩, ⟨zK BK521⟩, ⟨zK BK522⟩, ⟨zK BK523⟩, ⟨zB HB⟩⟩
 case rest =>
  clear HC3
  try clear c1
  try clear p2
  try clear c7
  try clear c8
  try clear c10
  try clear hcz9_0
  try clear hcz9_1
  try clear hcz9_2
  try clear hfz9_0
  try clear hfz9_1
  try clear hfz9_2
  obtain ⟨kq, x5_2, rfl, HA, HJ2, BK521, BK522, BK523, HB⟩ := hcut
  cases kq with
  | zero => exact absurd HA.out (by simp [addrset_greatest.j0])
  | succ kj2 =>
   have H := HA.out
   clear HA
   simp only [addrset_greatest.j0] at H
   replace H := Option.bind_eq_some_iff.mp H
   obtain ⟨⟨t524, t525, t526, t527, t528⟩, A110, H⟩ := H
   replace H : (addrset_greatest.l0 kj2 x5_2 a0_0 a0_1 a0_2 a1_0 a1_1 a1_2 t524 t525 t526 t527) = some (r1, r2, r3, r4) := H
   have A11 := Aside0.mk A110
   clear A110
   have H' := Aside0.mk H
   clear H
   have hnb12 := NB521_522.out
   have hnc12 := NB522_521.out
   have hnb13 := NB521_523.out
   have hnc13 := NB523_521.out
   obtain ⟨hcz14_0, hcz14_1, hcz14_2⟩ := zc3 BK521
   obtain ⟨hfz14_0, hfz14_1, hfz14_2⟩ := zf3 BK521
   go_wp2_with (first | ((with_reducible refine gate_callee (f := 108) rfl ?_); refine goesL_ (some 15) rfl rfl Try.func108 (by kernel_rfl) rfl #[.agg #[.bool a0_0, .int .u64 a0_1, .int .u64 a0_2], .int .i64 x5_2] rfl (by (try simp only [List.map_toArray, List.map_cons, List.map_nil]); first | done | rfl | (simp only [List.length_drop, List.length_take]; rfl)) ?_; (with_reducible refine (address_MakePrefix.calls a0_0 a0_1 a0_2 x5_2 t524 t525 t526 t527 t528 _ A11.out).mono ?_); rintro e w15 ⟨rfl, hb⟩; refine ⟨_, rfl, ?_⟩; replace BK521 := Aside0.mk (blk_below (g := gb521) (o := .cells #[.bool a0_0, .int .u64 a0_1, .int .u64 a0_2] 36 (0, 0)) (zK BK521) hb); replace BK522 := Aside0.mk (blk_below (g := gb522) (o := .cells #[.bool a1_0, .int .u64 a1_1, .int .u64 a1_2] 36 (0, 0)) (zK BK522) hb); replace BK523 := Aside0.mk (blk_below (g := gb523) (o := .cells #[.bool false, .int .u64 0, .int .u64 0, .int .i64 0] 45 (0, 0)) (zK BK523) hb); replace HB := Aside0.mk (below_step (zB HB) hb); (try clear hb)) | ((with_reducible refine gate_dst (N := 6) rfl ?_); refine zx 6 #[.bool false, .int .u64 0, .int .u64 0, .int .i64 0] 45 ?_; intro gb529 hg w16 hbox hb; have BK529 := Aside0.mk (hbox); have GW529 := Aside0.mk ((by rw [hg]; exact (below_size (zB HB)) : w.heap.size ≤ gb529)); have GE529 := Aside0.mk ((by rw [hg]; exact (below_size (zB HB)) : w.heap.size ≤ gb529)); replace HB := Aside0.mk (below_step (zB HB) hb); have NB521_529 := Aside0.mk ((by rw [hg]; exact Nat.ne_of_lt (blk_lt (g := gb521) (o := .cells #[.bool a0_0, .int .u64 a0_1, .int .u64 a0_2] 36 (0, 0)) (zK BK521)) : gb521 ≠ gb529)); have NB529_521 := Aside0.mk ((by rw [hg]; exact Nat.ne_of_gt (blk_lt (g := gb521) (o := .cells #[.bool a0_0, .int .u64 a0_1, .int .u64 a0_2] 36 (0, 0)) (zK BK521)) : gb529 ≠ gb521)); replace BK521 := Aside0.mk (blk_below (g := gb521) (o := .cells #[.bool a0_0, .int .u64 a0_1, .int .u64 a0_2] 36 (0, 0)) (zK BK521) hb); have NB522_529 := Aside0.mk ((by rw [hg]; exact Nat.ne_of_lt (blk_lt (g := gb522) (o := .cells #[.bool a1_0, .int .u64 a1_1, .int .u64 a1_2] 36 (0, 0)) (zK BK522)) : gb522 ≠ gb529)); have NB529_522 := Aside0.mk ((by rw [hg]; exact Nat.ne_of_gt (blk_lt (g := gb522) (o := .cells #[.bool a1_0, .int .u64 a1_1, .int .u64 a1_2] 36 (0, 0)) (zK BK522)) : gb529 ≠ gb522)); replace BK522 := Aside0.mk (blk_below (g := gb522) (o := .cells #[.bool a1_0, .int .u64 a1_1, .int .u64 a1_2] 36 (0, 0)) (zK BK522) hb); have NB523_529 := Aside0.mk ((by rw [hg]; exact Nat.ne_of_lt (blk_lt (g := gb523) (o := .cells #[.bool false, .int .u64 0, .int .u64 0, .int .i64 0] 45 (0, 0)) (zK BK523)) : gb523 ≠ gb529)); have NB529_523 := Aside0.mk ((by rw [hg]; exact Nat.ne_of_gt (blk_lt (g := gb523) (o := .cells #[.bool false, .int .u64 0, .int .u64 0, .int .i64 0] 45 (0, 0)) (zK BK523)) : gb529 ≠ gb523)); replace BK523 := Aside0.mk (blk_below (g := gb523) (o := .cells #[.bool false, .int .u64 0, .int .u64 0, .int .i64 0] 45 (0, 0)) (zK BK523) hb); clear hb hbox hg; have hnb17 := NB529_521.out; have hnc17 := NB521_529.out; have hnb18 := NB529_522.out; have hnc18 := NB522_529.out; have hnb19 := NB529_523.out; have hnc19 := NB523_529.out; obtain ⟨hcz20_0, hcz20_1, hcz20_2, hcz20_3⟩ := zc4 BK529; obtain ⟨hfz20_0, hfz20_1, hfz20_2, hfz20_3⟩ := zf4 BK529))
   go_loopg [5] kj2 (fun kq v5 w' => ∃ (x5_2 : Int) (x530000_2 : Bool) (x530001_2 : Int) (x530002_2 : Int) (x530003_2 : Int), v5 = .int .i64 x5_2 ∧ Aside0 (addrset_greatest.l0 kq x5_2 a0_0 a0_1 a0_2 a1_0 a1_1 a1_2 x530000_2 x530001_2 x530002_2 x530003_2 = some (r1, r2, r3, r4)) ∧ Aside0 (kq ≤ kj2) ∧ Aside0 (w'.heap[gb521]? = some (.cells #[.bool a0_0, .int .u64 a0_1, .int .u64 a0_2] 36 (0, 0))) ∧ Aside0 (w'.heap[gb522]? = some (.cells #[.bool a1_0, .int .u64 a1_1, .int .u64 a1_2] 36 (0, 0))) ∧ Aside0 (w'.heap[gb523]? = some (.cells #[.bool false, .int .u64 0, .int .u64 0, .int .i64 0] 45 (0, 0))) ∧ Aside0 (w'.heap[gb529]? = some (.cells #[.bool x530000_2, .int .u64 x530001_2, .int .u64 x530002_2, .int .i64 x530003_2] 45 (0, 0))) ∧ Aside0 (Below w.heap.size w w'))
   case atStart => exact ⟨(x5_2), (t524), (t525), (t526), (t527), (by first | rfl | (simp; done) | (simp [*]; done)), H', ⟨Nat.le_refl _⟩, ⟨by refine zL ?_; refine blk_far ?_ NB521_529.out _; refine zL ?_; refine blk_far ?_ NB521_529.out _; refine zL ?_; refine blk_far ?_ NB521_529.out _; refine zL ?_; refine blk_far ?_ NB521_529.out _; refine zL ?_; exact BK521.out⟩, ⟨by refine zL ?_; refine blk_far ?_ NB522_529.out _; refine zL ?_; refine blk_far ?_ NB522_529.out _; refine zL ?_; refine blk_far ?_ NB522_529.out _; refine zL ?_; refine blk_far ?_ NB522_529.out _; refine zL ?_; exact BK522.out⟩, ⟨by refine zL ?_; refine blk_far ?_ NB523_529.out _; refine zL ?_; refine blk_far ?_ NB523_529.out _; refine zL ?_; refine blk_far ?_ NB523_529.out _; refine zL ?_; refine blk_far ?_ NB523_529.out _; refine zL ?_; exact BK523.out⟩, ⟨by refine zL ?_; refine blk_put (cs := #[.bool t524, .int .u64 t525, .int .u64 t526, .int .i64 0]) ?_ 3 _ rfl; refine zL ?_; refine blk_put (cs := #[.bool t524, .int .u64 t525, .int .u64 0, .int .i64 0]) ?_ 2 _ rfl; refine zL ?_; refine blk_put (cs := #[.bool t524, .int .u64 0, .int .u64 0, .int .i64 0]) ?_ 1 _ rfl; refine zL ?_; refine blk_put (cs := #[.bool false, .int .u64 0, .int .u64 0, .int .i64 0]) ?_ 0 _ rfl; refine zL ?_; exact BK529.out⟩, ⟨zB HB⟩⟩
   case round =>
    clear H'
    try clear c1
    try clear p2
    try clear c7
    try clear c8
    try clear c10
    try clear c12
    try clear c13
    try clear c17
    try clear c18
    try clear c19
    try clear hcz14_0
    try clear hcz14_1
    try clear hcz14_2
    try clear hcz20_0
    try clear hcz20_1
    try clear hcz20_2
    try clear hcz20_3
    try clear hcz9_0
    try clear hcz9_1
    try clear hcz9_2
    try clear hfz14_0
    try clear hfz14_1
    try clear hfz14_2
    try clear hfz20_0
    try clear hfz20_1
    try clear hfz20_2
    try clear hfz20_3
    try clear hfz9_0
    try clear hfz9_1
    try clear hfz9_2
    try clear p2
    obtain ⟨x5_2, x530000_2, x530001_2, x530002_2, x530003_2, rfl, HA, HK2, BK521, BK522, BK523, BK529, HB⟩ := hrel
    cases gk with
    | zero => exact absurd HA.out (by simp [addrset_greatest.l0])
    | succ k2 =>
     have H := HA.out
     clear HA
     simp only [addrset_greatest.l0] at H
     by_cases c21 : x5_2 > 0
     · rw [if_pos c21] at H
       have c21b0 : decide (0 < x5_2) = true := decide_eq_true c21
       clear c21
       replace H := Option.bind_eq_some_iff.mp H
       obtain ⟨⟨t530, t531, t532, t533, t534⟩, A220, H⟩ := H
       replace H : (if t534 = 0 then (if (!(t530 == a0_0) || (!(t531 == a0_1) || (!(t532 == a0_2)))) = true then (some (x530000_2, x530001_2, x530002_2, x530003_2)) else ((address_Bounds.f t530 t531 t532 t533).bind fun bt536 => ((address_Compare.f bt536.2.2.2.1 bt536.2.2.2.2.1 bt536.2.2.2.2.2 a1_0 a1_1 a1_2).bind fun t542 => (if t542 > 0 then (some (x530000_2, x530001_2, x530002_2, x530003_2)) else (addrset_greatest.l0 k2 (wrap64 (x5_2 - 1)) a0_0 a0_1 a0_2 a1_0 a1_1 a1_2 t530 t531 t532 t533))))) else (some (x530000_2, x530001_2, x530002_2, x530003_2))) = some (r1, r2, r3, r4) := H
       have A22 := Aside0.mk A220
       clear A220
       by_cases c23 : t534 = 0
       · rw [if_pos c23] at H
         have c23b0 : (t534 == 0) = true := beq_iff_eq.mpr c23
         have c23b1 : (t534 != 0) = false := bne_eq_false_iff_eq.mpr c23
         clear c23
         by_cases c24 : (!(t530 == a0_0) || (!(t531 == a0_1) || (!(t532 == a0_2)))) = true
         · rw [if_pos c24] at H
           have c24b0 : (!(t530 == a0_0) || (!(t531 == a0_1) || (!(t532 == a0_2)))) = true := c24
           clear c24
           simp only [Option.some.injEq, Prod.mk.injEq] at H
           obtain ⟨rfl, rfl, rfl, rfl⟩ := H
           have hnb25 := NB521_522.out
           have hnc25 := NB522_521.out
           have hnb26 := NB521_523.out
           have hnc26 := NB523_521.out
           have hnb27 := NB521_529.out
           have hnc27 := NB529_521.out
           obtain ⟨hcz28_0, hcz28_1, hcz28_2⟩ := zc3 BK521
           obtain ⟨hfz28_0, hfz28_1, hfz28_2⟩ := zf3 BK521
           try go_wp2_with (first | ((with_reducible refine gate_callee (f := 108) rfl ?_); refine goesL_ (some 25) rfl rfl Try.func108 (by kernel_rfl) rfl #[.agg #[.bool a0_0, .int .u64 a0_1, .int .u64 a0_2], .int .i64 (wrap64 (x5_2 - 1))] rfl (by (try simp only [List.map_toArray, List.map_cons, List.map_nil]); first | done | rfl | (simp only [List.length_drop, List.length_take]; rfl)) ?_; (with_reducible refine (address_MakePrefix.calls a0_0 a0_1 a0_2 (wrap64 (x5_2 - 1)) t530 t531 t532 t533 t534 _ A22.out).mono ?_); rintro e w29 ⟨rfl, hb⟩; refine ⟨_, rfl, ?_⟩; replace BK521 := Aside0.mk (blk_below (g := gb521) (o := .cells #[.bool a0_0, .int .u64 a0_1, .int .u64 a0_2] 36 (0, 0)) (zK BK521) hb); replace BK522 := Aside0.mk (blk_below (g := gb522) (o := .cells #[.bool a1_0, .int .u64 a1_1, .int .u64 a1_2] 36 (0, 0)) (zK BK522) hb); replace BK523 := Aside0.mk (blk_below (g := gb523) (o := .cells #[.bool false, .int .u64 0, .int .u64 0, .int .i64 0] 45 (0, 0)) (zK BK523) hb); replace BK529 := Aside0.mk (blk_below (g := gb529) (o := .cells #[.bool x530000_2, .int .u64 x530001_2, .int .u64 x530002_2, .int .i64 x530003_2] 45 (0, 0)) (zK BK529) hb); replace HB := Aside0.mk (below_step (zB HB) hb); (try clear hb)) | ((with_reducible refine gate_dst (N := 8) rfl ?_); refine zx 8 #[.bool false, .int .u64 0, .int .u64 0, .int .i64 0] 45 ?_; intro gb535 hg w30 hbox hb; have BK535 := Aside0.mk (hbox); have GW535 := Aside0.mk ((by rw [hg]; exact (below_size (zB HB)) : w.heap.size ≤ gb535)); have GE535 := Aside0.mk ((by rw [hg]; exact (below_size (zB HB)) : w.heap.size ≤ gb535)); replace HB := Aside0.mk (below_step (zB HB) hb); have NB521_535 := Aside0.mk ((by rw [hg]; exact Nat.ne_of_lt (blk_lt (g := gb521) (o := .cells #[.bool a0_0, .int .u64 a0_1, .int .u64 a0_2] 36 (0, 0)) (zK BK521)) : gb521 ≠ gb535)); have NB535_521 := Aside0.mk ((by rw [hg]; exact Nat.ne_of_gt (blk_lt (g := gb521) (o := .cells #[.bool a0_0, .int .u64 a0_1, .int .u64 a0_2] 36 (0, 0)) (zK BK521)) : gb535 ≠ gb521)); replace BK521 := Aside0.mk (blk_below (g := gb521) (o := .cells #[.bool a0_0, .int .u64 a0_1, .int .u64 a0_2] 36 (0, 0)) (zK BK521) hb); have NB522_535 := Aside0.mk ((by rw [hg]; exact Nat.ne_of_lt (blk_lt (g := gb522) (o := .cells #[.bool a1_0, .int .u64 a1_1, .int .u64 a1_2] 36 (0, 0)) (zK BK522)) : gb522 ≠ gb535)); have NB535_522 := Aside0.mk ((by rw [hg]; exact Nat.ne_of_gt (blk_lt (g := gb522) (o := .cells #[.bool a1_0, .int .u64 a1_1, .int .u64 a1_2] 36 (0, 0)) (zK BK522)) : gb535 ≠ gb522)); replace BK522 := Aside0.mk (blk_below (g := gb522) (o := .cells #[.bool a1_0, .int .u64 a1_1, .int .u64 a1_2] 36 (0, 0)) (zK BK522) hb); have NB523_535 := Aside0.mk ((by rw [hg]; exact Nat.ne_of_lt (blk_lt (g := gb523) (o := .cells #[.bool false, .int .u64 0, .int .u64 0, .int .i64 0] 45 (0, 0)) (zK BK523)) : gb523 ≠ gb535)); have NB535_523 := Aside0.mk ((by rw [hg]; exact Nat.ne_of_gt (blk_lt (g := gb523) (o := .cells #[.bool false, .int .u64 0, .int .u64 0, .int .i64 0] 45 (0, 0)) (zK BK523)) : gb535 ≠ gb523)); replace BK523 := Aside0.mk (blk_below (g := gb523) (o := .cells #[.bool false, .int .u64 0, .int .u64 0, .int .i64 0] 45 (0, 0)) (zK BK523) hb); have NB529_535 := Aside0.mk ((by rw [hg]; exact Nat.ne_of_lt (blk_lt (g := gb529) (o := .cells #[.bool x530000_2, .int .u64 x530001_2, .int .u64 x530002_2, .int .i64 x530003_2] 45 (0, 0)) (zK BK529)) : gb529 ≠ gb535)); have NB535_529 := Aside0.mk ((by rw [hg]; exact Nat.ne_of_gt (blk_lt (g := gb529) (o := .cells #[.bool x530000_2, .int .u64 x530001_2, .int .u64 x530002_2, .int .i64 x530003_2] 45 (0, 0)) (zK BK529)) : gb535 ≠ gb529)); replace BK529 := Aside0.mk (blk_below (g := gb529) (o := .cells #[.bool x530000_2, .int .u64 x530001_2, .int .u64 x530002_2, .int .i64 x530003_2] 45 (0, 0)) (zK BK529) hb); clear hb hbox hg; have hnb31 := NB535_521.out; have hnc31 := NB521_535.out; have hnb32 := NB535_522.out; have hnc32 := NB522_535.out; have hnb33 := NB535_523.out; have hnc33 := NB523_535.out; have hnb34 := NB535_529.out; have hnc34 := NB529_535.out; obtain ⟨hcz35_0, hcz35_1, hcz35_2, hcz35_3⟩ := zc4 BK535; obtain ⟨hfz35_0, hfz35_1, hfz35_2, hfz35_3⟩ := zf4 BK535))
           have n0_ : Aside0 (((((w30.setCell ⟨gb535, 0, none⟩ (.bool t530)).setCell ⟨gb535, 1, none⟩ (.int .u64 t531)).setCell ⟨gb535, 2, none⟩ (.int .u64 t532)).setCell ⟨gb535, 3, none⟩ (.int .i64 t533)).heap[gb521]? = some (.cells #[.bool a0_0, .int .u64 a0_1, .int .u64 a0_2] 36 (0, 0))) := ⟨by refine zL ?_; refine blk_far ?_ NB521_535.out _; refine zL ?_; refine blk_far ?_ NB521_535.out _; refine zL ?_; refine blk_far ?_ NB521_535.out _; refine zL ?_; refine blk_far ?_ NB521_535.out _; refine zL ?_; exact BK521.out⟩
           have n1_ : Aside0 (((((w30.setCell ⟨gb535, 0, none⟩ (.bool t530)).setCell ⟨gb535, 1, none⟩ (.int .u64 t531)).setCell ⟨gb535, 2, none⟩ (.int .u64 t532)).setCell ⟨gb535, 3, none⟩ (.int .i64 t533)).heap[gb522]? = some (.cells #[.bool a1_0, .int .u64 a1_1, .int .u64 a1_2] 36 (0, 0))) := ⟨by refine zL ?_; refine blk_far ?_ NB522_535.out _; refine zL ?_; refine blk_far ?_ NB522_535.out _; refine zL ?_; refine blk_far ?_ NB522_535.out _; refine zL ?_; refine blk_far ?_ NB522_535.out _; refine zL ?_; exact BK522.out⟩
           have n2_ : Aside0 (((((w30.setCell ⟨gb535, 0, none⟩ (.bool t530)).setCell ⟨gb535, 1, none⟩ (.int .u64 t531)).setCell ⟨gb535, 2, none⟩ (.int .u64 t532)).setCell ⟨gb535, 3, none⟩ (.int .i64 t533)).heap[gb523]? = some (.cells #[.bool false, .int .u64 0, .int .u64 0, .int .i64 0] 45 (0, 0))) := ⟨by refine zL ?_; refine blk_far ?_ NB523_535.out _; refine zL ?_; refine blk_far ?_ NB523_535.out _; refine zL ?_; refine blk_far ?_ NB523_535.out _; refine zL ?_; refine blk_far ?_ NB523_535.out _; refine zL ?_; exact BK523.out⟩
           have n3_ : Aside0 (((((w30.setCell ⟨gb535, 0, none⟩ (.bool t530)).setCell ⟨gb535, 1, none⟩ (.int .u64 t531)).setCell ⟨gb535, 2, none⟩ (.int .u64 t532)).setCell ⟨gb535, 3, none⟩ (.int .i64 t533)).heap[gb529]? = some (.cells #[.bool x530000_2, .int .u64 x530001_2, .int .u64 x530002_2, .int .i64 x530003_2] 45 (0, 0))) := ⟨by refine zL ?_; refine blk_far ?_ NB529_535.out _; refine zL ?_; refine blk_far ?_ NB529_535.out _; refine zL ?_; refine blk_far ?_ NB529_535.out _; refine zL ?_; refine blk_far ?_ NB529_535.out _; refine zL ?_; exact BK529.out⟩
           have n4_ : Aside0 (((((w30.setCell ⟨gb535, 0, none⟩ (.bool t530)).setCell ⟨gb535, 1, none⟩ (.int .u64 t531)).setCell ⟨gb535, 2, none⟩ (.int .u64 t532)).setCell ⟨gb535, 3, none⟩ (.int .i64 t533)).heap[gb535]? = some (.cells #[.bool t530, .int .u64 t531, .int .u64 t532, .int .i64 t533] 45 (0, 0))) := ⟨by refine zL ?_; refine blk_put (cs := #[.bool t530, .int .u64 t531, .int .u64 t532, .int .i64 0]) ?_ 3 _ rfl; refine zL ?_; refine blk_put (cs := #[.bool t530, .int .u64 t531, .int .u64 0, .int .i64 0]) ?_ 2 _ rfl; refine zL ?_; refine blk_put (cs := #[.bool t530, .int .u64 0, .int .u64 0, .int .i64 0]) ?_ 1 _ rfl; refine zL ?_; refine blk_put (cs := #[.bool false, .int .u64 0, .int .u64 0, .int .i64 0]) ?_ 0 _ rfl; refine zL ?_; exact BK535.out⟩
           have n5_ : Aside0 (Below w.heap.size w ((((w30.setCell ⟨gb535, 0, none⟩ (.bool t530)).setCell ⟨gb535, 1, none⟩ (.int .u64 t531)).setCell ⟨gb535, 2, none⟩ (.int .u64 t532)).setCell ⟨gb535, 3, none⟩ (.int .i64 t533))) := ⟨zB HB⟩
           (try clear BK521)
           (try clear BK522)
           (try clear BK523)
           (try clear BK529)
           (try clear BK535)
           (try clear HB)
           generalize ((((w30.setCell ⟨gb535, 0, none⟩ (.bool t530)).setCell ⟨gb535, 1, none⟩ (.int .u64 t531)).setCell ⟨gb535, 2, none⟩ (.int .u64 t532)).setCell ⟨gb535, 3, none⟩ (.int .i64 t533)) = w36 at n0_ n1_ n2_ n3_ n4_ n5_ ⊢
           have BK521 := n0_
           have BK522 := n1_
           have BK523 := n2_
           have BK529 := n3_
           have BK535 := n4_
           have HB := n5_
           clear n0_ n1_ n2_ n3_ n4_ n5_
           replace BK521 := Aside0.mk (blk_drew BK521.out)
           replace BK522 := Aside0.mk (blk_drew BK522.out)
           replace BK523 := Aside0.mk (blk_drew BK523.out)
           replace BK529 := Aside0.mk (blk_drew BK529.out)
           replace BK535 := Aside0.mk (blk_drew BK535.out)
           replace HB := Aside0.mk (below_drew1 HB.out)
           refine start_ (n := 16) (S := fun w' => w'.cell? ⟨gb535, 0, none⟩ = some (.bool t530) ∧ w'.cell? ⟨gb535, 1, none⟩ = some (.int .u64 t531) ∧ w'.cell? ⟨gb535, 2, none⟩ = some (.int .u64 t532) ∧ w'.cell? ⟨gb535, 3, none⟩ = some (.int .i64 t533) ∧ w'.cell? ⟨gb521, 0, none⟩ = some (.bool a0_0) ∧ w'.cell? ⟨gb521, 1, none⟩ = some (.int .u64 a0_1) ∧ w'.cell? ⟨gb521, 2, none⟩ = some (.int .u64 a0_2)) (ds := []) #[false, false, false, false, false, false, false, false, false, false, false, false, false, false, false, false] (by kernel_rfl) rfl rfl ⟨zc BK535 0, zc BK535 1, zc BK535 2, zc BK535 3, zc BK521 0, zc BK521 1, zc BK521 2⟩ (fun hHeld => ?_); refine with_tabW addrset_greatest.tab8 addrset_greatest.bits8 (fun HT_ HW_ => ?_)
           generalize w36.drew = w37 at BK521 BK522 BK523 BK529 BK535 HB hHeld ⊢
           refine zp 0 28 HT_ ?_; refine zp 1 29 HT_ ?_; refine zp 2 30 HT_ ?_; refine zp 3 31 HT_ ?_; refine zt 4 32 HT_ HW_ hHeld ?_; refine zt 5 33 HT_ HW_ hHeld ?_; refine zp 6 34 HT_ ?_; refine zp 7 35 HT_ ?_; refine zp 8 36 HT_ ?_; refine zu 9 37 HT_ ?_; refine zu 10 38 HT_ ?_; refine zu 11 39 HT_ ?_; refine zu 12 40 HT_ ?_; refine zu 13 41 HT_ ?_; refine zu 14 42 HT_ ?_; refine zp 15 43 HT_ ?_; refine zd HT_ ?_
           have hnb38 := NB529_522.out
           have hnc38 := NB522_529.out
           have hnb39 := NB529_523.out
           have hnc39 := NB523_529.out
           obtain ⟨hcz40_0, hcz40_1, hcz40_2, hcz40_3⟩ := zc4 BK529
           obtain ⟨hfz40_0, hfz40_1, hfz40_2, hfz40_3⟩ := zf4 BK529
           have hnb41 := NB523_522.out
           have hnc41 := NB522_523.out
           obtain ⟨hcz42_0, hcz42_1, hcz42_2, hcz42_3⟩ := zc4 BK523
           obtain ⟨hfz42_0, hfz42_1, hfz42_2, hfz42_3⟩ := zf4 BK523
           try go_wp2
           refine bodyPost_ret (results_cell_row rfl _ _ gb523 45 #[.bool x530000_2, .int .u64 x530001_2, .int .u64 x530002_2, .int .i64 x530003_2] (0, 0) _ rfl (by refine zL ?_; refine blk_put (cs := #[.bool x530000_2, .int .u64 x530001_2, .int .u64 x530002_2, .int .i64 0]) ?_ 3 _ rfl; refine zL ?_; refine blk_put (cs := #[.bool x530000_2, .int .u64 x530001_2, .int .u64 0, .int .i64 0]) ?_ 2 _ rfl; refine zL ?_; refine blk_put (cs := #[.bool x530000_2, .int .u64 0, .int .u64 0, .int .i64 0]) ?_ 1 _ rfl; refine zL ?_; refine blk_put (cs := #[.bool false, .int .u64 0, .int .u64 0, .int .i64 0]) ?_ 0 _ rfl; refine zL ?_; exact BK523.out) Try.underlying45 rfl (by kernel_rfl)) rfl ?_
           exact ⟨by first | rfl | (simp [errW_none, errW_some] <;> rfl) | (simp [*, errW_none, errW_some] <;> rfl), by repeat (first | (with_reducible first | exact HB.out | apply below_alloc | apply pw_below_drewN | apply below_drew1 | refine below_set ?_ GE521.out | refine below_set ?_ GE522.out | refine below_set ?_ GE523.out | refine below_set ?_ GE529.out | refine below_set ?_ GE535.out) | exact HB.out)⟩
         · rw [if_neg c24] at H
           have c24b0 : (!(t530 == a0_0) || (!(t531 == a0_1) || (!(t532 == a0_2)))) = false := by simpa using c24
           clear c24
           replace H := Option.bind_eq_some_iff.mp H
           obtain ⟨⟨t536, t537, t538, t539, t540, t541⟩, A430, H⟩ := H
           replace H : ((address_Compare.f t539 t540 t541 a1_0 a1_1 a1_2).bind fun t542 => (if t542 > 0 then (some (x530000_2, x530001_2, x530002_2, x530003_2)) else (addrset_greatest.l0 k2 (wrap64 (x5_2 - 1)) a0_0 a0_1 a0_2 a1_0 a1_1 a1_2 t530 t531 t532 t533))) = some (r1, r2, r3, r4) := H
           have A43 := Aside0.mk A430
           clear A430
           replace H := Option.bind_eq_some_iff.mp H
           obtain ⟨t542, A440, H⟩ := H
           replace H : (if t542 > 0 then (some (x530000_2, x530001_2, x530002_2, x530003_2)) else (addrset_greatest.l0 k2 (wrap64 (x5_2 - 1)) a0_0 a0_1 a0_2 a1_0 a1_1 a1_2 t530 t531 t532 t533)) = some (r1, r2, r3, r4) := H
           have A44 := Aside0.mk A440
           clear A440
           by_cases c45 : t542 > 0
           · rw [if_pos c45] at H
             have c45b0 : decide (0 < t542) = true := decide_eq_true c45
             clear c45
             simp only [Option.some.injEq, Prod.mk.injEq] at H
             obtain ⟨rfl, rfl, rfl, rfl⟩ := H
             have hnb46 := NB521_522.out
             have hnc46 := NB522_521.out
             have hnb47 := NB521_523.out
             have hnc47 := NB523_521.out
             have hnb48 := NB521_529.out
             have hnc48 := NB529_521.out
             obtain ⟨hcz49_0, hcz49_1, hcz49_2⟩ := zc3 BK521
             obtain ⟨hfz49_0, hfz49_1, hfz49_2⟩ := zf3 BK521
             try go_wp2_with (first | ((with_reducible refine gate_callee (f := 108) rfl ?_); refine goesL_ (some 25) rfl rfl Try.func108 (by kernel_rfl) rfl #[.agg #[.bool a0_0, .int .u64 a0_1, .int .u64 a0_2], .int .i64 (wrap64 (x5_2 - 1))] rfl (by (try simp only [List.map_toArray, List.map_cons, List.map_nil]); first | done | rfl | (simp only [List.length_drop, List.length_take]; rfl)) ?_; (with_reducible refine (address_MakePrefix.calls a0_0 a0_1 a0_2 (wrap64 (x5_2 - 1)) t530 t531 t532 t533 t534 _ A22.out).mono ?_); rintro e w50 ⟨rfl, hb⟩; refine ⟨_, rfl, ?_⟩; replace BK521 := Aside0.mk (blk_below (g := gb521) (o := .cells #[.bool a0_0, .int .u64 a0_1, .int .u64 a0_2] 36 (0, 0)) (zK BK521) hb); replace BK522 := Aside0.mk (blk_below (g := gb522) (o := .cells #[.bool a1_0, .int .u64 a1_1, .int .u64 a1_2] 36 (0, 0)) (zK BK522) hb); replace BK523 := Aside0.mk (blk_below (g := gb523) (o := .cells #[.bool false, .int .u64 0, .int .u64 0, .int .i64 0] 45 (0, 0)) (zK BK523) hb); replace BK529 := Aside0.mk (blk_below (g := gb529) (o := .cells #[.bool x530000_2, .int .u64 x530001_2, .int .u64 x530002_2, .int .i64 x530003_2] 45 (0, 0)) (zK BK529) hb); replace HB := Aside0.mk (below_step (zB HB) hb); (try clear hb)) | ((with_reducible refine gate_dst (N := 8) rfl ?_); refine zx 8 #[.bool false, .int .u64 0, .int .u64 0, .int .i64 0] 45 ?_; intro gb535 hg w51 hbox hb; have BK535 := Aside0.mk (hbox); have GW535 := Aside0.mk ((by rw [hg]; exact (below_size (zB HB)) : w.heap.size ≤ gb535)); have GE535 := Aside0.mk ((by rw [hg]; exact (below_size (zB HB)) : w.heap.size ≤ gb535)); replace HB := Aside0.mk (below_step (zB HB) hb); have NB521_535 := Aside0.mk ((by rw [hg]; exact Nat.ne_of_lt (blk_lt (g := gb521) (o := .cells #[.bool a0_0, .int .u64 a0_1, .int .u64 a0_2] 36 (0, 0)) (zK BK521)) : gb521 ≠ gb535)); have NB535_521 := Aside0.mk ((by rw [hg]; exact Nat.ne_of_gt (blk_lt (g := gb521) (o := .cells #[.bool a0_0, .int .u64 a0_1, .int .u64 a0_2] 36 (0, 0)) (zK BK521)) : gb535 ≠ gb521)); replace BK521 := Aside0.mk (blk_below (g := gb521) (o := .cells #[.bool a0_0, .int .u64 a0_1, .int .u64 a0_2] 36 (0, 0)) (zK BK521) hb); have NB522_535 := Aside0.mk ((by rw [hg]; exact Nat.ne_of_lt (blk_lt (g := gb522) (o := .cells #[.bool a1_0, .int .u64 a1_1, .int .u64 a1_2] 36 (0, 0)) (zK BK522)) : gb522 ≠ gb535)); have NB535_522 := Aside0.mk ((by rw [hg]; exact Nat.ne_of_gt (blk_lt (g := gb522) (o := .cells #[.bool a1_0, .int .u64 a1_1, .int .u64 a1_2] 36 (0, 0)) (zK BK522)) : gb535 ≠ gb522)); replace BK522 := Aside0.mk (blk_below (g := gb522) (o := .cells #[.bool a1_0, .int .u64 a1_1, .int .u64 a1_2] 36 (0, 0)) (zK BK522) hb); have NB523_535 := Aside0.mk ((by rw [hg]; exact Nat.ne_of_lt (blk_lt (g := gb523) (o := .cells #[.bool false, .int .u64 0, .int .u64 0, .int .i64 0] 45 (0, 0)) (zK BK523)) : gb523 ≠ gb535)); have NB535_523 := Aside0.mk ((by rw [hg]; exact Nat.ne_of_gt (blk_lt (g := gb523) (o := .cells #[.bool false, .int .u64 0, .int .u64 0, .int .i64 0] 45 (0, 0)) (zK BK523)) : gb535 ≠ gb523)); replace BK523 := Aside0.mk (blk_below (g := gb523) (o := .cells #[.bool false, .int .u64 0, .int .u64 0, .int .i64 0] 45 (0, 0)) (zK BK523) hb); have NB529_535 := Aside0.mk ((by rw [hg]; exact Nat.ne_of_lt (blk_lt (g := gb529) (o := .cells #[.bool x530000_2, .int .u64 x530001_2, .int .u64 x530002_2, .int .i64 x530003_2] 45 (0, 0)) (zK BK529)) : gb529 ≠ gb535)); have NB535_529 := Aside0.mk ((by rw [hg]; exact Nat.ne_of_gt (blk_lt (g := gb529) (o := .cells #[.bool x530000_2, .int .u64 x530001_2, .int .u64 x530002_2, .int .i64 x530003_2] 45 (0, 0)) (zK BK529)) : gb535 ≠ gb529)); replace BK529 := Aside0.mk (blk_below (g := gb529) (o := .cells #[.bool x530000_2, .int .u64 x530001_2, .int .u64 x530002_2, .int .i64 x530003_2] 45 (0, 0)) (zK BK529) hb); clear hb hbox hg; have hnb52 := NB535_521.out; have hnc52 := NB521_535.out; have hnb53 := NB535_522.out; have hnc53 := NB522_535.out; have hnb54 := NB535_523.out; have hnc54 := NB523_535.out; have hnb55 := NB535_529.out; have hnc55 := NB529_535.out; obtain ⟨hcz56_0, hcz56_1, hcz56_2, hcz56_3⟩ := zc4 BK535; obtain ⟨hfz56_0, hfz56_1, hfz56_2, hfz56_3⟩ := zf4 BK535))
             have n0_ : Aside0 (((((w51.setCell ⟨gb535, 0, none⟩ (.bool t530)).setCell ⟨gb535, 1, none⟩ (.int .u64 t531)).setCell ⟨gb535, 2, none⟩ (.int .u64 t532)).setCell ⟨gb535, 3, none⟩ (.int .i64 t533)).heap[gb521]? = some (.cells #[.bool a0_0, .int .u64 a0_1, .int .u64 a0_2] 36 (0, 0))) := ⟨by refine zL ?_; refine blk_far ?_ NB521_535.out _; refine zL ?_; refine blk_far ?_ NB521_535.out _; refine zL ?_; refine blk_far ?_ NB521_535.out _; refine zL ?_; refine blk_far ?_ NB521_535.out _; refine zL ?_; exact BK521.out⟩
             have n1_ : Aside0 (((((w51.setCell ⟨gb535, 0, none⟩ (.bool t530)).setCell ⟨gb535, 1, none⟩ (.int .u64 t531)).setCell ⟨gb535, 2, none⟩ (.int .u64 t532)).setCell ⟨gb535, 3, none⟩ (.int .i64 t533)).heap[gb522]? = some (.cells #[.bool a1_0, .int .u64 a1_1, .int .u64 a1_2] 36 (0, 0))) := ⟨by refine zL ?_; refine blk_far ?_ NB522_535.out _; refine zL ?_; refine blk_far ?_ NB522_535.out _; refine zL ?_; refine blk_far ?_ NB522_535.out _; refine zL ?_; refine blk_far ?_ NB522_535.out _; refine zL ?_; exact BK522.out⟩
             have n2_ : Aside0 (((((w51.setCell ⟨gb535, 0, none⟩ (.bool t530)).setCell ⟨gb535, 1, none⟩ (.int .u64 t531)).setCell ⟨gb535, 2, none⟩ (.int .u64 t532)).setCell ⟨gb535, 3, none⟩ (.int .i64 t533)).heap[gb523]? = some (.cells #[.bool false, .int .u64 0, .int .u64 0, .int .i64 0] 45 (0, 0))) := ⟨by refine zL ?_; refine blk_far ?_ NB523_535.out _; refine zL ?_; refine blk_far ?_ NB523_535.out _; refine zL ?_; refine blk_far ?_ NB523_535.out _; refine zL ?_; refine blk_far ?_ NB523_535.out _; refine zL ?_; exact BK523.out⟩
             have n3_ : Aside0 (((((w51.setCell ⟨gb535, 0, none⟩ (.bool t530)).setCell ⟨gb535, 1, none⟩ (.int .u64 t531)).setCell ⟨gb535, 2, none⟩ (.int .u64 t532)).setCell ⟨gb535, 3, none⟩ (.int .i64 t533)).heap[gb529]? = some (.cells #[.bool x530000_2, .int .u64 x530001_2, .int .u64 x530002_2, .int .i64 x530003_2] 45 (0, 0))) := ⟨by refine zL ?_; refine blk_far ?_ NB529_535.out _; refine zL ?_; refine blk_far ?_ NB529_535.out _; refine zL ?_; refine blk_far ?_ NB529_535.out _; refine zL ?_; refine blk_far ?_ NB529_535.out _; refine zL ?_; exact BK529.out⟩
             have n4_ : Aside0 (((((w51.setCell ⟨gb535, 0, none⟩ (.bool t530)).setCell ⟨gb535, 1, none⟩ (.int .u64 t531)).setCell ⟨gb535, 2, none⟩ (.int .u64 t532)).setCell ⟨gb535, 3, none⟩ (.int .i64 t533)).heap[gb535]? = some (.cells #[.bool t530, .int .u64 t531, .int .u64 t532, .int .i64 t533] 45 (0, 0))) := ⟨by refine zL ?_; refine blk_put (cs := #[.bool t530, .int .u64 t531, .int .u64 t532, .int .i64 0]) ?_ 3 _ rfl; refine zL ?_; refine blk_put (cs := #[.bool t530, .int .u64 t531, .int .u64 0, .int .i64 0]) ?_ 2 _ rfl; refine zL ?_; refine blk_put (cs := #[.bool t530, .int .u64 0, .int .u64 0, .int .i64 0]) ?_ 1 _ rfl; refine zL ?_; refine blk_put (cs := #[.bool false, .int .u64 0, .int .u64 0, .int .i64 0]) ?_ 0 _ rfl; refine zL ?_; exact BK535.out⟩
             have n5_ : Aside0 (Below w.heap.size w ((((w51.setCell ⟨gb535, 0, none⟩ (.bool t530)).setCell ⟨gb535, 1, none⟩ (.int .u64 t531)).setCell ⟨gb535, 2, none⟩ (.int .u64 t532)).setCell ⟨gb535, 3, none⟩ (.int .i64 t533))) := ⟨zB HB⟩
             (try clear BK521)
             (try clear BK522)
             (try clear BK523)
             (try clear BK529)
             (try clear BK535)
             (try clear HB)
             generalize ((((w51.setCell ⟨gb535, 0, none⟩ (.bool t530)).setCell ⟨gb535, 1, none⟩ (.int .u64 t531)).setCell ⟨gb535, 2, none⟩ (.int .u64 t532)).setCell ⟨gb535, 3, none⟩ (.int .i64 t533)) = w57 at n0_ n1_ n2_ n3_ n4_ n5_ ⊢
             have BK521 := n0_
             have BK522 := n1_
             have BK523 := n2_
             have BK529 := n3_
             have BK535 := n4_
             have HB := n5_
             clear n0_ n1_ n2_ n3_ n4_ n5_
             replace BK521 := Aside0.mk (blk_drew BK521.out)
             replace BK522 := Aside0.mk (blk_drew BK522.out)
             replace BK523 := Aside0.mk (blk_drew BK523.out)
             replace BK529 := Aside0.mk (blk_drew BK529.out)
             replace BK535 := Aside0.mk (blk_drew BK535.out)
             replace HB := Aside0.mk (below_drew1 HB.out)
             refine start_ (n := 16) (S := fun w' => w'.cell? ⟨gb535, 0, none⟩ = some (.bool t530) ∧ w'.cell? ⟨gb535, 1, none⟩ = some (.int .u64 t531) ∧ w'.cell? ⟨gb535, 2, none⟩ = some (.int .u64 t532) ∧ w'.cell? ⟨gb535, 3, none⟩ = some (.int .i64 t533) ∧ w'.cell? ⟨gb521, 0, none⟩ = some (.bool a0_0) ∧ w'.cell? ⟨gb521, 1, none⟩ = some (.int .u64 a0_1) ∧ w'.cell? ⟨gb521, 2, none⟩ = some (.int .u64 a0_2) ∧ w'.cell? ⟨gb522, 0, none⟩ = some (.bool a1_0) ∧ w'.cell? ⟨gb522, 1, none⟩ = some (.int .u64 a1_1) ∧ w'.cell? ⟨gb522, 2, none⟩ = some (.int .u64 a1_2)) (ds := []) #[false, false, false, false, false, false, false, false, false, false, false, false, false, false, false, false] (by kernel_rfl) rfl rfl ⟨zc BK535 0, zc BK535 1, zc BK535 2, zc BK535 3, zc BK521 0, zc BK521 1, zc BK521 2, zc BK522 0, zc BK522 1, zc BK522 2⟩ (fun hHeld => ?_); refine with_tabW addrset_greatest.tab8 addrset_greatest.bits8 (fun HT_ HW_ => ?_)
             generalize w57.drew = w58 at BK521 BK522 BK523 BK529 BK535 HB hHeld ⊢
             refine zp 0 28 HT_ ?_; refine zp 1 29 HT_ ?_; refine zp 2 30 HT_ ?_; refine zp 3 31 HT_ ?_; refine zt 4 32 HT_ HW_ hHeld ?_; refine zt 5 33 HT_ HW_ hHeld ?_; refine zp 6 34 HT_ ?_; refine zp 7 35 HT_ ?_; refine zp 8 36 HT_ ?_; refine zt 9 37 HT_ HW_ hHeld ?_; refine zt 12 40 HT_ HW_ hHeld ?_; refine zo 10 38 HT_ (fun K hK => ?_)
             refine zg Try.func87 #[.agg #[.bool t530, .int .u64 t531, .int .u64 t532, .int .i64 t533]] ?_
             with_reducible refine (address_Bounds.calls t530 t531 t532 t533 t536 t537 t538 t539 t540 t541 _ A43.out).mono ?_
             rintro e w59 ⟨rfl, hb⟩
             refine ⟨_, rfl, ?_⟩
             replace BK521 := Aside0.mk (blk_below (g := gb521) (o := .cells #[.bool a0_0, .int .u64 a0_1, .int .u64 a0_2] 36 (0, 0)) (zK BK521) hb)
             replace BK522 := Aside0.mk (blk_below (g := gb522) (o := .cells #[.bool a1_0, .int .u64 a1_1, .int .u64 a1_2] 36 (0, 0)) (zK BK522) hb)
             replace BK523 := Aside0.mk (blk_below (g := gb523) (o := .cells #[.bool false, .int .u64 0, .int .u64 0, .int .i64 0] 45 (0, 0)) (zK BK523) hb)
             replace BK529 := Aside0.mk (blk_below (g := gb529) (o := .cells #[.bool x530000_2, .int .u64 x530001_2, .int .u64 x530002_2, .int .i64 x530003_2] 45 (0, 0)) (zK BK529) hb)
             replace BK535 := Aside0.mk (blk_below (g := gb535) (o := .cells #[.bool t530, .int .u64 t531, .int .u64 t532, .int .i64 t533] 45 (0, 0)) (zK BK535) hb)
             replace HB := Aside0.mk (below_step (zB HB) hb)
             (try clear hb)
             refine hK.out _ _ ⟨zc BK535 0, zc BK535 1, zc BK535 2, zc BK535 3, zc BK521 0, zc BK521 1, zc BK521 2, zc BK522 0, zc BK522 1, zc BK522 2⟩ (fun hHeld => ?_)
             clear hK K
             refine zn 38 ?_; refine zp 11 39 HT_ ?_; refine zo 13 41 HT_ (fun K hK => ?_)
             refine zg Try.func75 #[.agg #[.bool t539, .int .u64 t540, .int .u64 t541], .agg #[.bool a1_0, .int .u64 a1_1, .int .u64 a1_2]] ?_
             with_reducible refine (address_Compare.calls t539 t540 t541 a1_0 a1_1 a1_2 t542 _ A44.out).mono ?_
             rintro e w60 ⟨rfl, hb⟩
             refine ⟨_, rfl, ?_⟩
             replace BK521 := Aside0.mk (blk_below (g := gb521) (o := .cells #[.bool a0_0, .int .u64 a0_1, .int .u64 a0_2] 36 (0, 0)) (zK BK521) hb)
             replace BK522 := Aside0.mk (blk_below (g := gb522) (o := .cells #[.bool a1_0, .int .u64 a1_1, .int .u64 a1_2] 36 (0, 0)) (zK BK522) hb)
             replace BK523 := Aside0.mk (blk_below (g := gb523) (o := .cells #[.bool false, .int .u64 0, .int .u64 0, .int .i64 0] 45 (0, 0)) (zK BK523) hb)
             replace BK529 := Aside0.mk (blk_below (g := gb529) (o := .cells #[.bool x530000_2, .int .u64 x530001_2, .int .u64 x530002_2, .int .i64 x530003_2] 45 (0, 0)) (zK BK529) hb)
             replace BK535 := Aside0.mk (blk_below (g := gb535) (o := .cells #[.bool t530, .int .u64 t531, .int .u64 t532, .int .i64 t533] 45 (0, 0)) (zK BK535) hb)
             replace HB := Aside0.mk (below_step (zB HB) hb)
             (try clear hb)
             refine hK.out _ _ ⟨zc BK535 0, zc BK535 1, zc BK535 2, zc BK535 3, zc BK521 0, zc BK521 1, zc BK521 2, zc BK522 0, zc BK522 1, zc BK522 2⟩ (fun hHeld => ?_)
             clear hK K
             refine zn 41 ?_; refine zp 14 42 HT_ ?_; refine zp 15 43 HT_ ?_; refine zd HT_ ?_
             have hnb61 := NB529_522.out
             have hnc61 := NB522_529.out
             have hnb62 := NB529_523.out
             have hnc62 := NB523_529.out
             obtain ⟨hcz63_0, hcz63_1, hcz63_2, hcz63_3⟩ := zc4 BK529
             obtain ⟨hfz63_0, hfz63_1, hfz63_2, hfz63_3⟩ := zf4 BK529
             have hnb64 := NB523_522.out
             have hnc64 := NB522_523.out
             obtain ⟨hcz65_0, hcz65_1, hcz65_2, hcz65_3⟩ := zc4 BK523
             obtain ⟨hfz65_0, hfz65_1, hfz65_2, hfz65_3⟩ := zf4 BK523
             try go_wp2
             refine bodyPost_ret (results_cell_row rfl _ _ gb523 45 #[.bool x530000_2, .int .u64 x530001_2, .int .u64 x530002_2, .int .i64 x530003_2] (0, 0) _ rfl (by refine zL ?_; refine blk_put (cs := #[.bool x530000_2, .int .u64 x530001_2, .int .u64 x530002_2, .int .i64 0]) ?_ 3 _ rfl; refine zL ?_; refine blk_put (cs := #[.bool x530000_2, .int .u64 x530001_2, .int .u64 0, .int .i64 0]) ?_ 2 _ rfl; refine zL ?_; refine blk_put (cs := #[.bool x530000_2, .int .u64 0, .int .u64 0, .int .i64 0]) ?_ 1 _ rfl; refine zL ?_; refine blk_put (cs := #[.bool false, .int .u64 0, .int .u64 0, .int .i64 0]) ?_ 0 _ rfl; refine zL ?_; exact BK523.out) Try.underlying45 rfl (by kernel_rfl)) rfl ?_
             exact ⟨by first | rfl | (simp [errW_none, errW_some] <;> rfl) | (simp [*, errW_none, errW_some] <;> rfl), by repeat (first | (with_reducible first | exact HB.out | apply below_alloc | apply pw_below_drewN | apply below_drew1 | refine below_set ?_ GE521.out | refine below_set ?_ GE522.out | refine below_set ?_ GE523.out | refine below_set ?_ GE529.out | refine below_set ?_ GE535.out) | exact HB.out)⟩
           · rw [if_neg c45] at H
             have c45b0 : decide (0 < t542) = false := decide_eq_false c45
             clear c45
             have H' := Aside0.mk H
             clear H
             have hnb66 := NB521_522.out
             have hnc66 := NB522_521.out
             have hnb67 := NB521_523.out
             have hnc67 := NB523_521.out
             have hnb68 := NB521_529.out
             have hnc68 := NB529_521.out
             obtain ⟨hcz69_0, hcz69_1, hcz69_2⟩ := zc3 BK521
             obtain ⟨hfz69_0, hfz69_1, hfz69_2⟩ := zf3 BK521
             try go_wp2_with (first | ((with_reducible refine gate_callee (f := 108) rfl ?_); refine goesL_ (some 25) rfl rfl Try.func108 (by kernel_rfl) rfl #[.agg #[.bool a0_0, .int .u64 a0_1, .int .u64 a0_2], .int .i64 (wrap64 (x5_2 - 1))] rfl (by (try simp only [List.map_toArray, List.map_cons, List.map_nil]); first | done | rfl | (simp only [List.length_drop, List.length_take]; rfl)) ?_; (with_reducible refine (address_MakePrefix.calls a0_0 a0_1 a0_2 (wrap64 (x5_2 - 1)) t530 t531 t532 t533 t534 _ A22.out).mono ?_); rintro e w70 ⟨rfl, hb⟩; refine ⟨_, rfl, ?_⟩; replace BK521 := Aside0.mk (blk_below (g := gb521) (o := .cells #[.bool a0_0, .int .u64 a0_1, .int .u64 a0_2] 36 (0, 0)) (zK BK521) hb); replace BK522 := Aside0.mk (blk_below (g := gb522) (o := .cells #[.bool a1_0, .int .u64 a1_1, .int .u64 a1_2] 36 (0, 0)) (zK BK522) hb); replace BK523 := Aside0.mk (blk_below (g := gb523) (o := .cells #[.bool false, .int .u64 0, .int .u64 0, .int .i64 0] 45 (0, 0)) (zK BK523) hb); replace BK529 := Aside0.mk (blk_below (g := gb529) (o := .cells #[.bool x530000_2, .int .u64 x530001_2, .int .u64 x530002_2, .int .i64 x530003_2] 45 (0, 0)) (zK BK529) hb); replace HB := Aside0.mk (below_step (zB HB) hb); (try clear hb)) | ((with_reducible refine gate_dst (N := 8) rfl ?_); refine zx 8 #[.bool false, .int .u64 0, .int .u64 0, .int .i64 0] 45 ?_; intro gb535 hg w71 hbox hb; have BK535 := Aside0.mk (hbox); have GW535 := Aside0.mk ((by rw [hg]; exact (below_size (zB HB)) : w.heap.size ≤ gb535)); have GE535 := Aside0.mk ((by rw [hg]; exact (below_size (zB HB)) : w.heap.size ≤ gb535)); replace HB := Aside0.mk (below_step (zB HB) hb); have NB521_535 := Aside0.mk ((by rw [hg]; exact Nat.ne_of_lt (blk_lt (g := gb521) (o := .cells #[.bool a0_0, .int .u64 a0_1, .int .u64 a0_2] 36 (0, 0)) (zK BK521)) : gb521 ≠ gb535)); have NB535_521 := Aside0.mk ((by rw [hg]; exact Nat.ne_of_gt (blk_lt (g := gb521) (o := .cells #[.bool a0_0, .int .u64 a0_1, .int .u64 a0_2] 36 (0, 0)) (zK BK521)) : gb535 ≠ gb521)); replace BK521 := Aside0.mk (blk_below (g := gb521) (o := .cells #[.bool a0_0, .int .u64 a0_1, .int .u64 a0_2] 36 (0, 0)) (zK BK521) hb); have NB522_535 := Aside0.mk ((by rw [hg]; exact Nat.ne_of_lt (blk_lt (g := gb522) (o := .cells #[.bool a1_0, .int .u64 a1_1, .int .u64 a1_2] 36 (0, 0)) (zK BK522)) : gb522 ≠ gb535)); have NB535_522 := Aside0.mk ((by rw [hg]; exact Nat.ne_of_gt (blk_lt (g := gb522) (o := .cells #[.bool a1_0, .int .u64 a1_1, .int .u64 a1_2] 36 (0, 0)) (zK BK522)) : gb535 ≠ gb522)); replace BK522 := Aside0.mk (blk_below (g := gb522) (o := .cells #[.bool a1_0, .int .u64 a1_1, .int .u64 a1_2] 36 (0, 0)) (zK BK522) hb); have NB523_535 := Aside0.mk ((by rw [hg]; exact Nat.ne_of_lt (blk_lt (g := gb523) (o := .cells #[.bool false, .int .u64 0, .int .u64 0, .int .i64 0] 45 (0, 0)) (zK BK523)) : gb523 ≠ gb535)); have NB535_523 := Aside0.mk ((by rw [hg]; exact Nat.ne_of_gt (blk_lt (g := gb523) (o := .cells #[.bool false, .int .u64 0, .int .u64 0, .int .i64 0] 45 (0, 0)) (zK BK523)) : gb535 ≠ gb523)); replace BK523 := Aside0.mk (blk_below (g := gb523) (o := .cells #[.bool false, .int .u64 0, .int .u64 0, .int .i64 0] 45 (0, 0)) (zK BK523) hb); have NB529_535 := Aside0.mk ((by rw [hg]; exact Nat.ne_of_lt (blk_lt (g := gb529) (o := .cells #[.bool x530000_2, .int .u64 x530001_2, .int .u64 x530002_2, .int .i64 x530003_2] 45 (0, 0)) (zK BK529)) : gb529 ≠ gb535)); have NB535_529 := Aside0.mk ((by rw [hg]; exact Nat.ne_of_gt (blk_lt (g := gb529) (o := .cells #[.bool x530000_2, .int .u64 x530001_2, .int .u64 x530002_2, .int .i64 x530003_2] 45 (0, 0)) (zK BK529)) : gb535 ≠ gb529)); replace BK529 := Aside0.mk (blk_below (g := gb529) (o := .cells #[.bool x530000_2, .int .u64 x530001_2, .int .u64 x530002_2, .int .i64 x530003_2] 45 (0, 0)) (zK BK529) hb); clear hb hbox hg; have hnb72 := NB535_521.out; have hnc72 := NB521_535.out; have hnb73 := NB535_522.out; have hnc73 := NB522_535.out; have hnb74 := NB535_523.out; have hnc74 := NB523_535.out; have hnb75 := NB535_529.out; have hnc75 := NB529_535.out; obtain ⟨hcz76_0, hcz76_1, hcz76_2, hcz76_3⟩ := zc4 BK535; obtain ⟨hfz76_0, hfz76_1, hfz76_2, hfz76_3⟩ := zf4 BK535))
             have n0_ : Aside0 (((((w71.setCell ⟨gb535, 0, none⟩ (.bool t530)).setCell ⟨gb535, 1, none⟩ (.int .u64 t531)).setCell ⟨gb535, 2, none⟩ (.int .u64 t532)).setCell ⟨gb535, 3, none⟩ (.int .i64 t533)).heap[gb521]? = some (.cells #[.bool a0_0, .int .u64 a0_1, .int .u64 a0_2] 36 (0, 0))) := ⟨by refine zL ?_; refine blk_far ?_ NB521_535.out _; refine zL ?_; refine blk_far ?_ NB521_535.out _; refine zL ?_; refine blk_far ?_ NB521_535.out _; refine zL ?_; refine blk_far ?_ NB521_535.out _; refine zL ?_; exact BK521.out⟩
             have n1_ : Aside0 (((((w71.setCell ⟨gb535, 0, none⟩ (.bool t530)).setCell ⟨gb535, 1, none⟩ (.int .u64 t531)).setCell ⟨gb535, 2, none⟩ (.int .u64 t532)).setCell ⟨gb535, 3, none⟩ (.int .i64 t533)).heap[gb522]? = some (.cells #[.bool a1_0, .int .u64 a1_1, .int .u64 a1_2] 36 (0, 0))) := ⟨by refine zL ?_; refine blk_far ?_ NB522_535.out _; refine zL ?_; refine blk_far ?_ NB522_535.out _; refine zL ?_; refine blk_far ?_ NB522_535.out _; refine zL ?_; refine blk_far ?_ NB522_535.out _; refine zL ?_; exact BK522.out⟩
             have n2_ : Aside0 (((((w71.setCell ⟨gb535, 0, none⟩ (.bool t530)).setCell ⟨gb535, 1, none⟩ (.int .u64 t531)).setCell ⟨gb535, 2, none⟩ (.int .u64 t532)).setCell ⟨gb535, 3, none⟩ (.int .i64 t533)).heap[gb523]? = some (.cells #[.bool false, .int .u64 0, .int .u64 0, .int .i64 0] 45 (0, 0))) := ⟨by refine zL ?_; refine blk_far ?_ NB523_535.out _; refine zL ?_; refine blk_far ?_ NB523_535.out _; refine zL ?_; refine blk_far ?_ NB523_535.out _; refine zL ?_; refine blk_far ?_ NB523_535.out _; refine zL ?_; exact BK523.out⟩
             have n3_ : Aside0 (((((w71.setCell ⟨gb535, 0, none⟩ (.bool t530)).setCell ⟨gb535, 1, none⟩ (.int .u64 t531)).setCell ⟨gb535, 2, none⟩ (.int .u64 t532)).setCell ⟨gb535, 3, none⟩ (.int .i64 t533)).heap[gb529]? = some (.cells #[.bool x530000_2, .int .u64 x530001_2, .int .u64 x530002_2, .int .i64 x530003_2] 45 (0, 0))) := ⟨by refine zL ?_; refine blk_far ?_ NB529_535.out _; refine zL ?_; refine blk_far ?_ NB529_535.out _; refine zL ?_; refine blk_far ?_ NB529_535.out _; refine zL ?_; refine blk_far ?_ NB529_535.out _; refine zL ?_; exact BK529.out⟩
             have n4_ : Aside0 (((((w71.setCell ⟨gb535, 0, none⟩ (.bool t530)).setCell ⟨gb535, 1, none⟩ (.int .u64 t531)).setCell ⟨gb535, 2, none⟩ (.int .u64 t532)).setCell ⟨gb535, 3, none⟩ (.int .i64 t533)).heap[gb535]? = some (.cells #[.bool t530, .int .u64 t531, .int .u64 t532, .int .i64 t533] 45 (0, 0))) := ⟨by refine zL ?_; refine blk_put (cs := #[.bool t530, .int .u64 t531, .int .u64 t532, .int .i64 0]) ?_ 3 _ rfl; refine zL ?_; refine blk_put (cs := #[.bool t530, .int .u64 t531, .int .u64 0, .int .i64 0]) ?_ 2 _ rfl; refine zL ?_; refine blk_put (cs := #[.bool t530, .int .u64 0, .int .u64 0, .int .i64 0]) ?_ 1 _ rfl; refine zL ?_; refine blk_put (cs := #[.bool false, .int .u64 0, .int .u64 0, .int .i64 0]) ?_ 0 _ rfl; refine zL ?_; exact BK535.out⟩
             have n5_ : Aside0 (Below w.heap.size w ((((w71.setCell ⟨gb535, 0, none⟩ (.bool t530)).setCell ⟨gb535, 1, none⟩ (.int .u64 t531)).setCell ⟨gb535, 2, none⟩ (.int .u64 t532)).setCell ⟨gb535, 3, none⟩ (.int .i64 t533))) := ⟨zB HB⟩
             (try clear BK521)
             (try clear BK522)
             (try clear BK523)
             (try clear BK529)
             (try clear BK535)
             (try clear HB)
             generalize ((((w71.setCell ⟨gb535, 0, none⟩ (.bool t530)).setCell ⟨gb535, 1, none⟩ (.int .u64 t531)).setCell ⟨gb535, 2, none⟩ (.int .u64 t532)).setCell ⟨gb535, 3, none⟩ (.int .i64 t533)) = w77 at n0_ n1_ n2_ n3_ n4_ n5_ ⊢
             have BK521 := n0_
             have BK522 := n1_
             have BK523 := n2_
             have BK529 := n3_
             have BK535 := n4_
             have HB := n5_
             clear n0_ n1_ n2_ n3_ n4_ n5_
             replace BK521 := Aside0.mk (blk_drew BK521.out)
             replace BK522 := Aside0.mk (blk_drew BK522.out)
             replace BK523 := Aside0.mk (blk_drew BK523.out)
             replace BK529 := Aside0.mk (blk_drew BK529.out)
             replace BK535 := Aside0.mk (blk_drew BK535.out)
             replace HB := Aside0.mk (below_drew1 HB.out)
             refine start_ (n := 16) (S := fun w' => w'.cell? ⟨gb535, 0, none⟩ = some (.bool t530) ∧ w'.cell? ⟨gb535, 1, none⟩ = some (.int .u64 t531) ∧ w'.cell? ⟨gb535, 2, none⟩ = some (.int .u64 t532) ∧ w'.cell? ⟨gb535, 3, none⟩ = some (.int .i64 t533) ∧ w'.cell? ⟨gb521, 0, none⟩ = some (.bool a0_0) ∧ w'.cell? ⟨gb521, 1, none⟩ = some (.int .u64 a0_1) ∧ w'.cell? ⟨gb521, 2, none⟩ = some (.int .u64 a0_2) ∧ w'.cell? ⟨gb522, 0, none⟩ = some (.bool a1_0) ∧ w'.cell? ⟨gb522, 1, none⟩ = some (.int .u64 a1_1) ∧ w'.cell? ⟨gb522, 2, none⟩ = some (.int .u64 a1_2)) (ds := []) #[false, false, false, false, false, false, false, false, false, false, false, false, false, false, false, false] (by kernel_rfl) rfl rfl ⟨zc BK535 0, zc BK535 1, zc BK535 2, zc BK535 3, zc BK521 0, zc BK521 1, zc BK521 2, zc BK522 0, zc BK522 1, zc BK522 2⟩ (fun hHeld => ?_); refine with_tabW addrset_greatest.tab8 addrset_greatest.bits8 (fun HT_ HW_ => ?_)
             generalize w77.drew = w78 at BK521 BK522 BK523 BK529 BK535 HB hHeld ⊢
             refine zp 0 28 HT_ ?_; refine zp 1 29 HT_ ?_; refine zp 2 30 HT_ ?_; refine zp 3 31 HT_ ?_; refine zt 4 32 HT_ HW_ hHeld ?_; refine zt 5 33 HT_ HW_ hHeld ?_; refine zp 6 34 HT_ ?_; refine zp 7 35 HT_ ?_; refine zp 8 36 HT_ ?_; refine zt 9 37 HT_ HW_ hHeld ?_; refine zt 12 40 HT_ HW_ hHeld ?_; refine zo 10 38 HT_ (fun K hK => ?_)
             refine zg Try.func87 #[.agg #[.bool t530, .int .u64 t531, .int .u64 t532, .int .i64 t533]] ?_
             with_reducible refine (address_Bounds.calls t530 t531 t532 t533 t536 t537 t538 t539 t540 t541 _ A43.out).mono ?_
             rintro e w79 ⟨rfl, hb⟩
             refine ⟨_, rfl, ?_⟩
             replace BK521 := Aside0.mk (blk_below (g := gb521) (o := .cells #[.bool a0_0, .int .u64 a0_1, .int .u64 a0_2] 36 (0, 0)) (zK BK521) hb)
             replace BK522 := Aside0.mk (blk_below (g := gb522) (o := .cells #[.bool a1_0, .int .u64 a1_1, .int .u64 a1_2] 36 (0, 0)) (zK BK522) hb)
             replace BK523 := Aside0.mk (blk_below (g := gb523) (o := .cells #[.bool false, .int .u64 0, .int .u64 0, .int .i64 0] 45 (0, 0)) (zK BK523) hb)
             replace BK529 := Aside0.mk (blk_below (g := gb529) (o := .cells #[.bool x530000_2, .int .u64 x530001_2, .int .u64 x530002_2, .int .i64 x530003_2] 45 (0, 0)) (zK BK529) hb)
             replace BK535 := Aside0.mk (blk_below (g := gb535) (o := .cells #[.bool t530, .int .u64 t531, .int .u64 t532, .int .i64 t533] 45 (0, 0)) (zK BK535) hb)
             replace HB := Aside0.mk (below_step (zB HB) hb)
             (try clear hb)
             refine hK.out _ _ ⟨zc BK535 0, zc BK535 1, zc BK535 2, zc BK535 3, zc BK521 0, zc BK521 1, zc BK521 2, zc BK522 0, zc BK522 1, zc BK522 2⟩ (fun hHeld => ?_)
             clear hK K
             refine zn 38 ?_; refine zp 11 39 HT_ ?_; refine zo 13 41 HT_ (fun K hK => ?_)
             refine zg Try.func75 #[.agg #[.bool t539, .int .u64 t540, .int .u64 t541], .agg #[.bool a1_0, .int .u64 a1_1, .int .u64 a1_2]] ?_
             with_reducible refine (address_Compare.calls t539 t540 t541 a1_0 a1_1 a1_2 t542 _ A44.out).mono ?_
             rintro e w80 ⟨rfl, hb⟩
             refine ⟨_, rfl, ?_⟩
             replace BK521 := Aside0.mk (blk_below (g := gb521) (o := .cells #[.bool a0_0, .int .u64 a0_1, .int .u64 a0_2] 36 (0, 0)) (zK BK521) hb)
             replace BK522 := Aside0.mk (blk_below (g := gb522) (o := .cells #[.bool a1_0, .int .u64 a1_1, .int .u64 a1_2] 36 (0, 0)) (zK BK522) hb)
             replace BK523 := Aside0.mk (blk_below (g := gb523) (o := .cells #[.bool false, .int .u64 0, .int .u64 0, .int .i64 0] 45 (0, 0)) (zK BK523) hb)
             replace BK529 := Aside0.mk (blk_below (g := gb529) (o := .cells #[.bool x530000_2, .int .u64 x530001_2, .int .u64 x530002_2, .int .i64 x530003_2] 45 (0, 0)) (zK BK529) hb)
             replace BK535 := Aside0.mk (blk_below (g := gb535) (o := .cells #[.bool t530, .int .u64 t531, .int .u64 t532, .int .i64 t533] 45 (0, 0)) (zK BK535) hb)
             replace HB := Aside0.mk (below_step (zB HB) hb)
             (try clear hb)
             refine hK.out _ _ ⟨zc BK535 0, zc BK535 1, zc BK535 2, zc BK535 3, zc BK521 0, zc BK521 1, zc BK521 2, zc BK522 0, zc BK522 1, zc BK522 2⟩ (fun hHeld => ?_)
             clear hK K
             refine zn 41 ?_; refine zp 14 42 HT_ ?_; refine zp 15 43 HT_ ?_; refine zd HT_ ?_
             obtain ⟨hcz81_0, hcz81_1, hcz81_2, hcz81_3⟩ := zc4 BK535
             obtain ⟨hfz81_0, hfz81_1, hfz81_2, hfz81_3⟩ := zf4 BK535
             have hnb82 := NB529_522.out
             have hnc82 := NB522_529.out
             have hnb83 := NB529_523.out
             have hnc83 := NB523_529.out
             obtain ⟨hcz84_0, hcz84_1, hcz84_2, hcz84_3⟩ := zc4 BK529
             obtain ⟨hfz84_0, hfz84_1, hfz84_2, hfz84_3⟩ := zf4 BK529
             try go_wp2
             go_roundg k2
             case measure => have := HJ2.out; have := HK2.out; omega
             case rel => exact ⟨(wrap64 (x5_2 - 1)), (t530), (t531), (t532), (t533), (by first | rfl | (simp; done) | (simp [*]; done)), H', ⟨by have := HJ2.out; have := HK2.out; omega⟩, ⟨by refine zL ?_; refine blk_far ?_ NB521_529.out _; refine zL ?_; refine blk_far ?_ NB521_529.out _; refine zL ?_; refine blk_far ?_ NB521_529.out _; refine zL ?_; refine blk_far ?_ NB521_529.out _; refine zL ?_; exact BK521.out⟩, ⟨by refine zL ?_; refine blk_far ?_ NB522_529.out _; refine zL ?_; refine blk_far ?_ NB522_529.out _; refine zL ?_; refine blk_far ?_ NB522_529.out _; refine zL ?_; refine blk_far ?_ NB522_529.out _; refine zL ?_; exact BK522.out⟩, ⟨by refine zL ?_; refine blk_far ?_ NB523_529.out _; refine zL ?_; refine blk_far ?_ NB523_529.out _; refine zL ?_; refine blk_far ?_ NB523_529.out _; refine zL ?_; refine blk_far ?_ NB523_529.out _; refine zL ?_; exact BK523.out⟩, ⟨by refine zL ?_; refine blk_put (cs := #[.bool t530, .int .u64 t531, .int .u64 t532, .int .i64 x530003_2]) ?_ 3 _ rfl; refine zL ?_; refine blk_put (cs := #[.bool t530, .int .u64 t531, .int .u64 x530002_2, .int .i64 x530003_2]) ?_ 2 _ rfl; refine zL ?_; refine blk_put (cs := #[.bool t530, .int .u64 x530001_2, .int .u64 x530002_2, .int .i64 x530003_2]) ?_ 1 _ rfl; refine zL ?_; refine blk_put (cs := #[.bool x530000_2, .int .u64 x530001_2, .int .u64 x530002_2, .int .i64 x530003_2]) ?_ 0 _ rfl; refine zL ?_; exact BK529.out⟩, ⟨zB HB⟩⟩
       · rw [if_neg c23] at H
         have c23b0 : (t534 == 0) = false := beq_eq_false_iff_ne.mpr c23
         have c23b1 : (t534 != 0) = true := bne_iff_ne.mpr c23
         simp only [Option.some.injEq, Prod.mk.injEq] at H
         obtain ⟨rfl, rfl, rfl, rfl⟩ := H
         have hnb85 := NB521_522.out
         have hnc85 := NB522_521.out
         have hnb86 := NB521_523.out
         have hnc86 := NB523_521.out
         have hnb87 := NB521_529.out
         have hnc87 := NB529_521.out
         obtain ⟨hcz88_0, hcz88_1, hcz88_2⟩ := zc3 BK521
         obtain ⟨hfz88_0, hfz88_1, hfz88_2⟩ := zf3 BK521
         try go_wp2_with (first | ((with_reducible refine gate_callee (f := 108) rfl ?_); refine goesL_ (some 25) rfl rfl Try.func108 (by kernel_rfl) rfl #[.agg #[.bool a0_0, .int .u64 a0_1, .int .u64 a0_2], .int .i64 (wrap64 (x5_2 - 1))] rfl (by (try simp only [List.map_toArray, List.map_cons, List.map_nil]); first | done | rfl | (simp only [List.length_drop, List.length_take]; rfl)) ?_; (with_reducible refine (address_MakePrefix.calls a0_0 a0_1 a0_2 (wrap64 (x5_2 - 1)) t530 t531 t532 t533 t534 _ A22.out).mono ?_); rintro e w89 ⟨rfl, hb⟩; refine ⟨_, rfl, ?_⟩; replace BK521 := Aside0.mk (blk_below (g := gb521) (o := .cells #[.bool a0_0, .int .u64 a0_1, .int .u64 a0_2] 36 (0, 0)) (zK BK521) hb); replace BK522 := Aside0.mk (blk_below (g := gb522) (o := .cells #[.bool a1_0, .int .u64 a1_1, .int .u64 a1_2] 36 (0, 0)) (zK BK522) hb); replace BK523 := Aside0.mk (blk_below (g := gb523) (o := .cells #[.bool false, .int .u64 0, .int .u64 0, .int .i64 0] 45 (0, 0)) (zK BK523) hb); replace BK529 := Aside0.mk (blk_below (g := gb529) (o := .cells #[.bool x530000_2, .int .u64 x530001_2, .int .u64 x530002_2, .int .i64 x530003_2] 45 (0, 0)) (zK BK529) hb); replace HB := Aside0.mk (below_step (zB HB) hb); (try clear hb)) | ((with_reducible refine gate_dst (N := 8) rfl ?_); refine zx 8 #[.bool false, .int .u64 0, .int .u64 0, .int .i64 0] 45 ?_; intro gb535 hg w90 hbox hb; have BK535 := Aside0.mk (hbox); have GW535 := Aside0.mk ((by rw [hg]; exact (below_size (zB HB)) : w.heap.size ≤ gb535)); have GE535 := Aside0.mk ((by rw [hg]; exact (below_size (zB HB)) : w.heap.size ≤ gb535)); replace HB := Aside0.mk (below_step (zB HB) hb); have NB521_535 := Aside0.mk ((by rw [hg]; exact Nat.ne_of_lt (blk_lt (g := gb521) (o := .cells #[.bool a0_0, .int .u64 a0_1, .int .u64 a0_2] 36 (0, 0)) (zK BK521)) : gb521 ≠ gb535)); have NB535_521 := Aside0.mk ((by rw [hg]; exact Nat.ne_of_gt (blk_lt (g := gb521) (o := .cells #[.bool a0_0, .int .u64 a0_1, .int .u64 a0_2] 36 (0, 0)) (zK BK521)) : gb535 ≠ gb521)); replace BK521 := Aside0.mk (blk_below (g := gb521) (o := .cells #[.bool a0_0, .int .u64 a0_1, .int .u64 a0_2] 36 (0, 0)) (zK BK521) hb); have NB522_535 := Aside0.mk ((by rw [hg]; exact Nat.ne_of_lt (blk_lt (g := gb522) (o := .cells #[.bool a1_0, .int .u64 a1_1, .int .u64 a1_2] 36 (0, 0)) (zK BK522)) : gb522 ≠ gb535)); have NB535_522 := Aside0.mk ((by rw [hg]; exact Nat.ne_of_gt (blk_lt (g := gb522) (o := .cells #[.bool a1_0, .int .u64 a1_1, .int .u64 a1_2] 36 (0, 0)) (zK BK522)) : gb535 ≠ gb522)); replace BK522 := Aside0.mk (blk_below (g := gb522) (o := .cells #[.bool a1_0, .int .u64 a1_1, .int .u64 a1_2] 36 (0, 0)) (zK BK522) hb); have NB523_535 := Aside0.mk ((by rw [hg]; exact Nat.ne_of_lt (blk_lt (g := gb523) (o := .cells #[.bool false, .int .u64 0, .int .u64 0, .int .i64 0] 45 (0, 0)) (zK BK523)) : gb523 ≠ gb535)); have NB535_523 := Aside0.mk ((by rw [hg]; exact Nat.ne_of_gt (blk_lt (g := gb523) (o := .cells #[.bool false, .int .u64 0, .int .u64 0, .int .i64 0] 45 (0, 0)) (zK BK523)) : gb535 ≠ gb523)); replace BK523 := Aside0.mk (blk_below (g := gb523) (o := .cells #[.bool false, .int .u64 0, .int .u64 0, .int .i64 0] 45 (0, 0)) (zK BK523) hb); have NB529_535 := Aside0.mk ((by rw [hg]; exact Nat.ne_of_lt (blk_lt (g := gb529) (o := .cells #[.bool x530000_2, .int .u64 x530001_2, .int .u64 x530002_2, .int .i64 x530003_2] 45 (0, 0)) (zK BK529)) : gb529 ≠ gb535)); have NB535_529 := Aside0.mk ((by rw [hg]; exact Nat.ne_of_gt (blk_lt (g := gb529) (o := .cells #[.bool x530000_2, .int .u64 x530001_2, .int .u64 x530002_2, .int .i64 x530003_2] 45 (0, 0)) (zK BK529)) : gb535 ≠ gb529)); replace BK529 := Aside0.mk (blk_below (g := gb529) (o := .cells #[.bool x530000_2, .int .u64 x530001_2, .int .u64 x530002_2, .int .i64 x530003_2] 45 (0, 0)) (zK BK529) hb); clear hb hbox hg; have hnb91 := NB535_521.out; have hnc91 := NB521_535.out; have hnb92 := NB535_522.out; have hnc92 := NB522_535.out; have hnb93 := NB535_523.out; have hnc93 := NB523_535.out; have hnb94 := NB535_529.out; have hnc94 := NB529_535.out; obtain ⟨hcz95_0, hcz95_1, hcz95_2, hcz95_3⟩ := zc4 BK535; obtain ⟨hfz95_0, hfz95_1, hfz95_2, hfz95_3⟩ := zf4 BK535))
         have n0_ : Aside0 (((((w90.setCell ⟨gb535, 0, none⟩ (.bool t530)).setCell ⟨gb535, 1, none⟩ (.int .u64 t531)).setCell ⟨gb535, 2, none⟩ (.int .u64 t532)).setCell ⟨gb535, 3, none⟩ (.int .i64 t533)).heap[gb521]? = some (.cells #[.bool a0_0, .int .u64 a0_1, .int .u64 a0_2] 36 (0, 0))) := ⟨by refine zL ?_; refine blk_far ?_ NB521_535.out _; refine zL ?_; refine blk_far ?_ NB521_535.out _; refine zL ?_; refine blk_far ?_ NB521_535.out _; refine zL ?_; refine blk_far ?_ NB521_535.out _; refine zL ?_; exact BK521.out⟩
         have n1_ : Aside0 (((((w90.setCell ⟨gb535, 0, none⟩ (.bool t530)).setCell ⟨gb535, 1, none⟩ (.int .u64 t531)).setCell ⟨gb535, 2, none⟩ (.int .u64 t532)).setCell ⟨gb535, 3, none⟩ (.int .i64 t533)).heap[gb522]? = some (.cells #[.bool a1_0, .int .u64 a1_1, .int .u64 a1_2] 36 (0, 0))) := ⟨by refine zL ?_; refine blk_far ?_ NB522_535.out _; refine zL ?_; refine blk_far ?_ NB522_535.out _; refine zL ?_; refine blk_far ?_ NB522_535.out _; refine zL ?_; refine blk_far ?_ NB522_535.out _; refine zL ?_; exact BK522.out⟩
         have n2_ : Aside0 (((((w90.setCell ⟨gb535, 0, none⟩ (.bool t530)).setCell ⟨gb535, 1, none⟩ (.int .u64 t531)).setCell ⟨gb535, 2, none⟩ (.int .u64 t532)).setCell ⟨gb535, 3, none⟩ (.int .i64 t533)).heap[gb523]? = some (.cells #[.bool false, .int .u64 0, .int .u64 0, .int .i64 0] 45 (0, 0))) := ⟨by refine zL ?_; refine blk_far ?_ NB523_535.out _; refine zL ?_; refine blk_far ?_ NB523_535.out _; refine zL ?_; refine blk_far ?_ NB523_535.out _; refine zL ?_; refine blk_far ?_ NB523_535.out _; refine zL ?_; exact BK523.out⟩
         have n3_ : Aside0 (((((w90.setCell ⟨gb535, 0, none⟩ (.bool t530)).setCell ⟨gb535, 1, none⟩ (.int .u64 t531)).setCell ⟨gb535, 2, none⟩ (.int .u64 t532)).setCell ⟨gb535, 3, none⟩ (.int .i64 t533)).heap[gb529]? = some (.cells #[.bool x530000_2, .int .u64 x530001_2, .int .u64 x530002_2, .int .i64 x530003_2] 45 (0, 0))) := ⟨by refine zL ?_; refine blk_far ?_ NB529_535.out _; refine zL ?_; refine blk_far ?_ NB529_535.out _; refine zL ?_; refine blk_far ?_ NB529_535.out _; refine zL ?_; refine blk_far ?_ NB529_535.out _; refine zL ?_; exact BK529.out⟩
         have n4_ : Aside0 (((((w90.setCell ⟨gb535, 0, none⟩ (.bool t530)).setCell ⟨gb535, 1, none⟩ (.int .u64 t531)).setCell ⟨gb535, 2, none⟩ (.int .u64 t532)).setCell ⟨gb535, 3, none⟩ (.int .i64 t533)).heap[gb535]? = some (.cells #[.bool t530, .int .u64 t531, .int .u64 t532, .int .i64 t533] 45 (0, 0))) := ⟨by refine zL ?_; refine blk_put (cs := #[.bool t530, .int .u64 t531, .int .u64 t532, .int .i64 0]) ?_ 3 _ rfl; refine zL ?_; refine blk_put (cs := #[.bool t530, .int .u64 t531, .int .u64 0, .int .i64 0]) ?_ 2 _ rfl; refine zL ?_; refine blk_put (cs := #[.bool t530, .int .u64 0, .int .u64 0, .int .i64 0]) ?_ 1 _ rfl; refine zL ?_; refine blk_put (cs := #[.bool false, .int .u64 0, .int .u64 0, .int .i64 0]) ?_ 0 _ rfl; refine zL ?_; exact BK535.out⟩
         have n5_ : Aside0 (Below w.heap.size w ((((w90.setCell ⟨gb535, 0, none⟩ (.bool t530)).setCell ⟨gb535, 1, none⟩ (.int .u64 t531)).setCell ⟨gb535, 2, none⟩ (.int .u64 t532)).setCell ⟨gb535, 3, none⟩ (.int .i64 t533))) := ⟨zB HB⟩
         (try clear BK521)
         (try clear BK522)
         (try clear BK523)
         (try clear BK529)
         (try clear BK535)
         (try clear HB)
         generalize ((((w90.setCell ⟨gb535, 0, none⟩ (.bool t530)).setCell ⟨gb535, 1, none⟩ (.int .u64 t531)).setCell ⟨gb535, 2, none⟩ (.int .u64 t532)).setCell ⟨gb535, 3, none⟩ (.int .i64 t533)) = w96 at n0_ n1_ n2_ n3_ n4_ n5_ ⊢
         have BK521 := n0_
         have BK522 := n1_
         have BK523 := n2_
         have BK529 := n3_
         have BK535 := n4_
         have HB := n5_
         clear n0_ n1_ n2_ n3_ n4_ n5_
         replace BK521 := Aside0.mk (blk_drew BK521.out)
         replace BK522 := Aside0.mk (blk_drew BK522.out)
         replace BK523 := Aside0.mk (blk_drew BK523.out)
         replace BK529 := Aside0.mk (blk_drew BK529.out)
         replace BK535 := Aside0.mk (blk_drew BK535.out)
         replace HB := Aside0.mk (below_drew1 HB.out)
         refine start_ (n := 16) (S := fun w' => True) (ds := []) #[false, false, false, false, false, false, false, false, false, false, false, false, false, false, false, false] (by kernel_rfl) rfl rfl trivial (fun hHeld => ?_); refine with_tabW addrset_greatest.tab8 addrset_greatest.bits8 (fun HT_ HW_ => ?_)
         generalize w96.drew = w97 at BK521 BK522 BK523 BK529 BK535 HB hHeld ⊢
         refine zp 0 28 HT_ ?_; refine zp 1 29 HT_ ?_; refine zp 2 30 HT_ ?_; refine zu 3 31 HT_ ?_; refine zu 4 32 HT_ ?_; refine zu 5 33 HT_ ?_; refine zu 6 34 HT_ ?_; refine zp 7 35 HT_ ?_; refine zp 8 36 HT_ ?_; refine zu 9 37 HT_ ?_; refine zu 10 38 HT_ ?_; refine zu 11 39 HT_ ?_; refine zu 12 40 HT_ ?_; refine zu 13 41 HT_ ?_; refine zu 14 42 HT_ ?_; refine zp 15 43 HT_ ?_; refine zd HT_ ?_
         have hnb98 := NB529_522.out
         have hnc98 := NB522_529.out
         have hnb99 := NB529_523.out
         have hnc99 := NB523_529.out
         obtain ⟨hcz100_0, hcz100_1, hcz100_2, hcz100_3⟩ := zc4 BK529
         obtain ⟨hfz100_0, hfz100_1, hfz100_2, hfz100_3⟩ := zf4 BK529
         have hnb101 := NB523_522.out
         have hnc101 := NB522_523.out
         obtain ⟨hcz102_0, hcz102_1, hcz102_2, hcz102_3⟩ := zc4 BK523
         obtain ⟨hfz102_0, hfz102_1, hfz102_2, hfz102_3⟩ := zf4 BK523
         try go_wp2
         refine bodyPost_ret (results_cell_row rfl _ _ gb523 45 #[.bool x530000_2, .int .u64 x530001_2, .int .u64 x530002_2, .int .i64 x530003_2] (0, 0) _ rfl (by refine zL ?_; refine blk_put (cs := #[.bool x530000_2, .int .u64 x530001_2, .int .u64 x530002_2, .int .i64 0]) ?_ 3 _ rfl; refine zL ?_; refine blk_put (cs := #[.bool x530000_2, .int .u64 x530001_2, .int .u64 0, .int .i64 0]) ?_ 2 _ rfl; refine zL ?_; refine blk_put (cs := #[.bool x530000_2, .int .u64 0, .int .u64 0, .int .i64 0]) ?_ 1 _ rfl; refine zL ?_; refine blk_put (cs := #[.bool false, .int .u64 0, .int .u64 0, .int .i64 0]) ?_ 0 _ rfl; refine zL ?_; exact BK523.out) Try.underlying45 rfl (by kernel_rfl)) rfl ?_
         exact ⟨by first | rfl | (simp [errW_none, errW_some] <;> rfl) | (simp [*, errW_none, errW_some] <;> rfl), by repeat (first | (with_reducible first | exact HB.out | apply below_alloc | apply pw_below_drewN | apply below_drew1 | refine below_set ?_ GE521.out | refine below_set ?_ GE522.out | refine below_set ?_ GE523.out | refine below_set ?_ GE529.out | refine below_set ?_ GE535.out) | exact HB.out)⟩
     · rw [if_neg c21] at H
       have c21b0 : decide (0 < x5_2) = false := decide_eq_false c21
       clear c21
       simp only [Option.some.injEq, Prod.mk.injEq] at H
       obtain ⟨rfl, rfl, rfl, rfl⟩ := H
       have hnb103 := NB529_521.out
       have hnc103 := NB521_529.out
       have hnb104 := NB529_522.out
       have hnc104 := NB522_529.out
       have hnb105 := NB529_523.out
       have hnc105 := NB523_529.out
       obtain ⟨hcz106_0, hcz106_1, hcz106_2, hcz106_3⟩ := zc4 BK529
       obtain ⟨hfz106_0, hfz106_1, hfz106_2, hfz106_3⟩ := zf4 BK529
       have hnb107 := NB523_521.out
       have hnc107 := NB521_523.out
       have hnb108 := NB523_522.out
       have hnc108 := NB522_523.out
       obtain ⟨hcz109_0, hcz109_1, hcz109_2, hcz109_3⟩ := zc4 BK523
       obtain ⟨hfz109_0, hfz109_1, hfz109_2, hfz109_3⟩ := zf4 BK523
       go_wp2
       refine bodyPost_ret (results_cell_row rfl _ _ gb523 45 #[.bool x530000_2, .int .u64 x530001_2, .int .u64 x530002_2, .int .i64 x530003_2] (0, 0) _ rfl (by refine zL ?_; refine blk_put (cs := #[.bool x530000_2, .int .u64 x530001_2, .int .u64 x530002_2, .int .i64 0]) ?_ 3 _ rfl; refine zL ?_; refine blk_put (cs := #[.bool x530000_2, .int .u64 x530001_2, .int .u64 0, .int .i64 0]) ?_ 2 _ rfl; refine zL ?_; refine blk_put (cs := #[.bool x530000_2, .int .u64 0, .int .u64 0, .int .i64 0]) ?_ 1 _ rfl; refine zL ?_; refine blk_put (cs := #[.bool false, .int .u64 0, .int .u64 0, .int .i64 0]) ?_ 0 _ rfl; refine zL ?_; exact BK523.out) Try.underlying45 rfl (by kernel_rfl)) rfl ?_
       exact ⟨by first | rfl | (simp [errW_none, errW_some] <;> rfl) | (simp [*, errW_none, errW_some] <;> rfl), by repeat (first | (with_reducible first | exact HB.out | apply below_alloc | apply pw_below_drewN | apply below_drew1 | refine below_set ?_ GE521.out | refine below_set ?_ GE522.out | refine below_set ?_ GE523.out | refine below_set ?_ GE529.out) | exact HB.out)⟩
end Go.Proofs.Ytcgfpffgiimgmaa.Q
end

section
set_option linter.unusedVariables false
set_option linter.unusedSimpArgs false
namespace Go.Proofs.Ytcgfpffgiimgmaa.Q
open Go.RowKit Go.Proofs.YtcgfpffgiimgmaaW.PrintWords Go.Proofs.YtcgfpffgiimgmaaW.PrintLast Go.Proofs.YtcgfpffgiimgmaaW.PrintMore
def pRow (g : Nat) (hi : S36) : Nat → List S45 → S36 → Option (Option (List S45))
  | 0, _, _ => none
  | n + 1, out, at_ => (addrset_greatest.f g at_.f0 at_.f1 at_.f2 hi.f0 hi.f1 hi.f2).bind fun p => if out.length + 1 > 256 then some none else (address_Bounds.f p.1 p.2.1 p.2.2.1 p.2.2.2).bind fun b => if (b.2.2.2.1 == hi.f0 && (b.2.2.2.2.1 == hi.f1 && (b.2.2.2.2.2 == hi.f2))) = true then some (some (out ++ [(⟨⟨p.1, p.2.1, p.2.2.1⟩, p.2.2.2⟩ : S45)])) else (address_Next.f b.2.2.2.1 b.2.2.2.2.1 b.2.2.2.2.2).bind fun x => if x.2.2.2 = true then pRow g hi n (out ++ [(⟨⟨p.1, p.2.1, p.2.2.1⟩, p.2.2.2⟩ : S45)]) ⟨x.1, x.2.1, x.2.2.1⟩ else some (some (out ++ [(⟨⟨p.1, p.2.1, p.2.2.1⟩, p.2.2.2⟩ : S45)]))
def pAll (g : Nat) : List S66 → List S45 → Option (Option (List S45))
  | [], out => some (some out)
  | r :: t, out => (pRow g r.f1 g out r.f0).bind fun o => match o with
    | none => some none
    | some out' => pAll g t out'
def addrset_Prefixes.f (k : Nat) (l0 : List S66) : Option (List S45) := (addrset_Normal.f k l0).bind fun x => (pAll k x []).bind fun o => some (o.getD [])
theorem pRow_mono (g : Nat) (hi : S36) : ∀ (n : Nat) (out : List S45) (at_ : S36), LeO (pRow g hi n out at_) (pRow (g + 1) hi (n + 1) out at_)
  | 0, out, at_ => LeO.none _
  | n + 1, out, at_ => by
    unfold pRow
    refine LeO.bind (addrset_greatest.mono _ _ _ _ _ _ _) (fun p => ?_)
    exact LeO.ite (LeO.refl _) (LeO.bind (LeO.refl _) (fun b => LeO.ite (LeO.refl _) (LeO.bind (LeO.refl _) (fun x => LeO.ite (pRow_mono g hi n _ _) (LeO.refl _)))))
theorem pAll_mono (g : Nat) : ∀ (l : List S66) (out : List S45), LeO (pAll g l out) (pAll (g + 1) l out)
  | [], out => LeO.refl _
  | r :: t, out => by
    unfold pAll
    refine LeO.bind (pRow_mono g r.f1 g out r.f0) (fun o => ?_)
    cases o with
    | none => exact LeO.refl _
    | some out' => exact pAll_mono g t out'
theorem addrset_Prefixes.mono : ∀ a0 k, LeO (addrset_Prefixes.f k a0) (addrset_Prefixes.f (k + 1) a0) := by
  intro a0 k
  unfold addrset_Prefixes.f
  exact LeO.bind (addrset_Normal.mono _ _) (fun x => LeO.bind (pAll_mono k x []) (fun o => LeO.refl _))
structure PreAt (W1 wr : World) (v : Value) (xs : List S45) : Prop where
  row : Kd.R k45 45 wr W1.heap.size (fun _ => True) v xs
  bel : Below W1.heap.size W1 wr
  len : xs.length ≤ 256
theorem PreAt.below {W1 wr W : World} {v : Value} {xs : List S45} (h : PreAt W1 wr v xs) (hb : Below wr.heap.size wr W) : PreAt W1 W v xs := ⟨Kd.R_below h.row hb, h.bel.trans (hb.mono h.bel.size), h.len⟩
theorem PreAt.put {W1 wr : World} {v : Value} {xs : List S45} (h : PreAt W1 wr v xs) {g t : Nat} {cs : Array Value} (hb : wr.heap[g]? = some (.cells cs t (0, 0))) (hne : ∀ q, q ∈ 45 :: k45.E → q ≠ t) (hg : W1.heap.size ≤ g) (i : Nat) (u : Value) : PreAt W1 (wr.setCell ⟨g, i, none⟩ u) v xs :=
  ⟨Kd.R_set h.row hb hne i u, h.bel.setCell hg _, h.len⟩
set_option maxHeartbeats 8000000 in
set_option maxRecDepth 100000 in
theorem addrset_Prefixes.calls (k : Nat) (A0 : Option Addr) (c0 : Nat) (l0 : List S66) (r : List S45) (w : World) (hr0 : Kd.C k66 w A0 l0.length l0) (hc0 : l0.length ≤ c0) (h : addrset_Prefixes.f k l0 = some r) :
    Calls Try.prog 46 #[.slice A0 l0.length c0] w fun e w' => ∃ v0_ : Value, e = .returned (v0_) ∧ Kd.R k45 45 w' w.heap.size (fun _ => True) v0_ r ∧ Below w.heap.size w w' := by
  unfold addrset_Prefixes.f at h
  obtain ⟨x, hx, h⟩ := Option.bind_eq_some_iff.1 h
  obtain ⟨o, ho, h⟩ := Option.bind_eq_some_iff.1 h
  injection h with h
  have HX := Aside0.mk hx
  have HP := Aside0.mk ho
  have HF := Aside0.mk h
  have HR0 := Aside0.mk hr0
  have HC0 := Aside0.mk hc0
  have hu45 := Try.underlying45
  have hu66 := Try.underlying66
  have hu36 := Try.underlying36
  have hfd : ∀ (a b c d e f : Value) (w' : World), (Instr.field 66 (.agg #[a, b, c, d, e, f]) 1).run Try.prog w' = .ok (.agg #[d, e, f]) w' := fun _ _ _ _ _ _ _ => by kernel_rfl
  clear hx ho h hr0 hc0
  go_enter Try.func46, Try.ntmps46
  go_wp2_with fail
  refine (addrset_Normal.calls k A0 c0 l0 x _ HR0.out HC0.out HX.out).mono ?_
  rintro e W1 ⟨vX, rfl, hoX, hbX⟩
  obtain ⟨AX, cX, rfl⟩ := Kd.R_slice hoX
  have HOX := Aside0.mk hoX
  have HBX := Aside0.mk hbX
  have HMX : Aside0 (x.length ≤ 9223372036854775807) := ⟨(Kd.R_reads' hoX).2.2.2.1⟩
  have hmx := HMX.out
  have H00 : Aside0 (PreAt W1 W1 (.slice none 0 0) []) := ⟨⟨Kd.R_nil _ _ _ _ _, Below.refl _ _, by simp⟩⟩
  clear hoX hbX
  go_wp2_with fail
  go_loopg [3, 13] x.length (fun gg v3 v13 wr => ∃ (kk : Nat) (out : List S45), kk ≤ x.length ∧ x.length - kk ≤ gg ∧ v13 = .int .i64 kk ∧ Aside0 (PreAt W1 wr v3 out) ∧ Aside0 (pAll k (x.drop kk) out = some o))
  case atStart => exact ⟨0, [], Nat.zero_le _, by omega, rfl, H00, HP⟩
  case round =>
    obtain ⟨kk, out, hkk, hg, rfl, HV, HA⟩ := hrel
    clear H00 HP
    by_cases hlt : kk < x.length
    · have hltz : (kk : Int) < (x.length : Int) := by omega
      obtain ⟨ad, e, hx0, hx1, hx2, hx3, hx4, hx5⟩ := at_T66 (Kd.C_below (Kd.R_reads' HOX.out).2.2 HV.out.bel) kk (by omega) hltz
      cases e
      have hrd : rd_T66 x (kk : Int) = x[kk] := by simp [rd_T66, List.getD_eq_getElem?_getD, List.getElem?_eq_getElem hlt]
      rw [hrd] at hx0 hx1 hx2 hx3 hx4 hx5
      simp only [Int.toNat_natCast] at hx0 hx1 hx2 hx3 hx4 hx5
      have hall := HA.out
      rw [List.drop_eq_getElem_cons hlt] at hall
      clear hrd HA
      generalize x[kk] = rr at hx0 hx1 hx2 hx3 hx4 hx5 hall
      unfold pAll at hall
      obtain ⟨o1, h1, hall⟩ := Option.bind_eq_some_iff.1 hall
      have HO1 := Aside0.mk h1
      have HAL := Aside0.mk hall
      clear h1 hall
      go_wp2_with fail
      obtain ⟨g5, hg5⟩ : ∃ g, wr.heap.size = g := ⟨_, rfl⟩
      have HX5 : Aside0 (((wr.alloc (.cells #[.bool rr.f0.f0, .int .u64 rr.f0.f1, .int .u64 rr.f0.f2, .bool rr.f1.f0, .int .u64 rr.f1.f1, .int .u64 rr.f1.f2] 66)).alloc (.cells #[.bool rr.f0.f0, .int .u64 rr.f0.f1, .int .u64 rr.f0.f2] 36)).heap[g5]? = some (.cells #[.bool rr.f0.f0, .int .u64 rr.f0.f1, .int .u64 rr.f0.f2, .bool rr.f1.f0, .int .u64 rr.f1.f1, .int .u64 rr.f1.f2] 66 (0, 0))) := ⟨by rw [← hg5]; exact blk_alloc (heap_alloc_new _ _) _⟩
      have HX6 : Aside0 (((wr.alloc (.cells #[.bool rr.f0.f0, .int .u64 rr.f0.f1, .int .u64 rr.f0.f2, .bool rr.f1.f0, .int .u64 rr.f1.f1, .int .u64 rr.f1.f2] 66)).alloc (.cells #[.bool rr.f0.f0, .int .u64 rr.f0.f1, .int .u64 rr.f0.f2] 36)).heap[g5 + 1]? = some (.cells #[.bool rr.f0.f0, .int .u64 rr.f0.f1, .int .u64 rr.f0.f2] 36 (0, 0))) := ⟨by rw [← hg5, show wr.heap.size + 1 = (wr.alloc (.cells #[.bool rr.f0.f0, .int .u64 rr.f0.f1, .int .u64 rr.f0.f2, .bool rr.f1.f0, .int .u64 rr.f1.f1, .int .u64 rr.f1.f2] 66)).heap.size from by simp]; exact heap_alloc_new _ _⟩
      have HVI := Aside0.mk (HV.out.below (((Below.refl _ _).alloc (Nat.le_refl _) (.cells #[.bool rr.f0.f0, .int .u64 rr.f0.f1, .int .u64 rr.f0.f2, .bool rr.f1.f0, .int .u64 rr.f1.f1, .int .u64 rr.f1.f2] 66)).alloc (by simp) (.cells #[.bool rr.f0.f0, .int .u64 rr.f0.f1, .int .u64 rr.f0.f2] 36)))
      have HG5 : Aside0 (W1.heap.size ≤ g5) := ⟨by rw [← hg5]; exact HV.out.bel.size⟩
      clear hx0 hx1 hx2 hx3 hx4 hx5 HV
      simp only [hg5]
      generalize (wr.alloc (.cells #[.bool rr.f0.f0, .int .u64 rr.f0.f1, .int .u64 rr.f0.f2, .bool rr.f1.f0, .int .u64 rr.f1.f1, .int .u64 rr.f1.f2] 66)).alloc (.cells #[.bool rr.f0.f0, .int .u64 rr.f0.f1, .int .u64 rr.f0.f2] 36) = wo at HX5 HX6 HVI ⊢
      clear hg5
      go_loopg [3, 6, 7] k (fun gg v3 v6 v7 wi => ∃ (n g6 : Nat) (more : Bool) (out : List S45) (aa : S36), n ≤ gg ∧ v6 = .pointer (some ⟨g6, 0, none⟩) ∧ v7 = .bool more ∧ Aside0 ((if more = true then pRow k rr.f1 n out aa else some (some out)) = some o1) ∧ Aside0 (PreAt W1 wi v3 out) ∧ Aside0 (wi.heap[g5]? = some (.cells #[.bool rr.f0.f0, .int .u64 rr.f0.f1, .int .u64 rr.f0.f2, .bool rr.f1.f0, .int .u64 rr.f1.f1, .int .u64 rr.f1.f2] 66 (0, 0))) ∧ Aside0 (wi.heap[g6]? = some (.cells #[.bool aa.f0, .int .u64 aa.f1, .int .u64 aa.f2] 36 (0, 0))) ∧ Aside0 (W1.heap.size ≤ g6))
      case atStart => exact ⟨k, g5 + 1, true, out, rr.f0, Nat.le_refl _, rfl, rfl, HO1, HVI, HX5, HX6, ⟨by have := HG5.out; omega⟩⟩
      case round =>
        obtain ⟨n, g6, more, out2, aa, hng, rfl, rfl, HQ, HV, HX5, HX6, HG6⟩ := hrel
        clear HO1 HVI
        cases more with
        | false =>
          have ho1 := HQ.out
          rw [if_neg (by decide)] at ho1
          injection ho1 with ho1
          subst ho1
          clear HQ
          go_wp2_with fail
          go_roundg (x.length - (kk + 1))
          case measure => omega
          case rel => exact ⟨kk + 1, out2, by omega, by omega, by go_num, HV, HAL⟩
        | true =>
          have hq := HQ.out
          rw [if_pos rfl] at hq
          cases n with
          | zero => simp [pRow] at hq
          | succ n =>
            unfold pRow at hq
            obtain ⟨⟨p0, p1, p2, p3⟩, hp, hq⟩ := Option.bind_eq_some_iff.1 hq
            dsimp only at hq
            have HPG := Aside0.mk hp
            have HQ2 := Aside0.mk hq
            obtain ⟨hc0, hc1, hc2⟩ := zc3 HX6
            have hd3 := zc HX5 3
            have hd4 := zc HX5 4
            have hd5 := zc HX5 5
            clear hp hq HQ
            go_wp2_with fail
            refine (addrset_greatest.calls k aa.f0 aa.f1 aa.f2 rr.f1.f0 rr.f1.f1 rr.f1.f2 p0 p1 p2 p3 _ HPG.out).mono ?_
            rintro e w4 ⟨rfl, hb⟩
            have HX5b := Aside0.mk (blk_below HX5.out hb)
            have HX6b := Aside0.mk (blk_below HX6.out hb)
            have HVb := Aside0.mk (HV.out.below hb)
            clear hb hc0 hc1 hc2 hd3 hd4 hd5
            obtain ⟨A3, c3, he3⟩ := Kd.R_slice HVb.out.row
            subst he3
            have HLN := Aside0.mk HVb.out.len
            have HX8 : Aside0 ((w4.alloc (.cells #[.bool p0, .int .u64 p1, .int .u64 p2, .int .i64 p3] 45)).heap[w4.heap.size]? = some (.cells #[.bool p0, .int .u64 p1, .int .u64 p2, .int .i64 p3] 45 (0, 0))) := ⟨heap_alloc_new _ _⟩
            have HVc := Aside0.mk (HVb.out.below ((Below.refl _ _).alloc (Nat.le_refl _) (.cells #[.bool p0, .int .u64 p1, .int .u64 p2, .int .i64 p3] 45)))
            have HX5c := Aside0.mk (blk_alloc HX5b.out (.cells #[.bool p0, .int .u64 p1, .int .u64 p2, .int .i64 p3] 45))
            have HX6c := Aside0.mk (blk_alloc HX6b.out (.cells #[.bool p0, .int .u64 p1, .int .u64 p2, .int .i64 p3] 45))
            have HN8 : Aside0 (some w4.heap.size ≠ (Value.slice A3 out2.length c3).ownBlock) := ⟨fun e => Nat.lt_irrefl _ (Kd.R_lt HVb.out.row _ e.symm)⟩
            clear HX5b HX6b HVb HX5 HX6 HV
            go_upto_region 8 with (fail)
            obtain ⟨g8, hg8⟩ : ∃ g, w4.heap.size = g := ⟨_, rfl⟩
            rw [hg8] at HX8 HN8
            simp only [hg8]
            generalize w4.alloc (.cells #[.bool p0, .int .u64 p1, .int .u64 p2, .int .i64 p3] 45) = w4b at HX8 HVc HX5c HX6c ⊢
            clear hg8
            obtain ⟨hs0, hs1, hs2, hs3⟩ := zc4 HX8
            have hq3 := HQ2.out
            clear HQ2
            by_cases hbig : out2.length + 1 > 256
            · rw [if_pos hbig] at hq3
              injection hq3 with hq3
              subst hq3
              have hal := HAL.out
              injection hal with hal
              subst hal
              have HFI := HF
              have HBIG := Aside0.mk hbig
              clear HAL HF hbig
              go_wp2_with (at_builtin; refine Kd.R_append k45 (w0 := W1) W1.heap.size rfl (.tmp 24) (.tmp 26) 42 45 (.agg #[.bool false, .int .u64 0, .int .u64 0, .int .i64 0]) 32 rfl Try.underlying42 info45 rfl (by decide) (by decide) (.slice A3 out2.length c3) out2 ⟨⟨p0, p1, p2⟩, p3⟩ [.bool p0, .int .u64 p1, .int .u64 p2, .int .i64 p3] (fun _ => True) (fun _ => False) rfl rfl (k45_mkM _ _ _ _) (fun _ h => h.elim) (fun _ _ => trivial) HVc.out.row HVc.out.bel HVc.out.bel.size (by have := HLN.out; omega) ?_; intro v1 w5 ho hb2 hg hat; obtain ⟨A4, n4, c4, hv4⟩ : ∃ A n c, v1 = .slice A n c := (by obtain ⟨A, c, h⟩ := Kd.R_slice ho; exact ⟨A, _, c, h⟩); subst hv4; have HN4 : Aside0 (n4 = out2.length + 1) := ⟨(by have h9 := (Kd.R_reads' ho).1; simpa using h9)⟩; have HO := Aside0.mk ho; have HB2 := Aside0.mk hb2; have HX5 := Aside0.mk (blk_grown HX5c.out hg (Kd.R_ne HVc.out.row HX5c.out (by decide))); have HX6 := Aside0.mk (blk_grown HX6c.out hg (Kd.R_ne HVc.out.row HX6c.out (by decide))); have HX8b := Aside0.mk (blk_grown HX8.out hg HN8.out); clear ho hb2 hg hat HX5c HX6c HX8 HVc HN8 hs0 hs1 hs2 hs3; have hn4 : (256 : Int) < (n4 : Int) := (by have h7 := HN4.out; have h8 := HBIG.out; omega))
              go_ret
              refine ⟨_, rfl, ?_, HBX.out.trans (HB2.out.mono HBX.out.size)⟩
              rw [← HFI.out]
              exact Kd.R_nil _ _ _ _ _
            · rw [if_neg hbig] at hq3
              obtain ⟨⟨b0, b1, b2, b3, b4, b5⟩, hbd, hq3⟩ := Option.bind_eq_some_iff.1 hq3
              dsimp only at hq3
              have HBD := Aside0.mk hbd
              have HQ3 := Aside0.mk hq3
              have HLB : Aside0 (out2.length + 1 ≤ 256) := ⟨by omega⟩
              clear hbd hq3 hbig
              go_wp2_with (at_builtin; refine Kd.R_append k45 (w0 := W1) W1.heap.size rfl (.tmp 24) (.tmp 26) 42 45 (.agg #[.bool false, .int .u64 0, .int .u64 0, .int .i64 0]) 32 rfl Try.underlying42 info45 rfl (by decide) (by decide) (.slice A3 out2.length c3) out2 ⟨⟨p0, p1, p2⟩, p3⟩ [.bool p0, .int .u64 p1, .int .u64 p2, .int .i64 p3] (fun _ => True) (fun _ => False) rfl rfl (k45_mkM _ _ _ _) (fun _ h => h.elim) (fun _ _ => trivial) HVc.out.row HVc.out.bel HVc.out.bel.size (by have := HLN.out; omega) ?_; intro v1 w5 ho hb2 hg hat; obtain ⟨A4, n4, c4, hv4⟩ : ∃ A n c, v1 = .slice A n c := (by obtain ⟨A, c, h⟩ := Kd.R_slice ho; exact ⟨A, _, c, h⟩); subst hv4; have HN4 : Aside0 (n4 = out2.length + 1) := ⟨(by have h9 := (Kd.R_reads' ho).1; simpa using h9)⟩; have HO := Aside0.mk ho; have HB2 := Aside0.mk hb2; have HX5 := Aside0.mk (blk_grown HX5c.out hg (Kd.R_ne HVc.out.row HX5c.out (by decide))); have HX6 := Aside0.mk (blk_grown HX6c.out hg (Kd.R_ne HVc.out.row HX6c.out (by decide))); have HX8b := Aside0.mk (blk_grown HX8.out hg HN8.out); clear ho hb2 hg hat HX5c HX6c HX8 HVc HN8 hs0 hs1 hs2 hs3; have hn4 : ¬ (256 : Int) < (n4 : Int) := (by have h7 := HN4.out; have h8 := HLB.out; omega); obtain ⟨he0, he1, he2, he3⟩ := zc4 HX8b)
              have HV5 : Aside0 (PreAt W1 w5 (.slice A4 n4 c4) (out2 ++ [(⟨⟨p0, p1, p2⟩, p3⟩ : S45)])) := ⟨⟨HO.out, HB2.out, by simpa using HLB.out⟩⟩
              clear HO HB2
              refine (address_Bounds.calls p0 p1 p2 p3 b0 b1 b2 b3 b4 b5 _ HBD.out).mono ?_
              rintro e w6 ⟨rfl, hb⟩
              replace HX5 := Aside0.mk (blk_below HX5.out hb)
              replace HX6 := Aside0.mk (blk_below HX6.out hb)
              replace HV5 := Aside0.mk (HV5.out.below hb)
              clear hb he0 he1 he2 he3 HX8b
              have hd3 := zc HX5 3
              have hd4 := zc HX5 4
              have hd5 := zc HX5 5
              have hl5 := lt_of_block HX5.out
              have hq4 := HQ3.out
              clear HQ3
              by_cases hcmp : (b3 == rr.f1.f0 && (b4 == rr.f1.f1 && (b5 == rr.f1.f2))) = true
              · rw [if_pos hcmp] at hq4
                injection hq4 with hq4
                subst hq4
                simp only [Bool.and_eq_true, beq_iff_eq] at hcmp
                obtain ⟨rfl, rfl, rfl⟩ := hcmp
                go_wp2_with fail
                go_roundg (x.length - (kk + 1))
                case measure => omega
                case rel => exact ⟨kk + 1, _, by omega, by omega, by go_num, ⟨HV5.out.below ((Below.refl _ _).alloc (Nat.le_refl _) _)⟩, HAL⟩
              · rw [if_neg hcmp] at hq4
                obtain ⟨⟨y0, y1, y2, y3⟩, hnx, hq4⟩ := Option.bind_eq_some_iff.1 hq4
                dsimp only at hq4
                have HNX := Aside0.mk hnx
                have HQ4 := Aside0.mk hq4
                have hcs : ((b3 == rr.f1.f0) = false ∧ decide (b3 = rr.f1.f0) = false) ∨ ((b3 == rr.f1.f0) = true ∧ decide (b3 = rr.f1.f0) = true ∧ (b4 == rr.f1.f1) = false ∧ decide (b4 = rr.f1.f1) = false) ∨ ((b3 == rr.f1.f0) = true ∧ decide (b3 = rr.f1.f0) = true ∧ (b4 == rr.f1.f1) = true ∧ decide (b4 = rr.f1.f1) = true ∧ (b5 == rr.f1.f2) = false ∧ decide (b5 = rr.f1.f2) = false) := by
                  by_cases e3 : b3 = rr.f1.f0
                  · by_cases e4 : b4 = rr.f1.f1
                    · by_cases e5 : b5 = rr.f1.f2
                      · exact absurd (by rw [e3, e4, e5]; simp) hcmp
                      · exact .inr (.inr ⟨beq_iff_eq.2 e3, decide_eq_true e3, beq_iff_eq.2 e4, decide_eq_true e4, beq_eq_false_iff_ne.2 e5, decide_eq_false e5⟩)
                    · exact .inr (.inl ⟨beq_iff_eq.2 e3, decide_eq_true e3, beq_eq_false_iff_ne.2 e4, decide_eq_false e4⟩)
                  · exact .inl ⟨beq_eq_false_iff_ne.2 e3, decide_eq_false e3⟩
                clear hnx hq4 hcmp
                rcases hcs with ⟨i1, i2⟩ | ⟨i1, i2, i3, i4⟩ | ⟨i1, i2, i3, i4, i5, i6⟩ <;>
                · go_wp2_with fail
                  refine (address_Next.calls b3 b4 b5 y0 y1 y2 y3 _ HNX.out).mono ?_
                  rintro e w8 ⟨rfl, hb⟩
                  have HX5d := Aside0.mk (blk_below (blk_alloc HX5.out _) hb)
                  have HX6d := Aside0.mk (blk_below (blk_alloc HX6.out _) hb)
                  have HV6 := Aside0.mk ((HV5.out.below ((Below.refl _ _).alloc (Nat.le_refl _) _)).below hb)
                  clear hb hd3 hd4 hd5 hl5 HX5 HX6 HV5
                  obtain ⟨hc0, hc1, hc2⟩ := zc3 HX6d
                  obtain ⟨hf0, hf1, hf2⟩ := zf3 HX6d
                  have hl6 := lt_of_block HX6d.out
                  have HNE := Aside0.mk (blk_ne HX5d.out HX6d.out (by decide))
                  have HZ6 : Aside0 (W1.heap.size ≤ w8.heap.size) := ⟨HV6.out.bel.size⟩
                  go_wp2_with fail
                  go_roundg n
                  case measure => omega
                  case rel =>
                    have q1 := HV6.out.put HX6d.out (by decide) HG6.out 0 (.bool y0)
                    have b1 := blk_put HX6d.out 0 (.bool y0) rfl
                    have q2 := q1.put b1 (by decide) HG6.out 1 (.int .u64 y1)
                    have b2 := blk_put b1 1 (.int .u64 y1) rfl
                    have q3 := q2.put b2 (by decide) HG6.out 2 (.int .u64 y2)
                    have f3 := blk_far (blk_far (blk_far HX5d.out (p := ⟨g6, 0, none⟩) HNE.out (.bool y0)) (p := ⟨g6, 1, none⟩) HNE.out (.int .u64 y1)) (p := ⟨g6, 2, none⟩) HNE.out (.int .u64 y2)
                    exact ⟨n, w8.heap.size, y3, _, ⟨y0, y1, y2⟩, Nat.le_refl _, rfl, rfl, HQ4, ⟨q3.below ((Below.refl _ _).alloc (Nat.le_refl _) _)⟩, ⟨blk_alloc f3 _⟩, ⟨by have h9 := heap_alloc_new (((w8.setCell ⟨g6, 0, none⟩ (.bool y0)).setCell ⟨g6, 1, none⟩ (.int .u64 y1)).setCell ⟨g6, 2, none⟩ (.int .u64 y2)) (.cells #[.bool y0, .int .u64 y1, .int .u64 y2] 36); simpa using h9⟩, HZ6⟩
    · have hltz : ¬ (kk : Int) < (x.length : Int) := by omega
      have hall := HA.out
      rw [List.drop_eq_nil_of_le (by omega)] at hall
      unfold pAll at hall
      injection hall with hall
      subst hall
      have hfin := HF.out
      clear HA
      go_wp2_with fail
      go_ret
      refine ⟨_, rfl, ?_, HBX.out.trans (HV.out.bel.mono HBX.out.size)⟩
      rw [← hfin]
      exact Kd.R_lower HV.out.row HBX.out.size
end Go.Proofs.Ytcgfpffgiimgmaa.Q
end

section
namespace Go.Proofs.Ytcgfpffgiimgmaa.Q
open Go.RowKit Go.Proofs.YtcgfpffgiimgmaaW.PrintWords Go.Proofs.YtcgfpffgiimgmaaW.PrintLast Go.Proofs.YtcgfpffgiimgmaaW.PrintMore
attribute [local go_sem] max2_int min2_int max_two min_two max_three min_three max_four min_four
set_option linter.unusedVariables false
set_option linter.unusedSimpArgs false
attribute [local go_sem high] eqA45
def intrusionlaw07_awake.f (k : Nat)  : Option (Bool) := (intrusionlaw07_ip.f 2).bind fun bt544 => ((intrusionlaw07_ip.f 3).bind fun bt547 => ((intrusionlaw07_ip.f 1).bind fun bt550 => ((intrusionlaw07_ip.f 1).bind fun bt553 => ((some (([(⟨(⟨bt544.1, bt544.2.1, bt544.2.2⟩ : S36), (⟨bt547.1, bt547.2.1, bt547.2.2⟩ : S36)⟩ : S66), (⟨(⟨bt550.1, bt550.2.1, bt550.2.2⟩ : S36), (⟨bt553.1, bt553.2.1, bt553.2.2⟩ : S36)⟩ : S66)] : List (S66)) : List (S66))).bind fun y556 => ((intrusionlaw07_ip.f 1).bind fun bt559 => ((intrusionlaw07_ip.f 4).bind fun bt562 => ((addrset_Prefixes.f k (([(⟨(⟨bt559.1, bt559.2.1, bt559.2.2⟩ : S36), (⟨bt562.1, bt562.2.1, bt562.2.2⟩ : S36)⟩ : S66)] : List (S66)))).bind fun t568 => ((addrset_Normal.f k y556).bind fun t571 => ((intrusionlaw07_ip.f 1).bind fun bt574 => ((intrusionlaw07_ip.f 3).bind fun bt577 => ((intrusionref07_Same.f k t571 (([(⟨(⟨bt574.1, bt574.2.1, bt574.2.2⟩ : S36), (⟨bt577.1, bt577.2.1, bt577.2.2⟩ : S36)⟩ : S66)] : List (S66)))).bind fun t583 => (if t583 = true then ((addrset_Valid.f k y556).bind fun t584 => (if t584 = true then (some false) else (if (t568.length : Int) = 3 then (if 0 < (t568.length : Int) then ((intrusionlaw07_ip.f 1).bind fun bt586 => (if ((((rd_T45 t568 0).f0.f0) == bt586.1 && (((rd_T45 t568 0).f0.f1) == bt586.2.1 && (((rd_T45 t568 0).f0.f2) == bt586.2.2))) && (((rd_T45 t568 0).f1) == 32)) = true then (if 1 < (t568.length : Int) then ((intrusionlaw07_ip.f 2).bind fun bt590 => (if ((((rd_T45 t568 1).f0.f0) == bt590.1 && (((rd_T45 t568 1).f0.f1) == bt590.2.1 && (((rd_T45 t568 1).f0.f2) == bt590.2.2))) && (((rd_T45 t568 1).f1) == 31)) = true then ((addrset_All.f).bind fun t593 => (some ((t593.length : Int) == 2))) else (some false))) else (none)) else (some false))) else (none)) else (some false)))) else (some false)))))))))))))
theorem intrusionlaw07_awake.mono : ∀ k, LeO (intrusionlaw07_awake.f k ) (intrusionlaw07_awake.f (k + 1) ) := by
  intro  k
  unfold intrusionlaw07_awake.f
  repeat' first
      | (with_reducible exact addrset_Normal.mono _ _)
      | (with_reducible exact addrset_Prefixes.mono _ _)
      | (with_reducible exact addrset_Valid.mono _ _)
      | (with_reducible exact intrusionref07_Same.mono _ _ _)
      | (with_reducible exact LeO.refl _)
      | (with_reducible exact LeO.none _)
      | (with_reducible refine LeO.ite ?_ ?_)
      | (with_reducible refine LeO.bind ?_ (fun _ => ?_))
      | exact addrset_Normal.mono _ _
      | exact addrset_Prefixes.mono _ _
      | exact addrset_Valid.mono _ _
      | exact intrusionref07_Same.mono _ _ _
      | exact LeO.none _
      | refine LeO.ite ?_ ?_
      | refine LeO.bind ?_ (fun _ => ?_)
def intrusionlaw07_awake.T3 : Bool × List (List Nat × List Nat) := (true, [([], []), ([0], [0]), ([1], []), ([2], []), ([2, 3], [2, 3]), ([4], [4]), ([1, 5, 3], [1, 5]), ([6, 6], [6]), ([7], [7]), ([8, 7, 7], [7, 8]), ([9, 7], [7, 9]), ([7, 10], [7, 10]), ([11, 9], [11]), ([12], [12]), ([13, 12], [12, 13]), ([14, 12], [12, 14]), ([12, 15], [12, 15]), ([16, 12], [16]), ([17], [17]), ([18, 17], [17, 18]), ([19, 17], [17, 19]), ([17, 17], [17]), ([21, 17], [17, 21]), ([20, 22, 17], [17, 20, 22]), ([17, 23], [17, 23]), ([24, 21], [24]), ([25], [25]), ([26, 25], [25, 26]), ([27, 25], [25, 27]), ([25, 25], [25]), ([29, 25], [25, 29]), ([28, 30, 25], [25, 28, 30]), ([25, 31], [25, 31]), ([32, 29], [32]), ([33, 33], [33]), ([34, 33], [33, 34]), ([35, 33], [33, 35]), ([33, 36], [33, 36]), ([37, 34, 0, 1, 2, 3, 4, 5, 6, 7, 8, 9, 10, 11, 12, 13, 14, 15, 16, 17, 18, 19, 20, 21, 22, 23, 24, 25, 26, 27, 28, 29, 30, 31, 32, 33, 34, 35, 36, 37], [37])])
def intrusionlaw07_awake.B3 : List Nat := [0, 1, 3, 7, 15, 31, 63, 127, 255, 511, 1023, 2047, 4095, 8191, 16383, 32767, 65535, 131071, 262143, 524287, 1048575, 262143, 2359295, 8388607, 16777215, 33554431, 67108863, 134217727, 268435455, 67108863, 603979775, 2147483647, 4294967295, 8589934591, 17179869183, 34359738367, 68719476735, 137438953471, 274877906943]
theorem intrusionlaw07_awake.tab3 : rtab .any (opsOf Try.f36 3) = intrusionlaw07_awake.T3 := by kernel_rfl
theorem intrusionlaw07_awake.bits3 : waitsOk intrusionlaw07_awake.T3.2 intrusionlaw07_awake.B3 = true := by kernel_rfl
set_option maxHeartbeats 8000000 in
set_option maxRecDepth 100000 in
theorem intrusionlaw07_awake.calls (k : Nat)  (r : Bool) (w : World) (h : intrusionlaw07_awake.f k  = some r) :
 Calls Try.prog 36 #[] w fun e w' => e = .returned (.bool r) ∧ Below w.heap.size w w' := by
 have hu66 := Try.underlying66
 have hu45 := Try.underlying45
 have HB := Aside0.mk (Below.refl w.heap.size w)
 unfold intrusionlaw07_awake.f at h; have H := h
 clear h
 replace H := Option.bind_eq_some_iff.mp H
 obtain ⟨⟨t544, t545, t546⟩, A10, H⟩ := H
 try dsimp only at H
 have A1 := Aside0.mk A10
 clear A10
 replace H := Option.bind_eq_some_iff.mp H
 obtain ⟨⟨t547, t548, t549⟩, A20, H⟩ := H
 try dsimp only at H
 have A2 := Aside0.mk A20
 clear A20
 replace H := Option.bind_eq_some_iff.mp H
 obtain ⟨⟨t550, t551, t552⟩, A30, H⟩ := H
 try dsimp only at H
 have A3 := Aside0.mk A30
 clear A30
 replace H := Option.bind_eq_some_iff.mp H
 obtain ⟨⟨t553, t554, t555⟩, A40, H⟩ := H
 try dsimp only at H
 have A4 := Aside0.mk A40
 clear A40
 obtain ⟨y556, hy556⟩ : ∃ y_ : List (S66), y_ = (([(⟨(⟨t544, t545, t546⟩ : S36), (⟨t547, t548, t549⟩ : S36)⟩ : S66), (⟨(⟨t550, t551, t552⟩ : S36), (⟨t553, t554, t555⟩ : S36)⟩ : S66)] : List (S66))) := ⟨_, rfl⟩
 rw [← hy556] at H; try dsimp only [Option.bind_some] at H
 have Ny556 := Aside0.mk hy556
 clear hy556
 replace H := Option.bind_eq_some_iff.mp H
 obtain ⟨⟨t559, t560, t561⟩, A50, H⟩ := H
 try dsimp only at H
 have A5 := Aside0.mk A50
 clear A50
 replace H := Option.bind_eq_some_iff.mp H
 obtain ⟨⟨t562, t563, t564⟩, A60, H⟩ := H
 try dsimp only at H
 have A6 := Aside0.mk A60
 clear A60
 obtain ⟨y565, hy565⟩ : ∃ y_ : List (S66), y_ = (([(⟨(⟨t559, t560, t561⟩ : S36), (⟨t562, t563, t564⟩ : S36)⟩ : S66)] : List (S66))) := ⟨_, rfl⟩
 rw [← hy565] at H; try dsimp only [Option.bind_some] at H
 have Ny565 := Aside0.mk hy565
 clear hy565
 replace H := Option.bind_eq_some_iff.mp H
 obtain ⟨t568, A70, H⟩ := H
 try dsimp only at H
 have A7 := Aside0.mk A70
 clear A70
 replace H := Option.bind_eq_some_iff.mp H
 obtain ⟨t571, A80, H⟩ := H
 try dsimp only at H
 have A8 := Aside0.mk A80
 clear A80
 replace H := Option.bind_eq_some_iff.mp H
 obtain ⟨⟨t574, t575, t576⟩, A90, H⟩ := H
 try dsimp only at H
 have A9 := Aside0.mk A90
 clear A90
 replace H := Option.bind_eq_some_iff.mp H
 obtain ⟨⟨t577, t578, t579⟩, A100, H⟩ := H
 try dsimp only at H
 have A10 := Aside0.mk A100
 clear A100
 obtain ⟨y580, hy580⟩ : ∃ y_ : List (S66), y_ = (([(⟨(⟨t574, t575, t576⟩ : S36), (⟨t577, t578, t579⟩ : S36)⟩ : S66)] : List (S66))) := ⟨_, rfl⟩
 rw [← hy580] at H; try dsimp only [Option.bind_some] at H
 have Ny580 := Aside0.mk hy580
 clear hy580
 replace H := Option.bind_eq_some_iff.mp H
 obtain ⟨t583, A110, H⟩ := H
 try dsimp only at H
 have A11 := Aside0.mk A110
 clear A110
 by_cases c12 : t583 = true
 · subst c12
   rw [if_pos rfl] at H
   replace H := Option.bind_eq_some_iff.mp H
   obtain ⟨t584, A130, H⟩ := H
   try dsimp only at H
   have A13 := Aside0.mk A130
   clear A130
   by_cases c14 : t584 = true
   · subst c14
     rw [if_pos rfl] at H
     obtain rfl := Option.some.inj H
     go_enter Try.func36, Try.ntmps36
     try go_wp2_with (first | ((with_reducible refine gate_callee (f := 70) rfl ?_); refine goesL_ (some 3) rfl rfl Try.func70 (by kernel_rfl) rfl #[.int .u64 2] rfl (by (try simp only [List.map_toArray, List.map_cons, List.map_nil]); first | done | rfl | (simp only [List.length_drop, List.length_take]; rfl)) ?_; (with_reducible refine (intrusionlaw07_ip.calls 2 t544 t545 t546 _ A1.out).mono ?_); rintro e w15 ⟨rfl, hb⟩; refine ⟨_, rfl, ?_⟩; replace HB := Aside0.mk (below_step (zB HB) hb); (try clear hb)) | ((with_reducible refine gate_callee (f := 70) rfl ?_); refine goesL_ (some 4) rfl rfl Try.func70 (by kernel_rfl) rfl #[.int .u64 3] rfl (by (try simp only [List.map_toArray, List.map_cons, List.map_nil]); first | done | rfl | (simp only [List.length_drop, List.length_take]; rfl)) ?_; (with_reducible refine (intrusionlaw07_ip.calls 3 t547 t548 t549 _ A2.out).mono ?_); rintro e w16 ⟨rfl, hb⟩; refine ⟨_, rfl, ?_⟩; replace HB := Aside0.mk (below_step (zB HB) hb); (try clear hb)) | ((with_reducible refine gate_callee (f := 70) rfl ?_); refine goesL_ (some 6) rfl rfl Try.func70 (by kernel_rfl) rfl #[.int .u64 1] rfl (by (try simp only [List.map_toArray, List.map_cons, List.map_nil]); first | done | rfl | (simp only [List.length_drop, List.length_take]; rfl)) ?_; (with_reducible refine (intrusionlaw07_ip.calls 1 t550 t551 t552 _ A3.out).mono ?_); rintro e w17 ⟨rfl, hb⟩; refine ⟨_, rfl, ?_⟩; replace HB := Aside0.mk (below_step (zB HB) hb); (try clear hb)) | ((with_reducible refine gate_callee (f := 70) rfl ?_); refine goesL_ (some 7) rfl rfl Try.func70 (by kernel_rfl) rfl #[.int .u64 1] rfl (by (try simp only [List.map_toArray, List.map_cons, List.map_nil]); first | done | rfl | (simp only [List.length_drop, List.length_take]; rfl)) ?_; (with_reducible refine (intrusionlaw07_ip.calls 1 t553 t554 t555 _ A4.out).mono ?_); rintro e w18 ⟨rfl, hb⟩; refine ⟨_, rfl, ?_⟩; replace HB := Aside0.mk (below_step (zB HB) hb); (try clear hb)) | ((with_reducible refine gate_dst (N := 9) rfl ?_); (try (refine gate_guard (by rfl) ?_; dsimp only)); refine Kd.R_lit k66 _ 66 ?hg (N := 9) ?hd (xs := ([(⟨(⟨t544, t545, t546⟩ : S36), (⟨t547, t548, t549⟩ : S36)⟩ : S66), (⟨(⟨t550, t551, t552⟩ : S36), (⟨t553, t554, t555⟩ : S36)⟩ : S66)] : List (S66))) (inner := [.bool t544, .int .u64 t545, .int .u64 t546, .bool t547, .int .u64 t548, .int .u64 t549, .bool t550, .int .u64 t551, .int .u64 t552, .bool t553, .int .u64 t554, .int .u64 t555]) (ok := fun _ => True) (okp := fun _ => True) ?hr ?hp (fun _ hk => hk) trivial (Below.refl _ _) (Nat.le_refl _) (by simp) ?_; (case hd => rfl); (case hg => rfl); (case hr => first | (go_simp; done) | (go_simp; rfl)); (case hp => exact (Reps.c6 (show Kd.M k66 _ _ _ (⟨(⟨t544, t545, t546⟩ : S36), (⟨t547, t548, t549⟩ : S36)⟩ : S66) [.bool t544, .int .u64 t545, .int .u64 t546, .bool t547, .int .u64 t548, .int .u64 t549] from (k66_mkM _ _ _ (⟨(⟨t544, t545, t546⟩ : S36), (⟨t547, t548, t549⟩ : S36)⟩ : S66) )) (Reps.c6 (show Kd.M k66 _ _ _ (⟨(⟨t550, t551, t552⟩ : S36), (⟨t553, t554, t555⟩ : S36)⟩ : S66) [.bool t550, .int .u64 t551, .int .u64 t552, .bool t553, .int .u64 t554, .int .u64 t555] from (k66_mkM _ _ _ (⟨(⟨t550, t551, t552⟩ : S36), (⟨t553, t554, t555⟩ : S36)⟩ : S66) )) (Reps.none _ _)))); intro v557 w19 ho20 hb hg_ hnew_; clear hg_ hnew_; (first | rw [← Ny556.out] at ho20 | (simp only [Int.reduceToNat] at ho20; rw [← Ny556.out] at ho20)); have HO558 := Aside0.mk (Kd.R_lower ho20 (below_size (zB HB))); replace HB := Aside0.mk (below_step (zB HB) hb); clear hb ho20) | ((with_reducible refine gate_callee (f := 70) rfl ?_); refine goesL_ (some 10) rfl rfl Try.func70 (by kernel_rfl) rfl #[.int .u64 1] rfl (by (try simp only [List.map_toArray, List.map_cons, List.map_nil]); first | done | rfl | (simp only [List.length_drop, List.length_take]; rfl)) ?_; (with_reducible refine (intrusionlaw07_ip.calls 1 t559 t560 t561 _ A5.out).mono ?_); rintro e w21 ⟨rfl, hb⟩; refine ⟨_, rfl, ?_⟩; replace HO558 := Aside0.mk (Kd.R_below (zR HO558) hb); replace HB := Aside0.mk (below_step (zB HB) hb); (try clear hb)) | ((with_reducible refine gate_callee (f := 70) rfl ?_); refine goesL_ (some 11) rfl rfl Try.func70 (by kernel_rfl) rfl #[.int .u64 4] rfl (by (try simp only [List.map_toArray, List.map_cons, List.map_nil]); first | done | rfl | (simp only [List.length_drop, List.length_take]; rfl)) ?_; (with_reducible refine (intrusionlaw07_ip.calls 4 t562 t563 t564 _ A6.out).mono ?_); rintro e w22 ⟨rfl, hb⟩; refine ⟨_, rfl, ?_⟩; replace HO558 := Aside0.mk (Kd.R_below (zR HO558) hb); replace HB := Aside0.mk (below_step (zB HB) hb); (try clear hb)) | ((with_reducible refine gate_dst (N := 13) rfl ?_); (try (refine gate_guard (by rfl) ?_; dsimp only)); refine Kd.R_lit k66 _ 66 ?hg (N := 13) ?hd (xs := ([(⟨(⟨t559, t560, t561⟩ : S36), (⟨t562, t563, t564⟩ : S36)⟩ : S66)] : List (S66))) (inner := [.bool t559, .int .u64 t560, .int .u64 t561, .bool t562, .int .u64 t563, .int .u64 t564]) (ok := fun _ => True) (okp := fun _ => True) ?hr ?hp (fun _ hk => hk) trivial (Below.refl _ _) (Nat.le_refl _) (by simp) ?_; (case hd => rfl); (case hg => rfl); (case hr => first | (go_simp; done) | (go_simp; rfl)); (case hp => exact (Reps.c6 (show Kd.M k66 _ _ _ (⟨(⟨t559, t560, t561⟩ : S36), (⟨t562, t563, t564⟩ : S36)⟩ : S66) [.bool t559, .int .u64 t560, .int .u64 t561, .bool t562, .int .u64 t563, .int .u64 t564] from (k66_mkM _ _ _ (⟨(⟨t559, t560, t561⟩ : S36), (⟨t562, t563, t564⟩ : S36)⟩ : S66) )) (Reps.none _ _))); intro v566 w23 ho24 hb hg_ hnew_; clear hg_ hnew_; (first | rw [← Ny565.out] at ho24 | (simp only [Int.reduceToNat] at ho24; rw [← Ny565.out] at ho24)); have HO567 := Aside0.mk (Kd.R_lower (Kd.R_new' ho24 (Kd.R_lt (zR HO558))) (below_size (zB HB))); replace HO558 := Aside0.mk (Kd.R_elder' (zR HO558) (Kd.R_base ho24) hb); replace HB := Aside0.mk (below_step (zB HB) hb); clear hb ho24; obtain ⟨Ao25, co25, eo25⟩ := Kd.R_slice HO567.out; subst eo25) | ((with_reducible refine gate_callee (f := 46) rfl ?_); refine goesL_ (some 14) rfl rfl Try.func46 (by kernel_rfl) rfl #[.slice Ao25 y565.length co25] rfl (by (try simp only [List.map_toArray, List.map_cons, List.map_nil]); first | done | rfl | (simp only [List.length_drop, List.length_take]; rfl)) ?_; (with_reducible refine (addrset_Prefixes.calls k _ _ y565 t568 _ ?side1 ?side2 A7.out).mono ?_); (case side1 => repeat (first | exact (Kd.R_reads' HO567.out).2.2 | (with_reducible refine Kd.C_alloc ?_ _) | (with_reducible refine Kd.C_drewN ?_ _) | (with_reducible refine Kd.C_drew ?_))); (case side2 => exact (Kd.R_reads' HO567.out).2.1); rintro e w26 ⟨v569, rfl, ho0, hb⟩; refine ⟨_, rfl, ?_⟩; replace HO558 := Aside0.mk (Kd.R_below (zR HO558) hb); replace HO567 := Aside0.mk (Kd.R_below (zR HO567) hb); have HO570 := Aside0.mk (Kd.R_lower ho0 (below_size (zB HB))); replace HB := Aside0.mk (below_step (zB HB) hb); (try clear hb); (try clear ho0)))
     replace HO558 := Aside0.mk (Kd.R_drew HO558.out)
     replace HO567 := Aside0.mk (Kd.R_drew HO567.out)
     replace HO570 := Aside0.mk (Kd.R_drew HO570.out)
     replace HB := Aside0.mk (below_drew1 HB.out)
     obtain ⟨Ao28, co28, eo28⟩ := Kd.R_slice HO558.out
     (first | subst eo28 | (injection eo28 with f1_ f2_ f3_; have f4_ := f1_.symm; have f5_ := f3_.symm; clear f1_ f2_ f3_; subst f4_; subst f5_))
     refine start_ (n := 39) (S := fun w' => True) (ds := []) #[false, false, false, false, false, false, false, false, false, false, false, false, false, false, false, false, false, false, false, false, false, false, false, false, false, false, false, false, false, false, false, false, false, false, false, false, false, false, false] (by kernel_rfl) rfl rfl trivial (fun hHeld => ?_); refine with_tabW intrusionlaw07_awake.tab3 intrusionlaw07_awake.bits3 (fun HT_ HW_ => ?_)
     generalize w26.drew = w27 at HO558 HO567 HO570 HB hHeld ⊢
     refine zp 0 15 HT_ ?_; refine zo 1 16 HT_ (fun K hK => ?_)
     refine zg Try.func38 #[.slice Ao28 y556.length co28] ?_
     with_reducible refine (addrset_Normal.calls k _ _ y556 t571 _ ?side1 ?side2 A8.out).mono ?_
     (case side1 => repeat (first | exact (Kd.R_reads' HO558.out).2.2 | (with_reducible refine Kd.C_alloc ?_ _) | (with_reducible refine Kd.C_drewN ?_ _) | (with_reducible refine Kd.C_drew ?_)))
     (case side2 => exact (Kd.R_reads' HO558.out).2.1)
     rintro e w29 ⟨v572, rfl, ho0, hb⟩
     refine ⟨_, rfl, ?_⟩
     replace HO570 := Aside0.mk (Kd.R_below (zR HO570) hb)
     have HO573 := Aside0.mk (Kd.R_lower (Kd.R_new' (Kd.R_new' ho0 (Kd.R_lt (zR HO558))) (Kd.R_lt (zR HO567))) (below_size (zB HB)))
     replace HO558 := Aside0.mk (Kd.R_elder' (zR HO558) (Kd.R_base ho0) hb)
     replace HO567 := Aside0.mk (Kd.R_elder' (zR HO567) (Kd.R_base ho0) hb)
     replace HB := Aside0.mk (below_step (zB HB) hb)
     (try clear hb)
     (try clear ho0)
     refine hK.out _ _ trivial (fun hHeld => ?_)
     clear hK K
     refine zn 16 ?_; refine zo 2 17 HT_ (fun K hK => ?_)
     refine zg Try.func70 #[.int .u64 1] ?_
     with_reducible refine (intrusionlaw07_ip.calls 1 t574 t575 t576 _ A9.out).mono ?_
     rintro e w30 ⟨rfl, hb⟩
     refine ⟨_, rfl, ?_⟩
     replace HO558 := Aside0.mk (Kd.R_below (zR HO558) hb)
     replace HO567 := Aside0.mk (Kd.R_below (zR HO567) hb)
     replace HO570 := Aside0.mk (Kd.R_below (zR HO570) hb)
     replace HO573 := Aside0.mk (Kd.R_below (zR HO573) hb)
     replace HB := Aside0.mk (below_step (zB HB) hb)
     (try clear hb)
     refine hK.out _ _ trivial (fun hHeld => ?_)
     clear hK K
     refine zn 17 ?_; refine zo 3 18 HT_ (fun K hK => ?_)
     refine zg Try.func70 #[.int .u64 3] ?_
     with_reducible refine (intrusionlaw07_ip.calls 3 t577 t578 t579 _ A10.out).mono ?_
     rintro e w31 ⟨rfl, hb⟩
     refine ⟨_, rfl, ?_⟩
     replace HO558 := Aside0.mk (Kd.R_below (zR HO558) hb)
     replace HO567 := Aside0.mk (Kd.R_below (zR HO567) hb)
     replace HO570 := Aside0.mk (Kd.R_below (zR HO570) hb)
     replace HO573 := Aside0.mk (Kd.R_below (zR HO573) hb)
     replace HB := Aside0.mk (below_step (zB HB) hb)
     (try clear hb)
     refine hK.out _ _ trivial (fun hHeld => ?_)
     clear hK K
     refine zn 18 ?_; refine zp 4 19 HT_ ?_; refine zo 5 20 HT_ (fun K hK => ?_)
     refine Kd.R_lit_step k66 _ 66 ?hg (N := 20) ?hd (xs := ([(⟨(⟨t574, t575, t576⟩ : S36), (⟨t577, t578, t579⟩ : S36)⟩ : S66)] : List (S66))) (inner := [.bool t574, .int .u64 t575, .int .u64 t576, .bool t577, .int .u64 t578, .int .u64 t579]) (ok := fun _ => True) (okp := fun _ => True) ?hr ?hp (fun _ hk => hk) trivial (Below.refl _ _) (Nat.le_refl _) (by simp) ?_; (case hd => rfl); (case hg => rfl); (case hr => first | (go_simp; done) | (go_simp; rfl)); (case hp => exact (Reps.c6 (show Kd.M k66 _ _ _ (⟨(⟨t574, t575, t576⟩ : S36), (⟨t577, t578, t579⟩ : S36)⟩ : S66) [.bool t574, .int .u64 t575, .int .u64 t576, .bool t577, .int .u64 t578, .int .u64 t579] from (k66_mkM _ _ _ (⟨(⟨t574, t575, t576⟩ : S36), (⟨t577, t578, t579⟩ : S36)⟩ : S66) )) (Reps.none _ _)))
     intro v581 w32 ho33 hb hg_ hnew_
     clear hg_ hnew_
     (first | rw [← Ny580.out] at ho33 | (simp only [Int.reduceToNat] at ho33; rw [← Ny580.out] at ho33))
     replace HO570 := Aside0.mk (Kd.R_below (zR HO570) hb)
     have HO582 := Aside0.mk (Kd.R_lower (Kd.R_new' (Kd.R_new' (Kd.R_new' ho33 (Kd.R_lt (zR HO558))) (Kd.R_lt (zR HO567))) (Kd.R_lt (zR HO573))) (below_size (zB HB)))
     replace HO558 := Aside0.mk (Kd.R_elder' (zR HO558) (Kd.R_base ho33) hb)
     replace HO567 := Aside0.mk (Kd.R_elder' (zR HO567) (Kd.R_base ho33) hb)
     replace HO573 := Aside0.mk (Kd.R_elder' (zR HO573) (Kd.R_base ho33) hb)
     replace HB := Aside0.mk (below_step (zB HB) hb)
     clear hb ho33
     obtain ⟨Ao34, co34, eo34⟩ := Kd.R_slice HO573.out
     (first | subst eo34 | (injection eo34 with f1_ f2_ f3_; have f4_ := f1_.symm; have f5_ := f3_.symm; clear f1_ f2_ f3_; subst f4_; subst f5_))
     obtain ⟨Ao35, co35, eo35⟩ := Kd.R_slice HO582.out
     (first | subst eo35 | (injection eo35 with f1_ f2_ f3_; have f4_ := f1_.symm; have f5_ := f3_.symm; clear f1_ f2_ f3_; subst f4_; subst f5_))
     refine hK.out _ _ trivial (fun hHeld => ?_)
     clear hK K
     refine zn 20 ?_; refine zo 6 21 HT_ (fun K hK => ?_)
     refine zg Try.func37 #[.slice Ao34 t571.length co34, .slice Ao35 y580.length co35] ?_
     with_reducible refine (intrusionref07_Same.calls k _ _ t571 _ _ y580 true _ ?side1 ?side2 ?side3 ?side4 A11.out).mono ?_
     (case side1 => repeat (first | exact (Kd.R_reads' HO573.out).2.2 | (with_reducible refine Kd.C_alloc ?_ _) | (with_reducible refine Kd.C_drewN ?_ _) | (with_reducible refine Kd.C_drew ?_)))
     (case side2 => exact (Kd.R_reads' HO573.out).2.1)
     (case side3 => repeat (first | exact (Kd.R_reads' HO582.out).2.2 | (with_reducible refine Kd.C_alloc ?_ _) | (with_reducible refine Kd.C_drewN ?_ _) | (with_reducible refine Kd.C_drew ?_)))
     (case side4 => exact (Kd.R_reads' HO582.out).2.1)
     rintro e w' ⟨rfl, ⟨nd, rfl⟩⟩
     refine ⟨_, rfl, ?_⟩
     refine hK.out _ _ trivial (fun hHeld => ?_)
     clear hK K
     refine zn 21 ?_; refine zp 7 22 HT_ ?_; refine zp 8 23 HT_ ?_; refine zo 9 24 HT_ (fun K hK => ?_)
     refine zg Try.func40 #[.slice Ao28 y556.length co28] ?_
     with_reducible refine (addrset_Valid.calls k _ _ y556 true _ ?side1 ?side2 A13.out).mono ?_
     (case side1 => repeat (first | exact (Kd.R_reads' HO558.out).2.2 | (with_reducible refine Kd.C_alloc ?_ _) | (with_reducible refine Kd.C_drewN ?_ _) | (with_reducible refine Kd.C_drew ?_)))
     (case side2 => exact (Kd.R_reads' HO558.out).2.1)
     rintro e w36 ⟨rfl, hb⟩
     refine ⟨_, rfl, ?_⟩
     replace HO558 := Aside0.mk (Kd.R_below (zR HO558) hb)
     replace HO567 := Aside0.mk (Kd.R_below (zR HO567) hb)
     replace HO570 := Aside0.mk (Kd.R_below (zR HO570) hb)
     replace HO573 := Aside0.mk (Kd.R_below (zR HO573) hb)
     replace HO582 := Aside0.mk (Kd.R_below (zR HO582) hb)
     replace HB := Aside0.mk (below_step (zB HB) hb)
     (try clear hb)
     refine hK.out _ _ trivial (fun hHeld => ?_)
     clear hK K
     refine zn 24 ?_; refine zp 10 25 HT_ ?_; refine zp 11 26 HT_ ?_; refine zp 12 27 HT_ ?_; refine zu 13 28 HT_ ?_; refine zu 14 29 HT_ ?_; refine zu 15 30 HT_ ?_; refine zp 16 31 HT_ ?_; refine zp 17 32 HT_ ?_; refine zu 18 33 HT_ ?_; refine zu 19 34 HT_ ?_; refine zu 20 35 HT_ ?_; refine zu 21 36 HT_ ?_; refine zu 22 37 HT_ ?_; refine zu 23 38 HT_ ?_; refine zp 24 39 HT_ ?_; refine zp 25 40 HT_ ?_; refine zu 26 41 HT_ ?_; refine zu 27 42 HT_ ?_; refine zu 28 43 HT_ ?_; refine zu 29 44 HT_ ?_; refine zu 30 45 HT_ ?_; refine zu 31 46 HT_ ?_; refine zp 32 47 HT_ ?_; refine zp 33 48 HT_ ?_; refine zu 34 49 HT_ ?_; refine zu 35 50 HT_ ?_; refine zu 36 51 HT_ ?_; refine zp 37 52 HT_ ?_; refine zp 38 0 HT_ ?_; refine zd HT_ ?_
     try go_wp2
     go_ret
     exact ⟨by first | rfl | (simp [errW_none, errW_some] <;> rfl) | (simp [*, errW_none, errW_some] <;> rfl), by repeat (first | (with_reducible first | exact HB.out | apply below_alloc | apply pw_below_drewN | apply below_drew1) | exact HB.out)⟩
   · replace c14 := Bool.eq_false_iff.mpr c14
     subst c14
     rw [if_neg zF] at H
     by_cases c37 : (t568.length : Int) = 3
     · rw [if_pos c37] at H
       have c37b0 : ((t568.length : Int) == 3) = true := beq_iff_eq.mpr c37
       have c37b1 : ((t568.length : Int) != 3) = false := bne_eq_false_iff_eq.mpr c37
       clear c37
       by_cases c38 : 0 < (t568.length : Int)
       · rw [if_pos c38] at H
         have c38b0 : decide (0 < (t568.length : Int)) = true := decide_eq_true c38
         have c38b1 : decide (0 < t568.length) = true := decide_eq_true (by omega)
         clear c38
         replace H := Option.bind_eq_some_iff.mp H
         obtain ⟨⟨t586, t587, t588⟩, A390, H⟩ := H
         try dsimp only at H
         have A39 := Aside0.mk A390
         clear A390
         by_cases c40 : ((((rd_T45 t568 0).f0.f0) == t586 && (((rd_T45 t568 0).f0.f1) == t587 && (((rd_T45 t568 0).f0.f2) == t588))) && (((rd_T45 t568 0).f1) == 32)) = true
         · rw [if_pos c40] at H
           have c40b0 : ((((rd_T45 t568 0).f0.f0) == t586 && (((rd_T45 t568 0).f0.f1) == t587 && (((rd_T45 t568 0).f0.f2) == t588))) && (((rd_T45 t568 0).f1) == 32)) = true := c40
           clear c40
           by_cases c41 : 1 < (t568.length : Int)
           · rw [if_pos c41] at H
             have c41b0 : decide (1 < (t568.length : Int)) = true := decide_eq_true c41
             have c41b1 : decide (1 < t568.length) = true := decide_eq_true (by omega)
             clear c41
             replace H := Option.bind_eq_some_iff.mp H
             obtain ⟨⟨t590, t591, t592⟩, A420, H⟩ := H
             try dsimp only at H
             have A42 := Aside0.mk A420
             clear A420
             by_cases c43 : ((((rd_T45 t568 1).f0.f0) == t590 && (((rd_T45 t568 1).f0.f1) == t591 && (((rd_T45 t568 1).f0.f2) == t592))) && (((rd_T45 t568 1).f1) == 31)) = true
             · rw [if_pos c43] at H
               have c43b0 : ((((rd_T45 t568 1).f0.f0) == t590 && (((rd_T45 t568 1).f0.f1) == t591 && (((rd_T45 t568 1).f0.f2) == t592))) && (((rd_T45 t568 1).f1) == 31)) = true := c43
               clear c43
               replace H := Option.bind_eq_some_iff.mp H
               obtain ⟨t593, A440, H⟩ := H
               try dsimp only at H
               have A44 := Aside0.mk A440
               clear A440
               obtain rfl := Option.some.inj H
               go_enter Try.func36, Try.ntmps36
               try go_wp2_with (first | ((with_reducible refine gate_callee (f := 70) rfl ?_); refine goesL_ (some 3) rfl rfl Try.func70 (by kernel_rfl) rfl #[.int .u64 2] rfl (by (try simp only [List.map_toArray, List.map_cons, List.map_nil]); first | done | rfl | (simp only [List.length_drop, List.length_take]; rfl)) ?_; (with_reducible refine (intrusionlaw07_ip.calls 2 t544 t545 t546 _ A1.out).mono ?_); rintro e w45 ⟨rfl, hb⟩; refine ⟨_, rfl, ?_⟩; replace HB := Aside0.mk (below_step (zB HB) hb); (try clear hb)) | ((with_reducible refine gate_callee (f := 70) rfl ?_); refine goesL_ (some 4) rfl rfl Try.func70 (by kernel_rfl) rfl #[.int .u64 3] rfl (by (try simp only [List.map_toArray, List.map_cons, List.map_nil]); first | done | rfl | (simp only [List.length_drop, List.length_take]; rfl)) ?_; (with_reducible refine (intrusionlaw07_ip.calls 3 t547 t548 t549 _ A2.out).mono ?_); rintro e w46 ⟨rfl, hb⟩; refine ⟨_, rfl, ?_⟩; replace HB := Aside0.mk (below_step (zB HB) hb); (try clear hb)) | ((with_reducible refine gate_callee (f := 70) rfl ?_); refine goesL_ (some 6) rfl rfl Try.func70 (by kernel_rfl) rfl #[.int .u64 1] rfl (by (try simp only [List.map_toArray, List.map_cons, List.map_nil]); first | done | rfl | (simp only [List.length_drop, List.length_take]; rfl)) ?_; (with_reducible refine (intrusionlaw07_ip.calls 1 t550 t551 t552 _ A3.out).mono ?_); rintro e w47 ⟨rfl, hb⟩; refine ⟨_, rfl, ?_⟩; replace HB := Aside0.mk (below_step (zB HB) hb); (try clear hb)) | ((with_reducible refine gate_callee (f := 70) rfl ?_); refine goesL_ (some 7) rfl rfl Try.func70 (by kernel_rfl) rfl #[.int .u64 1] rfl (by (try simp only [List.map_toArray, List.map_cons, List.map_nil]); first | done | rfl | (simp only [List.length_drop, List.length_take]; rfl)) ?_; (with_reducible refine (intrusionlaw07_ip.calls 1 t553 t554 t555 _ A4.out).mono ?_); rintro e w48 ⟨rfl, hb⟩; refine ⟨_, rfl, ?_⟩; replace HB := Aside0.mk (below_step (zB HB) hb); (try clear hb)) | ((with_reducible refine gate_dst (N := 9) rfl ?_); (try (refine gate_guard (by rfl) ?_; dsimp only)); refine Kd.R_lit k66 _ 66 ?hg (N := 9) ?hd (xs := ([(⟨(⟨t544, t545, t546⟩ : S36), (⟨t547, t548, t549⟩ : S36)⟩ : S66), (⟨(⟨t550, t551, t552⟩ : S36), (⟨t553, t554, t555⟩ : S36)⟩ : S66)] : List (S66))) (inner := [.bool t544, .int .u64 t545, .int .u64 t546, .bool t547, .int .u64 t548, .int .u64 t549, .bool t550, .int .u64 t551, .int .u64 t552, .bool t553, .int .u64 t554, .int .u64 t555]) (ok := fun _ => True) (okp := fun _ => True) ?hr ?hp (fun _ hk => hk) trivial (Below.refl _ _) (Nat.le_refl _) (by simp) ?_; (case hd => rfl); (case hg => rfl); (case hr => first | (go_simp; done) | (go_simp; rfl)); (case hp => exact (Reps.c6 (show Kd.M k66 _ _ _ (⟨(⟨t544, t545, t546⟩ : S36), (⟨t547, t548, t549⟩ : S36)⟩ : S66) [.bool t544, .int .u64 t545, .int .u64 t546, .bool t547, .int .u64 t548, .int .u64 t549] from (k66_mkM _ _ _ (⟨(⟨t544, t545, t546⟩ : S36), (⟨t547, t548, t549⟩ : S36)⟩ : S66) )) (Reps.c6 (show Kd.M k66 _ _ _ (⟨(⟨t550, t551, t552⟩ : S36), (⟨t553, t554, t555⟩ : S36)⟩ : S66) [.bool t550, .int .u64 t551, .int .u64 t552, .bool t553, .int .u64 t554, .int .u64 t555] from (k66_mkM _ _ _ (⟨(⟨t550, t551, t552⟩ : S36), (⟨t553, t554, t555⟩ : S36)⟩ : S66) )) (Reps.none _ _)))); intro v557 w49 ho50 hb hg_ hnew_; clear hg_ hnew_; (first | rw [← Ny556.out] at ho50 | (simp only [Int.reduceToNat] at ho50; rw [← Ny556.out] at ho50)); have HO558 := Aside0.mk (Kd.R_lower ho50 (below_size (zB HB))); replace HB := Aside0.mk (below_step (zB HB) hb); clear hb ho50) | ((with_reducible refine gate_callee (f := 70) rfl ?_); refine goesL_ (some 10) rfl rfl Try.func70 (by kernel_rfl) rfl #[.int .u64 1] rfl (by (try simp only [List.map_toArray, List.map_cons, List.map_nil]); first | done | rfl | (simp only [List.length_drop, List.length_take]; rfl)) ?_; (with_reducible refine (intrusionlaw07_ip.calls 1 t559 t560 t561 _ A5.out).mono ?_); rintro e w51 ⟨rfl, hb⟩; refine ⟨_, rfl, ?_⟩; replace HO558 := Aside0.mk (Kd.R_below (zR HO558) hb); replace HB := Aside0.mk (below_step (zB HB) hb); (try clear hb)) | ((with_reducible refine gate_callee (f := 70) rfl ?_); refine goesL_ (some 11) rfl rfl Try.func70 (by kernel_rfl) rfl #[.int .u64 4] rfl (by (try simp only [List.map_toArray, List.map_cons, List.map_nil]); first | done | rfl | (simp only [List.length_drop, List.length_take]; rfl)) ?_; (with_reducible refine (intrusionlaw07_ip.calls 4 t562 t563 t564 _ A6.out).mono ?_); rintro e w52 ⟨rfl, hb⟩; refine ⟨_, rfl, ?_⟩; replace HO558 := Aside0.mk (Kd.R_below (zR HO558) hb); replace HB := Aside0.mk (below_step (zB HB) hb); (try clear hb)) | ((with_reducible refine gate_dst (N := 13) rfl ?_); (try (refine gate_guard (by rfl) ?_; dsimp only)); refine Kd.R_lit k66 _ 66 ?hg (N := 13) ?hd (xs := ([(⟨(⟨t559, t560, t561⟩ : S36), (⟨t562, t563, t564⟩ : S36)⟩ : S66)] : List (S66))) (inner := [.bool t559, .int .u64 t560, .int .u64 t561, .bool t562, .int .u64 t563, .int .u64 t564]) (ok := fun _ => True) (okp := fun _ => True) ?hr ?hp (fun _ hk => hk) trivial (Below.refl _ _) (Nat.le_refl _) (by simp) ?_; (case hd => rfl); (case hg => rfl); (case hr => first | (go_simp; done) | (go_simp; rfl)); (case hp => exact (Reps.c6 (show Kd.M k66 _ _ _ (⟨(⟨t559, t560, t561⟩ : S36), (⟨t562, t563, t564⟩ : S36)⟩ : S66) [.bool t559, .int .u64 t560, .int .u64 t561, .bool t562, .int .u64 t563, .int .u64 t564] from (k66_mkM _ _ _ (⟨(⟨t559, t560, t561⟩ : S36), (⟨t562, t563, t564⟩ : S36)⟩ : S66) )) (Reps.none _ _))); intro v566 w53 ho54 hb hg_ hnew_; clear hg_ hnew_; (first | rw [← Ny565.out] at ho54 | (simp only [Int.reduceToNat] at ho54; rw [← Ny565.out] at ho54)); have HO567 := Aside0.mk (Kd.R_lower (Kd.R_new' ho54 (Kd.R_lt (zR HO558))) (below_size (zB HB))); replace HO558 := Aside0.mk (Kd.R_elder' (zR HO558) (Kd.R_base ho54) hb); replace HB := Aside0.mk (below_step (zB HB) hb); clear hb ho54; obtain ⟨Ao55, co55, eo55⟩ := Kd.R_slice HO567.out; subst eo55) | ((with_reducible refine gate_callee (f := 46) rfl ?_); refine goesL_ (some 14) rfl rfl Try.func46 (by kernel_rfl) rfl #[.slice Ao55 y565.length co55] rfl (by (try simp only [List.map_toArray, List.map_cons, List.map_nil]); first | done | rfl | (simp only [List.length_drop, List.length_take]; rfl)) ?_; (with_reducible refine (addrset_Prefixes.calls k _ _ y565 t568 _ ?side1 ?side2 A7.out).mono ?_); (case side1 => repeat (first | exact (Kd.R_reads' HO567.out).2.2 | (with_reducible refine Kd.C_alloc ?_ _) | (with_reducible refine Kd.C_drewN ?_ _) | (with_reducible refine Kd.C_drew ?_))); (case side2 => exact (Kd.R_reads' HO567.out).2.1); rintro e w56 ⟨v569, rfl, ho0, hb⟩; refine ⟨_, rfl, ?_⟩; replace HO558 := Aside0.mk (Kd.R_below (zR HO558) hb); replace HO567 := Aside0.mk (Kd.R_below (zR HO567) hb); have HO570 := Aside0.mk (Kd.R_lower ho0 (below_size (zB HB))); replace HB := Aside0.mk (below_step (zB HB) hb); (try clear hb); (try clear ho0)))
               replace HO558 := Aside0.mk (Kd.R_drew HO558.out)
               replace HO567 := Aside0.mk (Kd.R_drew HO567.out)
               replace HO570 := Aside0.mk (Kd.R_drew HO570.out)
               replace HB := Aside0.mk (below_drew1 HB.out)
               obtain ⟨Ao58, co58, eo58⟩ := Kd.R_slice HO558.out
               (first | subst eo58 | (injection eo58 with f1_ f2_ f3_; have f4_ := f1_.symm; have f5_ := f3_.symm; clear f1_ f2_ f3_; subst f4_; subst f5_))
               have p585 : 0 ≤ (0 : Int) := (by omega)
               have q585 : 0 < (t568.length : Int) := za
               (try (obtain ⟨Ax_, cx_, ex_⟩ := Kd.R_slice HO570.out; subst ex_))
               obtain ⟨ad585, e585, hx585_0, hx585_1, hx585_2, hx585_3⟩ := at_T45 (Kd.R_reads' HO570.out).2.2 0 p585 q585
               cases e585
               have qi585 : (0 < t568.length) = True := eq_true (by omega)
               (try rw [show ((0 : Int)).toNat = 0 from rfl] at hx585_0)
               (try rw [show 0 * 4 = 0 from rfl] at hx585_0)
               (try rw [Addr.add_zero'] at hx585_0)
               (try rw [show ((0 : Int)).toNat = 0 from rfl] at hx585_1)
               (try rw [show 0 * 4 = 0 from rfl] at hx585_1)
               (try rw [Addr.add_zero'] at hx585_1)
               (try rw [show ((0 : Int)).toNat = 0 from rfl] at hx585_2)
               (try rw [show 0 * 4 = 0 from rfl] at hx585_2)
               (try rw [Addr.add_zero'] at hx585_2)
               (try rw [show ((0 : Int)).toNat = 0 from rfl] at hx585_3)
               (try rw [show 0 * 4 = 0 from rfl] at hx585_3)
               (try rw [Addr.add_zero'] at hx585_3)
               replace p585 := eq_true p585
               replace q585 := eq_true q585
               have p589 : 0 ≤ (1 : Int) := (by omega)
               have q589 : 1 < (t568.length : Int) := za
               obtain ⟨ad589, e589, hx589_0, hx589_1, hx589_2, hx589_3⟩ := at_T45 (Kd.R_reads' HO570.out).2.2 1 p589 q589
               obtain rfl : ad585 = ad589 := (by injection e589)
               (try simp only [show (1 : Int).toNat = 1 from rfl, Nat.reduceMul, Nat.reduceEqDiff, Go.Addr.add, ↓reduceIte] at hx589_0)
               (try simp only [show (1 : Int).toNat = 1 from rfl, Nat.reduceMul, Nat.reduceEqDiff, Go.Addr.add, ↓reduceIte] at hx589_1)
               (try simp only [show (1 : Int).toNat = 1 from rfl, Nat.reduceMul, Nat.reduceEqDiff, Go.Addr.add, ↓reduceIte] at hx589_2)
               (try simp only [show (1 : Int).toNat = 1 from rfl, Nat.reduceMul, Nat.reduceEqDiff, Go.Addr.add, ↓reduceIte] at hx589_3)
               have qi589 : (1 < t568.length) = True := eq_true (by omega)
               (try rw [show ((1 : Int)).toNat = 1 from rfl] at hx589_0)
               (try rw [show 1 * 4 = 4 from rfl] at hx589_0)
               (try rw [show ((1 : Int)).toNat = 1 from rfl] at hx589_1)
               (try rw [show 1 * 4 = 4 from rfl] at hx589_1)
               (try rw [show ((1 : Int)).toNat = 1 from rfl] at hx589_2)
               (try rw [show 1 * 4 = 4 from rfl] at hx589_2)
               (try rw [show ((1 : Int)).toNat = 1 from rfl] at hx589_3)
               (try rw [show 1 * 4 = 4 from rfl] at hx589_3)
               replace p589 := eq_true p589
               replace q589 := eq_true q589
               refine start_ (n := 39) (S := fun w' => w'.cell? ad585 = some (.bool ((rd_T45 t568 0).f0.f0)) ∧ w'.cell? ⟨ad585.block, ad585.off + 1, none⟩ = some (.int .u64 ((rd_T45 t568 0).f0.f1)) ∧ w'.cell? ⟨ad585.block, ad585.off + 2, none⟩ = some (.int .u64 ((rd_T45 t568 0).f0.f2)) ∧ w'.cell? ⟨ad585.block, ad585.off + 3, none⟩ = some (.int .i64 ((rd_T45 t568 0).f1)) ∧ w'.cell? ⟨ad585.block, ad585.off + 4, none⟩ = some (.bool ((rd_T45 t568 1).f0.f0)) ∧ w'.cell? ⟨ad585.block, ad585.off + 4 + 1, none⟩ = some (.int .u64 ((rd_T45 t568 1).f0.f1)) ∧ w'.cell? ⟨ad585.block, ad585.off + 4 + 2, none⟩ = some (.int .u64 ((rd_T45 t568 1).f0.f2)) ∧ w'.cell? ⟨ad585.block, ad585.off + 4 + 3, none⟩ = some (.int .i64 ((rd_T45 t568 1).f1))) (ds := []) #[false, false, false, false, false, false, false, false, false, false, false, false, false, false, false, false, false, false, false, false, false, false, false, false, false, false, false, false, false, false, false, false, false, false, false, false, false, false, false] (by kernel_rfl) rfl rfl ⟨hx585_0, hx585_1, hx585_2, hx585_3, hx589_0, hx589_1, hx589_2, hx589_3⟩ (fun hHeld => ?_); refine with_tabW intrusionlaw07_awake.tab3 intrusionlaw07_awake.bits3 (fun HT_ HW_ => ?_)
               generalize w56.drew = w57 at HO558 HO567 HO570 HB hx585_0 hx585_1 hx585_2 hx585_3 hx589_0 hx589_1 hx589_2 hx589_3 hHeld ⊢
               refine zp 0 15 HT_ ?_; refine zo 1 16 HT_ (fun K hK => ?_)
               refine zg Try.func38 #[.slice Ao58 y556.length co58] ?_
               with_reducible refine (addrset_Normal.calls k _ _ y556 t571 _ ?side1 ?side2 A8.out).mono ?_
               (case side1 => repeat (first | exact (Kd.R_reads' HO558.out).2.2 | (with_reducible refine Kd.C_alloc ?_ _) | (with_reducible refine Kd.C_drewN ?_ _) | (with_reducible refine Kd.C_drew ?_)))
               (case side2 => exact (Kd.R_reads' HO558.out).2.1)
               rintro e w59 ⟨v572, rfl, ho0, hb⟩
               have HS0_ := (hb.cell (World.block_lt_of_cell? _ _ (hHeld.1))).trans (hHeld.1)
               have HS1_ := (hb.cell (World.block_lt_of_cell? _ _ (hHeld.2.1))).trans (hHeld.2.1)
               have HS2_ := (hb.cell (World.block_lt_of_cell? _ _ (hHeld.2.2.1))).trans (hHeld.2.2.1)
               have HS3_ := (hb.cell (World.block_lt_of_cell? _ _ (hHeld.2.2.2.1))).trans (hHeld.2.2.2.1)
               have HS4_ := (hb.cell (World.block_lt_of_cell? _ _ (hHeld.2.2.2.2.1))).trans (hHeld.2.2.2.2.1)
               have HS5_ := (hb.cell (World.block_lt_of_cell? _ _ (hHeld.2.2.2.2.2.1))).trans (hHeld.2.2.2.2.2.1)
               have HS6_ := (hb.cell (World.block_lt_of_cell? _ _ (hHeld.2.2.2.2.2.2.1))).trans (hHeld.2.2.2.2.2.2.1)
               have HS7_ := (hb.cell (World.block_lt_of_cell? _ _ (hHeld.2.2.2.2.2.2.2))).trans (hHeld.2.2.2.2.2.2.2)
               refine ⟨_, rfl, ?_⟩
               replace HO570 := Aside0.mk (Kd.R_below (zR HO570) hb)
               have HO573 := Aside0.mk (Kd.R_lower (Kd.R_new' (Kd.R_new' ho0 (Kd.R_lt (zR HO558))) (Kd.R_lt (zR HO567))) (below_size (zB HB)))
               replace HO558 := Aside0.mk (Kd.R_elder' (zR HO558) (Kd.R_base ho0) hb)
               replace HO567 := Aside0.mk (Kd.R_elder' (zR HO567) (Kd.R_base ho0) hb)
               replace HB := Aside0.mk (below_step (zB HB) hb)
               (try clear hb)
               (try clear ho0)
               refine hK.out _ _ ⟨HS0_, HS1_, HS2_, HS3_, HS4_, HS5_, HS6_, HS7_⟩ (fun hHeld => ?_)
               clear hK K
               refine zn 16 ?_; refine zo 2 17 HT_ (fun K hK => ?_)
               refine zg Try.func70 #[.int .u64 1] ?_
               with_reducible refine (intrusionlaw07_ip.calls 1 t574 t575 t576 _ A9.out).mono ?_
               rintro e w60 ⟨rfl, hb⟩
               have HS0_ := (hb.cell (World.block_lt_of_cell? _ _ (hHeld.1))).trans (hHeld.1)
               have HS1_ := (hb.cell (World.block_lt_of_cell? _ _ (hHeld.2.1))).trans (hHeld.2.1)
               have HS2_ := (hb.cell (World.block_lt_of_cell? _ _ (hHeld.2.2.1))).trans (hHeld.2.2.1)
               have HS3_ := (hb.cell (World.block_lt_of_cell? _ _ (hHeld.2.2.2.1))).trans (hHeld.2.2.2.1)
               have HS4_ := (hb.cell (World.block_lt_of_cell? _ _ (hHeld.2.2.2.2.1))).trans (hHeld.2.2.2.2.1)
               have HS5_ := (hb.cell (World.block_lt_of_cell? _ _ (hHeld.2.2.2.2.2.1))).trans (hHeld.2.2.2.2.2.1)
               have HS6_ := (hb.cell (World.block_lt_of_cell? _ _ (hHeld.2.2.2.2.2.2.1))).trans (hHeld.2.2.2.2.2.2.1)
               have HS7_ := (hb.cell (World.block_lt_of_cell? _ _ (hHeld.2.2.2.2.2.2.2))).trans (hHeld.2.2.2.2.2.2.2)
               refine ⟨_, rfl, ?_⟩
               replace HO558 := Aside0.mk (Kd.R_below (zR HO558) hb)
               replace HO567 := Aside0.mk (Kd.R_below (zR HO567) hb)
               replace HO570 := Aside0.mk (Kd.R_below (zR HO570) hb)
               replace HO573 := Aside0.mk (Kd.R_below (zR HO573) hb)
               replace HB := Aside0.mk (below_step (zB HB) hb)
               (try clear hb)
               refine hK.out _ _ ⟨HS0_, HS1_, HS2_, HS3_, HS4_, HS5_, HS6_, HS7_⟩ (fun hHeld => ?_)
               clear hK K
               refine zn 17 ?_; refine zo 3 18 HT_ (fun K hK => ?_)
               refine zg Try.func70 #[.int .u64 3] ?_
               with_reducible refine (intrusionlaw07_ip.calls 3 t577 t578 t579 _ A10.out).mono ?_
               rintro e w61 ⟨rfl, hb⟩
               have HS0_ := (hb.cell (World.block_lt_of_cell? _ _ (hHeld.1))).trans (hHeld.1)
               have HS1_ := (hb.cell (World.block_lt_of_cell? _ _ (hHeld.2.1))).trans (hHeld.2.1)
               have HS2_ := (hb.cell (World.block_lt_of_cell? _ _ (hHeld.2.2.1))).trans (hHeld.2.2.1)
               have HS3_ := (hb.cell (World.block_lt_of_cell? _ _ (hHeld.2.2.2.1))).trans (hHeld.2.2.2.1)
               have HS4_ := (hb.cell (World.block_lt_of_cell? _ _ (hHeld.2.2.2.2.1))).trans (hHeld.2.2.2.2.1)
               have HS5_ := (hb.cell (World.block_lt_of_cell? _ _ (hHeld.2.2.2.2.2.1))).trans (hHeld.2.2.2.2.2.1)
               have HS6_ := (hb.cell (World.block_lt_of_cell? _ _ (hHeld.2.2.2.2.2.2.1))).trans (hHeld.2.2.2.2.2.2.1)
               have HS7_ := (hb.cell (World.block_lt_of_cell? _ _ (hHeld.2.2.2.2.2.2.2))).trans (hHeld.2.2.2.2.2.2.2)
               refine ⟨_, rfl, ?_⟩
               replace HO558 := Aside0.mk (Kd.R_below (zR HO558) hb)
               replace HO567 := Aside0.mk (Kd.R_below (zR HO567) hb)
               replace HO570 := Aside0.mk (Kd.R_below (zR HO570) hb)
               replace HO573 := Aside0.mk (Kd.R_below (zR HO573) hb)
               replace HB := Aside0.mk (below_step (zB HB) hb)
               (try clear hb)
               refine hK.out _ _ ⟨HS0_, HS1_, HS2_, HS3_, HS4_, HS5_, HS6_, HS7_⟩ (fun hHeld => ?_)
               clear hK K
               refine zn 18 ?_; refine zp 4 19 HT_ ?_; refine zo 5 20 HT_ (fun K hK => ?_)
               refine Kd.R_lit_step k66 _ 66 ?hg (N := 20) ?hd (xs := ([(⟨(⟨t574, t575, t576⟩ : S36), (⟨t577, t578, t579⟩ : S36)⟩ : S66)] : List (S66))) (inner := [.bool t574, .int .u64 t575, .int .u64 t576, .bool t577, .int .u64 t578, .int .u64 t579]) (ok := fun _ => True) (okp := fun _ => True) ?hr ?hp (fun _ hk => hk) trivial (Below.refl _ _) (Nat.le_refl _) (by simp) ?_; (case hd => rfl); (case hg => rfl); (case hr => first | (go_simp; done) | (go_simp; rfl)); (case hp => exact (Reps.c6 (show Kd.M k66 _ _ _ (⟨(⟨t574, t575, t576⟩ : S36), (⟨t577, t578, t579⟩ : S36)⟩ : S66) [.bool t574, .int .u64 t575, .int .u64 t576, .bool t577, .int .u64 t578, .int .u64 t579] from (k66_mkM _ _ _ (⟨(⟨t574, t575, t576⟩ : S36), (⟨t577, t578, t579⟩ : S36)⟩ : S66) )) (Reps.none _ _)))
               intro v581 w62 ho63 hb hg_ hnew_
               have HS0_ := (hb.cell (World.block_lt_of_cell? _ _ (hHeld.1))).trans (hHeld.1)
               have HS1_ := (hb.cell (World.block_lt_of_cell? _ _ (hHeld.2.1))).trans (hHeld.2.1)
               have HS2_ := (hb.cell (World.block_lt_of_cell? _ _ (hHeld.2.2.1))).trans (hHeld.2.2.1)
               have HS3_ := (hb.cell (World.block_lt_of_cell? _ _ (hHeld.2.2.2.1))).trans (hHeld.2.2.2.1)
               have HS4_ := (hb.cell (World.block_lt_of_cell? _ _ (hHeld.2.2.2.2.1))).trans (hHeld.2.2.2.2.1)
               have HS5_ := (hb.cell (World.block_lt_of_cell? _ _ (hHeld.2.2.2.2.2.1))).trans (hHeld.2.2.2.2.2.1)
               have HS6_ := (hb.cell (World.block_lt_of_cell? _ _ (hHeld.2.2.2.2.2.2.1))).trans (hHeld.2.2.2.2.2.2.1)
               have HS7_ := (hb.cell (World.block_lt_of_cell? _ _ (hHeld.2.2.2.2.2.2.2))).trans (hHeld.2.2.2.2.2.2.2)
               clear hg_ hnew_
               (first | rw [← Ny580.out] at ho63 | (simp only [Int.reduceToNat] at ho63; rw [← Ny580.out] at ho63))
               replace HO570 := Aside0.mk (Kd.R_below (zR HO570) hb)
               have HO582 := Aside0.mk (Kd.R_lower (Kd.R_new' (Kd.R_new' (Kd.R_new' ho63 (Kd.R_lt (zR HO558))) (Kd.R_lt (zR HO567))) (Kd.R_lt (zR HO573))) (below_size (zB HB)))
               replace HO558 := Aside0.mk (Kd.R_elder' (zR HO558) (Kd.R_base ho63) hb)
               replace HO567 := Aside0.mk (Kd.R_elder' (zR HO567) (Kd.R_base ho63) hb)
               replace HO573 := Aside0.mk (Kd.R_elder' (zR HO573) (Kd.R_base ho63) hb)
               replace HB := Aside0.mk (below_step (zB HB) hb)
               clear hb ho63
               obtain ⟨Ao64, co64, eo64⟩ := Kd.R_slice HO573.out
               (first | subst eo64 | (injection eo64 with f1_ f2_ f3_; have f4_ := f1_.symm; have f5_ := f3_.symm; clear f1_ f2_ f3_; subst f4_; subst f5_))
               obtain ⟨Ao65, co65, eo65⟩ := Kd.R_slice HO582.out
               (first | subst eo65 | (injection eo65 with f1_ f2_ f3_; have f4_ := f1_.symm; have f5_ := f3_.symm; clear f1_ f2_ f3_; subst f4_; subst f5_))
               refine hK.out _ _ ⟨HS0_, HS1_, HS2_, HS3_, HS4_, HS5_, HS6_, HS7_⟩ (fun hHeld => ?_)
               clear hK K
               refine zn 20 ?_; refine zo 6 21 HT_ (fun K hK => ?_)
               refine zg Try.func37 #[.slice Ao64 t571.length co64, .slice Ao65 y580.length co65] ?_
               with_reducible refine (intrusionref07_Same.calls k _ _ t571 _ _ y580 true _ ?side1 ?side2 ?side3 ?side4 A11.out).mono ?_
               (case side1 => repeat (first | exact (Kd.R_reads' HO573.out).2.2 | (with_reducible refine Kd.C_alloc ?_ _) | (with_reducible refine Kd.C_drewN ?_ _) | (with_reducible refine Kd.C_drew ?_)))
               (case side2 => exact (Kd.R_reads' HO573.out).2.1)
               (case side3 => repeat (first | exact (Kd.R_reads' HO582.out).2.2 | (with_reducible refine Kd.C_alloc ?_ _) | (with_reducible refine Kd.C_drewN ?_ _) | (with_reducible refine Kd.C_drew ?_)))
               (case side4 => exact (Kd.R_reads' HO582.out).2.1)
               rintro e w' ⟨rfl, ⟨nd, rfl⟩⟩
               refine ⟨_, rfl, ?_⟩
               refine hK.out _ _ ⟨hHeld.1, hHeld.2.1, hHeld.2.2.1, hHeld.2.2.2.1, hHeld.2.2.2.2.1, hHeld.2.2.2.2.2.1, hHeld.2.2.2.2.2.2.1, hHeld.2.2.2.2.2.2.2⟩ (fun hHeld => ?_)
               clear hK K
               refine zn 21 ?_; refine zp 7 22 HT_ ?_; refine zp 8 23 HT_ ?_; refine zo 9 24 HT_ (fun K hK => ?_)
               refine zg Try.func40 #[.slice Ao58 y556.length co58] ?_
               with_reducible refine (addrset_Valid.calls k _ _ y556 false _ ?side1 ?side2 A13.out).mono ?_
               (case side1 => repeat (first | exact (Kd.R_reads' HO558.out).2.2 | (with_reducible refine Kd.C_alloc ?_ _) | (with_reducible refine Kd.C_drewN ?_ _) | (with_reducible refine Kd.C_drew ?_)))
               (case side2 => exact (Kd.R_reads' HO558.out).2.1)
               rintro e w66 ⟨rfl, hb⟩
               have HS0_ := (hb.cell (World.block_lt_of_cell? _ _ (hHeld.1))).trans (hHeld.1)
               have HS1_ := (hb.cell (World.block_lt_of_cell? _ _ (hHeld.2.1))).trans (hHeld.2.1)
               have HS2_ := (hb.cell (World.block_lt_of_cell? _ _ (hHeld.2.2.1))).trans (hHeld.2.2.1)
               have HS3_ := (hb.cell (World.block_lt_of_cell? _ _ (hHeld.2.2.2.1))).trans (hHeld.2.2.2.1)
               have HS4_ := (hb.cell (World.block_lt_of_cell? _ _ (hHeld.2.2.2.2.1))).trans (hHeld.2.2.2.2.1)
               have HS5_ := (hb.cell (World.block_lt_of_cell? _ _ (hHeld.2.2.2.2.2.1))).trans (hHeld.2.2.2.2.2.1)
               have HS6_ := (hb.cell (World.block_lt_of_cell? _ _ (hHeld.2.2.2.2.2.2.1))).trans (hHeld.2.2.2.2.2.2.1)
               have HS7_ := (hb.cell (World.block_lt_of_cell? _ _ (hHeld.2.2.2.2.2.2.2))).trans (hHeld.2.2.2.2.2.2.2)
               refine ⟨_, rfl, ?_⟩
               replace HO558 := Aside0.mk (Kd.R_below (zR HO558) hb)
               replace HO567 := Aside0.mk (Kd.R_below (zR HO567) hb)
               replace HO570 := Aside0.mk (Kd.R_below (zR HO570) hb)
               replace HO573 := Aside0.mk (Kd.R_below (zR HO573) hb)
               replace HO582 := Aside0.mk (Kd.R_below (zR HO582) hb)
               replace HB := Aside0.mk (below_step (zB HB) hb)
               (try clear hb)
               obtain ⟨Ao67, co67, eo67⟩ := Kd.R_slice HO570.out
               (first | subst eo67 | (injection eo67 with f1_ f2_ f3_; have f4_ := f1_.symm; have f5_ := f3_.symm; clear f1_ f2_ f3_; subst f4_; subst f5_))
               refine hK.out _ _ ⟨HS0_, HS1_, HS2_, HS3_, HS4_, HS5_, HS6_, HS7_⟩ (fun hHeld => ?_)
               clear hK K
               refine zn 24 ?_; refine zp 10 25 HT_ ?_; refine zp 11 26 HT_ ?_; refine zp 12 27 HT_ ?_; refine zp 13 28 HT_ ?_; refine zp 14 29 HT_ ?_; refine zp 15 30 HT_ ?_; refine zp 16 31 HT_ ?_; refine zp 17 32 HT_ ?_; refine zp 18 33 HT_ ?_; refine zp 19 34 HT_ ?_; refine zt 20 35 HT_ HW_ hHeld ?_; refine zo 21 36 HT_ (fun K hK => ?_)
               refine zg Try.func70 #[.int .u64 1] ?_
               with_reducible refine (intrusionlaw07_ip.calls 1 t586 t587 t588 _ A39.out).mono ?_
               rintro e w68 ⟨rfl, hb⟩
               have HS0_ := (hb.cell (World.block_lt_of_cell? _ _ (hHeld.1))).trans (hHeld.1)
               have HS1_ := (hb.cell (World.block_lt_of_cell? _ _ (hHeld.2.1))).trans (hHeld.2.1)
               have HS2_ := (hb.cell (World.block_lt_of_cell? _ _ (hHeld.2.2.1))).trans (hHeld.2.2.1)
               have HS3_ := (hb.cell (World.block_lt_of_cell? _ _ (hHeld.2.2.2.1))).trans (hHeld.2.2.2.1)
               have HS4_ := (hb.cell (World.block_lt_of_cell? _ _ (hHeld.2.2.2.2.1))).trans (hHeld.2.2.2.2.1)
               have HS5_ := (hb.cell (World.block_lt_of_cell? _ _ (hHeld.2.2.2.2.2.1))).trans (hHeld.2.2.2.2.2.1)
               have HS6_ := (hb.cell (World.block_lt_of_cell? _ _ (hHeld.2.2.2.2.2.2.1))).trans (hHeld.2.2.2.2.2.2.1)
               have HS7_ := (hb.cell (World.block_lt_of_cell? _ _ (hHeld.2.2.2.2.2.2.2))).trans (hHeld.2.2.2.2.2.2.2)
               refine ⟨_, rfl, ?_⟩
               replace HO558 := Aside0.mk (Kd.R_below (zR HO558) hb)
               replace HO567 := Aside0.mk (Kd.R_below (zR HO567) hb)
               replace HO570 := Aside0.mk (Kd.R_below (zR HO570) hb)
               replace HO573 := Aside0.mk (Kd.R_below (zR HO573) hb)
               replace HO582 := Aside0.mk (Kd.R_below (zR HO582) hb)
               replace HB := Aside0.mk (below_step (zB HB) hb)
               (try clear hb)
               refine hK.out _ _ ⟨HS0_, HS1_, HS2_, HS3_, HS4_, HS5_, HS6_, HS7_⟩ (fun hHeld => ?_)
               clear hK K
               refine zn 36 ?_; refine zp 22 37 HT_ ?_; refine zp 23 38 HT_ ?_; refine zp 24 39 HT_ ?_; refine zp 25 40 HT_ ?_; refine zp 26 41 HT_ ?_; refine zp 27 42 HT_ ?_; refine zt 28 43 HT_ HW_ hHeld ?_; refine zo 29 44 HT_ (fun K hK => ?_)
               refine zg Try.func70 #[.int .u64 2] ?_
               with_reducible refine (intrusionlaw07_ip.calls 2 t590 t591 t592 _ A42.out).mono ?_
               rintro e w69 ⟨rfl, hb⟩
               have HS0_ := (hb.cell (World.block_lt_of_cell? _ _ (hHeld.1))).trans (hHeld.1)
               have HS1_ := (hb.cell (World.block_lt_of_cell? _ _ (hHeld.2.1))).trans (hHeld.2.1)
               have HS2_ := (hb.cell (World.block_lt_of_cell? _ _ (hHeld.2.2.1))).trans (hHeld.2.2.1)
               have HS3_ := (hb.cell (World.block_lt_of_cell? _ _ (hHeld.2.2.2.1))).trans (hHeld.2.2.2.1)
               have HS4_ := (hb.cell (World.block_lt_of_cell? _ _ (hHeld.2.2.2.2.1))).trans (hHeld.2.2.2.2.1)
               have HS5_ := (hb.cell (World.block_lt_of_cell? _ _ (hHeld.2.2.2.2.2.1))).trans (hHeld.2.2.2.2.2.1)
               have HS6_ := (hb.cell (World.block_lt_of_cell? _ _ (hHeld.2.2.2.2.2.2.1))).trans (hHeld.2.2.2.2.2.2.1)
               have HS7_ := (hb.cell (World.block_lt_of_cell? _ _ (hHeld.2.2.2.2.2.2.2))).trans (hHeld.2.2.2.2.2.2.2)
               refine ⟨_, rfl, ?_⟩
               replace HO558 := Aside0.mk (Kd.R_below (zR HO558) hb)
               replace HO567 := Aside0.mk (Kd.R_below (zR HO567) hb)
               replace HO570 := Aside0.mk (Kd.R_below (zR HO570) hb)
               replace HO573 := Aside0.mk (Kd.R_below (zR HO573) hb)
               replace HO582 := Aside0.mk (Kd.R_below (zR HO582) hb)
               replace HB := Aside0.mk (below_step (zB HB) hb)
               (try clear hb)
               refine hK.out _ _ ⟨HS0_, HS1_, HS2_, HS3_, HS4_, HS5_, HS6_, HS7_⟩ (fun hHeld => ?_)
               clear hK K
               refine zn 44 ?_; refine zp 30 45 HT_ ?_; refine zp 31 46 HT_ ?_; refine zp 32 47 HT_ ?_; refine zp 33 48 HT_ ?_; refine zo 34 49 HT_ (fun K hK => ?_)
               refine zg Try.func44 #[] ?_
               with_reducible refine (addrset_All.calls  t593 _ A44.out).mono ?_
               rintro e w70 ⟨v594, rfl, ho0, hb⟩
               have HS0_ := (hb.cell (World.block_lt_of_cell? _ _ (hHeld.1))).trans (hHeld.1)
               have HS1_ := (hb.cell (World.block_lt_of_cell? _ _ (hHeld.2.1))).trans (hHeld.2.1)
               have HS2_ := (hb.cell (World.block_lt_of_cell? _ _ (hHeld.2.2.1))).trans (hHeld.2.2.1)
               have HS3_ := (hb.cell (World.block_lt_of_cell? _ _ (hHeld.2.2.2.1))).trans (hHeld.2.2.2.1)
               have HS4_ := (hb.cell (World.block_lt_of_cell? _ _ (hHeld.2.2.2.2.1))).trans (hHeld.2.2.2.2.1)
               have HS5_ := (hb.cell (World.block_lt_of_cell? _ _ (hHeld.2.2.2.2.2.1))).trans (hHeld.2.2.2.2.2.1)
               have HS6_ := (hb.cell (World.block_lt_of_cell? _ _ (hHeld.2.2.2.2.2.2.1))).trans (hHeld.2.2.2.2.2.2.1)
               have HS7_ := (hb.cell (World.block_lt_of_cell? _ _ (hHeld.2.2.2.2.2.2.2))).trans (hHeld.2.2.2.2.2.2.2)
               refine ⟨_, rfl, ?_⟩
               replace HO570 := Aside0.mk (Kd.R_below (zR HO570) hb)
               have HO595 := Aside0.mk (Kd.R_lower (Kd.R_new' (Kd.R_new' (Kd.R_new' (Kd.R_new' ho0 (Kd.R_lt (zR HO558))) (Kd.R_lt (zR HO567))) (Kd.R_lt (zR HO573))) (Kd.R_lt (zR HO582))) (below_size (zB HB)))
               replace HO558 := Aside0.mk (Kd.R_elder' (zR HO558) (Kd.R_base ho0) hb)
               replace HO567 := Aside0.mk (Kd.R_elder' (zR HO567) (Kd.R_base ho0) hb)
               replace HO573 := Aside0.mk (Kd.R_elder' (zR HO573) (Kd.R_base ho0) hb)
               replace HO582 := Aside0.mk (Kd.R_elder' (zR HO582) (Kd.R_base ho0) hb)
               replace HB := Aside0.mk (below_step (zB HB) hb)
               (try clear hb)
               (try clear ho0)
               obtain ⟨Ao71, co71, eo71⟩ := Kd.R_slice HO595.out
               (first | subst eo71 | (injection eo71 with f1_ f2_ f3_; have f4_ := f1_.symm; have f5_ := f3_.symm; clear f1_ f2_ f3_; subst f4_; subst f5_))
               refine hK.out _ _ ⟨HS0_, HS1_, HS2_, HS3_, HS4_, HS5_, HS6_, HS7_⟩ (fun hHeld => ?_)
               clear hK K
               refine zn 49 ?_; refine zp 35 50 HT_ ?_; refine zp 36 51 HT_ ?_; refine zp 37 52 HT_ ?_; refine zp 38 0 HT_ ?_; refine zd HT_ ?_
               try go_wp2
               go_ret
               exact ⟨by first | rfl | (simp [errW_none, errW_some] <;> rfl) | (simp [*, errW_none, errW_some] <;> rfl), by repeat (first | (with_reducible first | exact HB.out | apply below_alloc | apply pw_below_drewN | apply below_drew1) | exact HB.out)⟩
             · rw [if_neg c43] at H
               have c43b0 : ((((rd_T45 t568 1).f0.f0) == t590 && (((rd_T45 t568 1).f0.f1) == t591 && (((rd_T45 t568 1).f0.f2) == t592))) && (((rd_T45 t568 1).f1) == 31)) = false := by simpa using c43
               clear c43
               obtain rfl := Option.some.inj H
               go_enter Try.func36, Try.ntmps36
               try go_wp2_with (first | ((with_reducible refine gate_callee (f := 70) rfl ?_); refine goesL_ (some 3) rfl rfl Try.func70 (by kernel_rfl) rfl #[.int .u64 2] rfl (by (try simp only [List.map_toArray, List.map_cons, List.map_nil]); first | done | rfl | (simp only [List.length_drop, List.length_take]; rfl)) ?_; (with_reducible refine (intrusionlaw07_ip.calls 2 t544 t545 t546 _ A1.out).mono ?_); rintro e w72 ⟨rfl, hb⟩; refine ⟨_, rfl, ?_⟩; replace HB := Aside0.mk (below_step (zB HB) hb); (try clear hb)) | ((with_reducible refine gate_callee (f := 70) rfl ?_); refine goesL_ (some 4) rfl rfl Try.func70 (by kernel_rfl) rfl #[.int .u64 3] rfl (by (try simp only [List.map_toArray, List.map_cons, List.map_nil]); first | done | rfl | (simp only [List.length_drop, List.length_take]; rfl)) ?_; (with_reducible refine (intrusionlaw07_ip.calls 3 t547 t548 t549 _ A2.out).mono ?_); rintro e w73 ⟨rfl, hb⟩; refine ⟨_, rfl, ?_⟩; replace HB := Aside0.mk (below_step (zB HB) hb); (try clear hb)) | ((with_reducible refine gate_callee (f := 70) rfl ?_); refine goesL_ (some 6) rfl rfl Try.func70 (by kernel_rfl) rfl #[.int .u64 1] rfl (by (try simp only [List.map_toArray, List.map_cons, List.map_nil]); first | done | rfl | (simp only [List.length_drop, List.length_take]; rfl)) ?_; (with_reducible refine (intrusionlaw07_ip.calls 1 t550 t551 t552 _ A3.out).mono ?_); rintro e w74 ⟨rfl, hb⟩; refine ⟨_, rfl, ?_⟩; replace HB := Aside0.mk (below_step (zB HB) hb); (try clear hb)) | ((with_reducible refine gate_callee (f := 70) rfl ?_); refine goesL_ (some 7) rfl rfl Try.func70 (by kernel_rfl) rfl #[.int .u64 1] rfl (by (try simp only [List.map_toArray, List.map_cons, List.map_nil]); first | done | rfl | (simp only [List.length_drop, List.length_take]; rfl)) ?_; (with_reducible refine (intrusionlaw07_ip.calls 1 t553 t554 t555 _ A4.out).mono ?_); rintro e w75 ⟨rfl, hb⟩; refine ⟨_, rfl, ?_⟩; replace HB := Aside0.mk (below_step (zB HB) hb); (try clear hb)) | ((with_reducible refine gate_dst (N := 9) rfl ?_); (try (refine gate_guard (by rfl) ?_; dsimp only)); refine Kd.R_lit k66 _ 66 ?hg (N := 9) ?hd (xs := ([(⟨(⟨t544, t545, t546⟩ : S36), (⟨t547, t548, t549⟩ : S36)⟩ : S66), (⟨(⟨t550, t551, t552⟩ : S36), (⟨t553, t554, t555⟩ : S36)⟩ : S66)] : List (S66))) (inner := [.bool t544, .int .u64 t545, .int .u64 t546, .bool t547, .int .u64 t548, .int .u64 t549, .bool t550, .int .u64 t551, .int .u64 t552, .bool t553, .int .u64 t554, .int .u64 t555]) (ok := fun _ => True) (okp := fun _ => True) ?hr ?hp (fun _ hk => hk) trivial (Below.refl _ _) (Nat.le_refl _) (by simp) ?_; (case hd => rfl); (case hg => rfl); (case hr => first | (go_simp; done) | (go_simp; rfl)); (case hp => exact (Reps.c6 (show Kd.M k66 _ _ _ (⟨(⟨t544, t545, t546⟩ : S36), (⟨t547, t548, t549⟩ : S36)⟩ : S66) [.bool t544, .int .u64 t545, .int .u64 t546, .bool t547, .int .u64 t548, .int .u64 t549] from (k66_mkM _ _ _ (⟨(⟨t544, t545, t546⟩ : S36), (⟨t547, t548, t549⟩ : S36)⟩ : S66) )) (Reps.c6 (show Kd.M k66 _ _ _ (⟨(⟨t550, t551, t552⟩ : S36), (⟨t553, t554, t555⟩ : S36)⟩ : S66) [.bool t550, .int .u64 t551, .int .u64 t552, .bool t553, .int .u64 t554, .int .u64 t555] from (k66_mkM _ _ _ (⟨(⟨t550, t551, t552⟩ : S36), (⟨t553, t554, t555⟩ : S36)⟩ : S66) )) (Reps.none _ _)))); intro v557 w76 ho77 hb hg_ hnew_; clear hg_ hnew_; (first | rw [← Ny556.out] at ho77 | (simp only [Int.reduceToNat] at ho77; rw [← Ny556.out] at ho77)); have HO558 := Aside0.mk (Kd.R_lower ho77 (below_size (zB HB))); replace HB := Aside0.mk (below_step (zB HB) hb); clear hb ho77) | ((with_reducible refine gate_callee (f := 70) rfl ?_); refine goesL_ (some 10) rfl rfl Try.func70 (by kernel_rfl) rfl #[.int .u64 1] rfl (by (try simp only [List.map_toArray, List.map_cons, List.map_nil]); first | done | rfl | (simp only [List.length_drop, List.length_take]; rfl)) ?_; (with_reducible refine (intrusionlaw07_ip.calls 1 t559 t560 t561 _ A5.out).mono ?_); rintro e w78 ⟨rfl, hb⟩; refine ⟨_, rfl, ?_⟩; replace HO558 := Aside0.mk (Kd.R_below (zR HO558) hb); replace HB := Aside0.mk (below_step (zB HB) hb); (try clear hb)) | ((with_reducible refine gate_callee (f := 70) rfl ?_); refine goesL_ (some 11) rfl rfl Try.func70 (by kernel_rfl) rfl #[.int .u64 4] rfl (by (try simp only [List.map_toArray, List.map_cons, List.map_nil]); first | done | rfl | (simp only [List.length_drop, List.length_take]; rfl)) ?_; (with_reducible refine (intrusionlaw07_ip.calls 4 t562 t563 t564 _ A6.out).mono ?_); rintro e w79 ⟨rfl, hb⟩; refine ⟨_, rfl, ?_⟩; replace HO558 := Aside0.mk (Kd.R_below (zR HO558) hb); replace HB := Aside0.mk (below_step (zB HB) hb); (try clear hb)) | ((with_reducible refine gate_dst (N := 13) rfl ?_); (try (refine gate_guard (by rfl) ?_; dsimp only)); refine Kd.R_lit k66 _ 66 ?hg (N := 13) ?hd (xs := ([(⟨(⟨t559, t560, t561⟩ : S36), (⟨t562, t563, t564⟩ : S36)⟩ : S66)] : List (S66))) (inner := [.bool t559, .int .u64 t560, .int .u64 t561, .bool t562, .int .u64 t563, .int .u64 t564]) (ok := fun _ => True) (okp := fun _ => True) ?hr ?hp (fun _ hk => hk) trivial (Below.refl _ _) (Nat.le_refl _) (by simp) ?_; (case hd => rfl); (case hg => rfl); (case hr => first | (go_simp; done) | (go_simp; rfl)); (case hp => exact (Reps.c6 (show Kd.M k66 _ _ _ (⟨(⟨t559, t560, t561⟩ : S36), (⟨t562, t563, t564⟩ : S36)⟩ : S66) [.bool t559, .int .u64 t560, .int .u64 t561, .bool t562, .int .u64 t563, .int .u64 t564] from (k66_mkM _ _ _ (⟨(⟨t559, t560, t561⟩ : S36), (⟨t562, t563, t564⟩ : S36)⟩ : S66) )) (Reps.none _ _))); intro v566 w80 ho81 hb hg_ hnew_; clear hg_ hnew_; (first | rw [← Ny565.out] at ho81 | (simp only [Int.reduceToNat] at ho81; rw [← Ny565.out] at ho81)); have HO567 := Aside0.mk (Kd.R_lower (Kd.R_new' ho81 (Kd.R_lt (zR HO558))) (below_size (zB HB))); replace HO558 := Aside0.mk (Kd.R_elder' (zR HO558) (Kd.R_base ho81) hb); replace HB := Aside0.mk (below_step (zB HB) hb); clear hb ho81; obtain ⟨Ao82, co82, eo82⟩ := Kd.R_slice HO567.out; subst eo82) | ((with_reducible refine gate_callee (f := 46) rfl ?_); refine goesL_ (some 14) rfl rfl Try.func46 (by kernel_rfl) rfl #[.slice Ao82 y565.length co82] rfl (by (try simp only [List.map_toArray, List.map_cons, List.map_nil]); first | done | rfl | (simp only [List.length_drop, List.length_take]; rfl)) ?_; (with_reducible refine (addrset_Prefixes.calls k _ _ y565 t568 _ ?side1 ?side2 A7.out).mono ?_); (case side1 => repeat (first | exact (Kd.R_reads' HO567.out).2.2 | (with_reducible refine Kd.C_alloc ?_ _) | (with_reducible refine Kd.C_drewN ?_ _) | (with_reducible refine Kd.C_drew ?_))); (case side2 => exact (Kd.R_reads' HO567.out).2.1); rintro e w83 ⟨v569, rfl, ho0, hb⟩; refine ⟨_, rfl, ?_⟩; replace HO558 := Aside0.mk (Kd.R_below (zR HO558) hb); replace HO567 := Aside0.mk (Kd.R_below (zR HO567) hb); have HO570 := Aside0.mk (Kd.R_lower ho0 (below_size (zB HB))); replace HB := Aside0.mk (below_step (zB HB) hb); (try clear hb); (try clear ho0)))
               replace HO558 := Aside0.mk (Kd.R_drew HO558.out)
               replace HO567 := Aside0.mk (Kd.R_drew HO567.out)
               replace HO570 := Aside0.mk (Kd.R_drew HO570.out)
               replace HB := Aside0.mk (below_drew1 HB.out)
               obtain ⟨Ao85, co85, eo85⟩ := Kd.R_slice HO558.out
               (first | subst eo85 | (injection eo85 with f1_ f2_ f3_; have f4_ := f1_.symm; have f5_ := f3_.symm; clear f1_ f2_ f3_; subst f4_; subst f5_))
               have p585 : 0 ≤ (0 : Int) := (by omega)
               have q585 : 0 < (t568.length : Int) := za
               (try (obtain ⟨Ax_, cx_, ex_⟩ := Kd.R_slice HO570.out; subst ex_))
               obtain ⟨ad585, e585, hx585_0, hx585_1, hx585_2, hx585_3⟩ := at_T45 (Kd.R_reads' HO570.out).2.2 0 p585 q585
               cases e585
               have qi585 : (0 < t568.length) = True := eq_true (by omega)
               (try rw [show ((0 : Int)).toNat = 0 from rfl] at hx585_0)
               (try rw [show 0 * 4 = 0 from rfl] at hx585_0)
               (try rw [Addr.add_zero'] at hx585_0)
               (try rw [show ((0 : Int)).toNat = 0 from rfl] at hx585_1)
               (try rw [show 0 * 4 = 0 from rfl] at hx585_1)
               (try rw [Addr.add_zero'] at hx585_1)
               (try rw [show ((0 : Int)).toNat = 0 from rfl] at hx585_2)
               (try rw [show 0 * 4 = 0 from rfl] at hx585_2)
               (try rw [Addr.add_zero'] at hx585_2)
               (try rw [show ((0 : Int)).toNat = 0 from rfl] at hx585_3)
               (try rw [show 0 * 4 = 0 from rfl] at hx585_3)
               (try rw [Addr.add_zero'] at hx585_3)
               replace p585 := eq_true p585
               replace q585 := eq_true q585
               have p589 : 0 ≤ (1 : Int) := (by omega)
               have q589 : 1 < (t568.length : Int) := za
               obtain ⟨ad589, e589, hx589_0, hx589_1, hx589_2, hx589_3⟩ := at_T45 (Kd.R_reads' HO570.out).2.2 1 p589 q589
               obtain rfl : ad585 = ad589 := (by injection e589)
               (try simp only [show (1 : Int).toNat = 1 from rfl, Nat.reduceMul, Nat.reduceEqDiff, Go.Addr.add, ↓reduceIte] at hx589_0)
               (try simp only [show (1 : Int).toNat = 1 from rfl, Nat.reduceMul, Nat.reduceEqDiff, Go.Addr.add, ↓reduceIte] at hx589_1)
               (try simp only [show (1 : Int).toNat = 1 from rfl, Nat.reduceMul, Nat.reduceEqDiff, Go.Addr.add, ↓reduceIte] at hx589_2)
               (try simp only [show (1 : Int).toNat = 1 from rfl, Nat.reduceMul, Nat.reduceEqDiff, Go.Addr.add, ↓reduceIte] at hx589_3)
               have qi589 : (1 < t568.length) = True := eq_true (by omega)
               (try rw [show ((1 : Int)).toNat = 1 from rfl] at hx589_0)
               (try rw [show 1 * 4 = 4 from rfl] at hx589_0)
               (try rw [show ((1 : Int)).toNat = 1 from rfl] at hx589_1)
               (try rw [show 1 * 4 = 4 from rfl] at hx589_1)
               (try rw [show ((1 : Int)).toNat = 1 from rfl] at hx589_2)
               (try rw [show 1 * 4 = 4 from rfl] at hx589_2)
               (try rw [show ((1 : Int)).toNat = 1 from rfl] at hx589_3)
               (try rw [show 1 * 4 = 4 from rfl] at hx589_3)
               replace p589 := eq_true p589
               replace q589 := eq_true q589
               refine start_ (n := 39) (S := fun w' => w'.cell? ad585 = some (.bool ((rd_T45 t568 0).f0.f0)) ∧ w'.cell? ⟨ad585.block, ad585.off + 1, none⟩ = some (.int .u64 ((rd_T45 t568 0).f0.f1)) ∧ w'.cell? ⟨ad585.block, ad585.off + 2, none⟩ = some (.int .u64 ((rd_T45 t568 0).f0.f2)) ∧ w'.cell? ⟨ad585.block, ad585.off + 3, none⟩ = some (.int .i64 ((rd_T45 t568 0).f1)) ∧ w'.cell? ⟨ad585.block, ad585.off + 4, none⟩ = some (.bool ((rd_T45 t568 1).f0.f0)) ∧ w'.cell? ⟨ad585.block, ad585.off + 4 + 1, none⟩ = some (.int .u64 ((rd_T45 t568 1).f0.f1)) ∧ w'.cell? ⟨ad585.block, ad585.off + 4 + 2, none⟩ = some (.int .u64 ((rd_T45 t568 1).f0.f2)) ∧ w'.cell? ⟨ad585.block, ad585.off + 4 + 3, none⟩ = some (.int .i64 ((rd_T45 t568 1).f1))) (ds := []) #[false, false, false, false, false, false, false, false, false, false, false, false, false, false, false, false, false, false, false, false, false, false, false, false, false, false, false, false, false, false, false, false, false, false, false, false, false, false, false] (by kernel_rfl) rfl rfl ⟨hx585_0, hx585_1, hx585_2, hx585_3, hx589_0, hx589_1, hx589_2, hx589_3⟩ (fun hHeld => ?_); refine with_tabW intrusionlaw07_awake.tab3 intrusionlaw07_awake.bits3 (fun HT_ HW_ => ?_)
               generalize w83.drew = w84 at HO558 HO567 HO570 HB hx585_0 hx585_1 hx585_2 hx585_3 hx589_0 hx589_1 hx589_2 hx589_3 hHeld ⊢
               refine zp 0 15 HT_ ?_; refine zo 1 16 HT_ (fun K hK => ?_)
               refine zg Try.func38 #[.slice Ao85 y556.length co85] ?_
               with_reducible refine (addrset_Normal.calls k _ _ y556 t571 _ ?side1 ?side2 A8.out).mono ?_
               (case side1 => repeat (first | exact (Kd.R_reads' HO558.out).2.2 | (with_reducible refine Kd.C_alloc ?_ _) | (with_reducible refine Kd.C_drewN ?_ _) | (with_reducible refine Kd.C_drew ?_)))
               (case side2 => exact (Kd.R_reads' HO558.out).2.1)
               rintro e w86 ⟨v572, rfl, ho0, hb⟩
               have HS0_ := (hb.cell (World.block_lt_of_cell? _ _ (hHeld.1))).trans (hHeld.1)
               have HS1_ := (hb.cell (World.block_lt_of_cell? _ _ (hHeld.2.1))).trans (hHeld.2.1)
               have HS2_ := (hb.cell (World.block_lt_of_cell? _ _ (hHeld.2.2.1))).trans (hHeld.2.2.1)
               have HS3_ := (hb.cell (World.block_lt_of_cell? _ _ (hHeld.2.2.2.1))).trans (hHeld.2.2.2.1)
               have HS4_ := (hb.cell (World.block_lt_of_cell? _ _ (hHeld.2.2.2.2.1))).trans (hHeld.2.2.2.2.1)
               have HS5_ := (hb.cell (World.block_lt_of_cell? _ _ (hHeld.2.2.2.2.2.1))).trans (hHeld.2.2.2.2.2.1)
               have HS6_ := (hb.cell (World.block_lt_of_cell? _ _ (hHeld.2.2.2.2.2.2.1))).trans (hHeld.2.2.2.2.2.2.1)
               have HS7_ := (hb.cell (World.block_lt_of_cell? _ _ (hHeld.2.2.2.2.2.2.2))).trans (hHeld.2.2.2.2.2.2.2)
               refine ⟨_, rfl, ?_⟩
               replace HO570 := Aside0.mk (Kd.R_below (zR HO570) hb)
               have HO573 := Aside0.mk (Kd.R_lower (Kd.R_new' (Kd.R_new' ho0 (Kd.R_lt (zR HO558))) (Kd.R_lt (zR HO567))) (below_size (zB HB)))
               replace HO558 := Aside0.mk (Kd.R_elder' (zR HO558) (Kd.R_base ho0) hb)
               replace HO567 := Aside0.mk (Kd.R_elder' (zR HO567) (Kd.R_base ho0) hb)
               replace HB := Aside0.mk (below_step (zB HB) hb)
               (try clear hb)
               (try clear ho0)
               refine hK.out _ _ ⟨HS0_, HS1_, HS2_, HS3_, HS4_, HS5_, HS6_, HS7_⟩ (fun hHeld => ?_)
               clear hK K
               refine zn 16 ?_; refine zo 2 17 HT_ (fun K hK => ?_)
               refine zg Try.func70 #[.int .u64 1] ?_
               with_reducible refine (intrusionlaw07_ip.calls 1 t574 t575 t576 _ A9.out).mono ?_
               rintro e w87 ⟨rfl, hb⟩
               have HS0_ := (hb.cell (World.block_lt_of_cell? _ _ (hHeld.1))).trans (hHeld.1)
               have HS1_ := (hb.cell (World.block_lt_of_cell? _ _ (hHeld.2.1))).trans (hHeld.2.1)
               have HS2_ := (hb.cell (World.block_lt_of_cell? _ _ (hHeld.2.2.1))).trans (hHeld.2.2.1)
               have HS3_ := (hb.cell (World.block_lt_of_cell? _ _ (hHeld.2.2.2.1))).trans (hHeld.2.2.2.1)
               have HS4_ := (hb.cell (World.block_lt_of_cell? _ _ (hHeld.2.2.2.2.1))).trans (hHeld.2.2.2.2.1)
               have HS5_ := (hb.cell (World.block_lt_of_cell? _ _ (hHeld.2.2.2.2.2.1))).trans (hHeld.2.2.2.2.2.1)
               have HS6_ := (hb.cell (World.block_lt_of_cell? _ _ (hHeld.2.2.2.2.2.2.1))).trans (hHeld.2.2.2.2.2.2.1)
               have HS7_ := (hb.cell (World.block_lt_of_cell? _ _ (hHeld.2.2.2.2.2.2.2))).trans (hHeld.2.2.2.2.2.2.2)
               refine ⟨_, rfl, ?_⟩
               replace HO558 := Aside0.mk (Kd.R_below (zR HO558) hb)
               replace HO567 := Aside0.mk (Kd.R_below (zR HO567) hb)
               replace HO570 := Aside0.mk (Kd.R_below (zR HO570) hb)
               replace HO573 := Aside0.mk (Kd.R_below (zR HO573) hb)
               replace HB := Aside0.mk (below_step (zB HB) hb)
               (try clear hb)
               refine hK.out _ _ ⟨HS0_, HS1_, HS2_, HS3_, HS4_, HS5_, HS6_, HS7_⟩ (fun hHeld => ?_)
               clear hK K
               refine zn 17 ?_; refine zo 3 18 HT_ (fun K hK => ?_)
               refine zg Try.func70 #[.int .u64 3] ?_
               with_reducible refine (intrusionlaw07_ip.calls 3 t577 t578 t579 _ A10.out).mono ?_
               rintro e w88 ⟨rfl, hb⟩
               have HS0_ := (hb.cell (World.block_lt_of_cell? _ _ (hHeld.1))).trans (hHeld.1)
               have HS1_ := (hb.cell (World.block_lt_of_cell? _ _ (hHeld.2.1))).trans (hHeld.2.1)
               have HS2_ := (hb.cell (World.block_lt_of_cell? _ _ (hHeld.2.2.1))).trans (hHeld.2.2.1)
               have HS3_ := (hb.cell (World.block_lt_of_cell? _ _ (hHeld.2.2.2.1))).trans (hHeld.2.2.2.1)
               have HS4_ := (hb.cell (World.block_lt_of_cell? _ _ (hHeld.2.2.2.2.1))).trans (hHeld.2.2.2.2.1)
               have HS5_ := (hb.cell (World.block_lt_of_cell? _ _ (hHeld.2.2.2.2.2.1))).trans (hHeld.2.2.2.2.2.1)
               have HS6_ := (hb.cell (World.block_lt_of_cell? _ _ (hHeld.2.2.2.2.2.2.1))).trans (hHeld.2.2.2.2.2.2.1)
               have HS7_ := (hb.cell (World.block_lt_of_cell? _ _ (hHeld.2.2.2.2.2.2.2))).trans (hHeld.2.2.2.2.2.2.2)
               refine ⟨_, rfl, ?_⟩
               replace HO558 := Aside0.mk (Kd.R_below (zR HO558) hb)
               replace HO567 := Aside0.mk (Kd.R_below (zR HO567) hb)
               replace HO570 := Aside0.mk (Kd.R_below (zR HO570) hb)
               replace HO573 := Aside0.mk (Kd.R_below (zR HO573) hb)
               replace HB := Aside0.mk (below_step (zB HB) hb)
               (try clear hb)
               refine hK.out _ _ ⟨HS0_, HS1_, HS2_, HS3_, HS4_, HS5_, HS6_, HS7_⟩ (fun hHeld => ?_)
               clear hK K
               refine zn 18 ?_; refine zp 4 19 HT_ ?_; refine zo 5 20 HT_ (fun K hK => ?_)
               refine Kd.R_lit_step k66 _ 66 ?hg (N := 20) ?hd (xs := ([(⟨(⟨t574, t575, t576⟩ : S36), (⟨t577, t578, t579⟩ : S36)⟩ : S66)] : List (S66))) (inner := [.bool t574, .int .u64 t575, .int .u64 t576, .bool t577, .int .u64 t578, .int .u64 t579]) (ok := fun _ => True) (okp := fun _ => True) ?hr ?hp (fun _ hk => hk) trivial (Below.refl _ _) (Nat.le_refl _) (by simp) ?_; (case hd => rfl); (case hg => rfl); (case hr => first | (go_simp; done) | (go_simp; rfl)); (case hp => exact (Reps.c6 (show Kd.M k66 _ _ _ (⟨(⟨t574, t575, t576⟩ : S36), (⟨t577, t578, t579⟩ : S36)⟩ : S66) [.bool t574, .int .u64 t575, .int .u64 t576, .bool t577, .int .u64 t578, .int .u64 t579] from (k66_mkM _ _ _ (⟨(⟨t574, t575, t576⟩ : S36), (⟨t577, t578, t579⟩ : S36)⟩ : S66) )) (Reps.none _ _)))
               intro v581 w89 ho90 hb hg_ hnew_
               have HS0_ := (hb.cell (World.block_lt_of_cell? _ _ (hHeld.1))).trans (hHeld.1)
               have HS1_ := (hb.cell (World.block_lt_of_cell? _ _ (hHeld.2.1))).trans (hHeld.2.1)
               have HS2_ := (hb.cell (World.block_lt_of_cell? _ _ (hHeld.2.2.1))).trans (hHeld.2.2.1)
               have HS3_ := (hb.cell (World.block_lt_of_cell? _ _ (hHeld.2.2.2.1))).trans (hHeld.2.2.2.1)
               have HS4_ := (hb.cell (World.block_lt_of_cell? _ _ (hHeld.2.2.2.2.1))).trans (hHeld.2.2.2.2.1)
               have HS5_ := (hb.cell (World.block_lt_of_cell? _ _ (hHeld.2.2.2.2.2.1))).trans (hHeld.2.2.2.2.2.1)
               have HS6_ := (hb.cell (World.block_lt_of_cell? _ _ (hHeld.2.2.2.2.2.2.1))).trans (hHeld.2.2.2.2.2.2.1)
               have HS7_ := (hb.cell (World.block_lt_of_cell? _ _ (hHeld.2.2.2.2.2.2.2))).trans (hHeld.2.2.2.2.2.2.2)
               clear hg_ hnew_
               (first | rw [← Ny580.out] at ho90 | (simp only [Int.reduceToNat] at ho90; rw [← Ny580.out] at ho90))
               replace HO570 := Aside0.mk (Kd.R_below (zR HO570) hb)
               have HO582 := Aside0.mk (Kd.R_lower (Kd.R_new' (Kd.R_new' (Kd.R_new' ho90 (Kd.R_lt (zR HO558))) (Kd.R_lt (zR HO567))) (Kd.R_lt (zR HO573))) (below_size (zB HB)))
               replace HO558 := Aside0.mk (Kd.R_elder' (zR HO558) (Kd.R_base ho90) hb)
               replace HO567 := Aside0.mk (Kd.R_elder' (zR HO567) (Kd.R_base ho90) hb)
               replace HO573 := Aside0.mk (Kd.R_elder' (zR HO573) (Kd.R_base ho90) hb)
               replace HB := Aside0.mk (below_step (zB HB) hb)
               clear hb ho90
               obtain ⟨Ao91, co91, eo91⟩ := Kd.R_slice HO573.out
               (first | subst eo91 | (injection eo91 with f1_ f2_ f3_; have f4_ := f1_.symm; have f5_ := f3_.symm; clear f1_ f2_ f3_; subst f4_; subst f5_))
               obtain ⟨Ao92, co92, eo92⟩ := Kd.R_slice HO582.out
               (first | subst eo92 | (injection eo92 with f1_ f2_ f3_; have f4_ := f1_.symm; have f5_ := f3_.symm; clear f1_ f2_ f3_; subst f4_; subst f5_))
               refine hK.out _ _ ⟨HS0_, HS1_, HS2_, HS3_, HS4_, HS5_, HS6_, HS7_⟩ (fun hHeld => ?_)
               clear hK K
               refine zn 20 ?_; refine zo 6 21 HT_ (fun K hK => ?_)
               refine zg Try.func37 #[.slice Ao91 t571.length co91, .slice Ao92 y580.length co92] ?_
               with_reducible refine (intrusionref07_Same.calls k _ _ t571 _ _ y580 true _ ?side1 ?side2 ?side3 ?side4 A11.out).mono ?_
               (case side1 => repeat (first | exact (Kd.R_reads' HO573.out).2.2 | (with_reducible refine Kd.C_alloc ?_ _) | (with_reducible refine Kd.C_drewN ?_ _) | (with_reducible refine Kd.C_drew ?_)))
               (case side2 => exact (Kd.R_reads' HO573.out).2.1)
               (case side3 => repeat (first | exact (Kd.R_reads' HO582.out).2.2 | (with_reducible refine Kd.C_alloc ?_ _) | (with_reducible refine Kd.C_drewN ?_ _) | (with_reducible refine Kd.C_drew ?_)))
               (case side4 => exact (Kd.R_reads' HO582.out).2.1)
               rintro e w' ⟨rfl, ⟨nd, rfl⟩⟩
               refine ⟨_, rfl, ?_⟩
               refine hK.out _ _ ⟨hHeld.1, hHeld.2.1, hHeld.2.2.1, hHeld.2.2.2.1, hHeld.2.2.2.2.1, hHeld.2.2.2.2.2.1, hHeld.2.2.2.2.2.2.1, hHeld.2.2.2.2.2.2.2⟩ (fun hHeld => ?_)
               clear hK K
               refine zn 21 ?_; refine zp 7 22 HT_ ?_; refine zp 8 23 HT_ ?_; refine zo 9 24 HT_ (fun K hK => ?_)
               refine zg Try.func40 #[.slice Ao85 y556.length co85] ?_
               with_reducible refine (addrset_Valid.calls k _ _ y556 false _ ?side1 ?side2 A13.out).mono ?_
               (case side1 => repeat (first | exact (Kd.R_reads' HO558.out).2.2 | (with_reducible refine Kd.C_alloc ?_ _) | (with_reducible refine Kd.C_drewN ?_ _) | (with_reducible refine Kd.C_drew ?_)))
               (case side2 => exact (Kd.R_reads' HO558.out).2.1)
               rintro e w93 ⟨rfl, hb⟩
               have HS0_ := (hb.cell (World.block_lt_of_cell? _ _ (hHeld.1))).trans (hHeld.1)
               have HS1_ := (hb.cell (World.block_lt_of_cell? _ _ (hHeld.2.1))).trans (hHeld.2.1)
               have HS2_ := (hb.cell (World.block_lt_of_cell? _ _ (hHeld.2.2.1))).trans (hHeld.2.2.1)
               have HS3_ := (hb.cell (World.block_lt_of_cell? _ _ (hHeld.2.2.2.1))).trans (hHeld.2.2.2.1)
               have HS4_ := (hb.cell (World.block_lt_of_cell? _ _ (hHeld.2.2.2.2.1))).trans (hHeld.2.2.2.2.1)
               have HS5_ := (hb.cell (World.block_lt_of_cell? _ _ (hHeld.2.2.2.2.2.1))).trans (hHeld.2.2.2.2.2.1)
               have HS6_ := (hb.cell (World.block_lt_of_cell? _ _ (hHeld.2.2.2.2.2.2.1))).trans (hHeld.2.2.2.2.2.2.1)
               have HS7_ := (hb.cell (World.block_lt_of_cell? _ _ (hHeld.2.2.2.2.2.2.2))).trans (hHeld.2.2.2.2.2.2.2)
               refine ⟨_, rfl, ?_⟩
               replace HO558 := Aside0.mk (Kd.R_below (zR HO558) hb)
               replace HO567 := Aside0.mk (Kd.R_below (zR HO567) hb)
               replace HO570 := Aside0.mk (Kd.R_below (zR HO570) hb)
               replace HO573 := Aside0.mk (Kd.R_below (zR HO573) hb)
               replace HO582 := Aside0.mk (Kd.R_below (zR HO582) hb)
               replace HB := Aside0.mk (below_step (zB HB) hb)
               (try clear hb)
               obtain ⟨Ao94, co94, eo94⟩ := Kd.R_slice HO570.out
               (first | subst eo94 | (injection eo94 with f1_ f2_ f3_; have f4_ := f1_.symm; have f5_ := f3_.symm; clear f1_ f2_ f3_; subst f4_; subst f5_))
               refine hK.out _ _ ⟨HS0_, HS1_, HS2_, HS3_, HS4_, HS5_, HS6_, HS7_⟩ (fun hHeld => ?_)
               clear hK K
               refine zn 24 ?_; refine zp 10 25 HT_ ?_; refine zp 11 26 HT_ ?_; refine zp 12 27 HT_ ?_; refine zp 13 28 HT_ ?_; refine zp 14 29 HT_ ?_; refine zp 15 30 HT_ ?_; refine zp 16 31 HT_ ?_; refine zp 17 32 HT_ ?_; refine zp 18 33 HT_ ?_; refine zp 19 34 HT_ ?_; refine zt 20 35 HT_ HW_ hHeld ?_; refine zo 21 36 HT_ (fun K hK => ?_)
               refine zg Try.func70 #[.int .u64 1] ?_
               with_reducible refine (intrusionlaw07_ip.calls 1 t586 t587 t588 _ A39.out).mono ?_
               rintro e w95 ⟨rfl, hb⟩
               have HS0_ := (hb.cell (World.block_lt_of_cell? _ _ (hHeld.1))).trans (hHeld.1)
               have HS1_ := (hb.cell (World.block_lt_of_cell? _ _ (hHeld.2.1))).trans (hHeld.2.1)
               have HS2_ := (hb.cell (World.block_lt_of_cell? _ _ (hHeld.2.2.1))).trans (hHeld.2.2.1)
               have HS3_ := (hb.cell (World.block_lt_of_cell? _ _ (hHeld.2.2.2.1))).trans (hHeld.2.2.2.1)
               have HS4_ := (hb.cell (World.block_lt_of_cell? _ _ (hHeld.2.2.2.2.1))).trans (hHeld.2.2.2.2.1)
               have HS5_ := (hb.cell (World.block_lt_of_cell? _ _ (hHeld.2.2.2.2.2.1))).trans (hHeld.2.2.2.2.2.1)
               have HS6_ := (hb.cell (World.block_lt_of_cell? _ _ (hHeld.2.2.2.2.2.2.1))).trans (hHeld.2.2.2.2.2.2.1)
               have HS7_ := (hb.cell (World.block_lt_of_cell? _ _ (hHeld.2.2.2.2.2.2.2))).trans (hHeld.2.2.2.2.2.2.2)
               refine ⟨_, rfl, ?_⟩
               replace HO558 := Aside0.mk (Kd.R_below (zR HO558) hb)
               replace HO567 := Aside0.mk (Kd.R_below (zR HO567) hb)
               replace HO570 := Aside0.mk (Kd.R_below (zR HO570) hb)
               replace HO573 := Aside0.mk (Kd.R_below (zR HO573) hb)
               replace HO582 := Aside0.mk (Kd.R_below (zR HO582) hb)
               replace HB := Aside0.mk (below_step (zB HB) hb)
               (try clear hb)
               refine hK.out _ _ ⟨HS0_, HS1_, HS2_, HS3_, HS4_, HS5_, HS6_, HS7_⟩ (fun hHeld => ?_)
               clear hK K
               refine zn 36 ?_; refine zp 22 37 HT_ ?_; refine zp 23 38 HT_ ?_; refine zp 24 39 HT_ ?_; refine zp 25 40 HT_ ?_; refine zp 26 41 HT_ ?_; refine zp 27 42 HT_ ?_; refine zt 28 43 HT_ HW_ hHeld ?_; refine zo 29 44 HT_ (fun K hK => ?_)
               refine zg Try.func70 #[.int .u64 2] ?_
               with_reducible refine (intrusionlaw07_ip.calls 2 t590 t591 t592 _ A42.out).mono ?_
               rintro e w96 ⟨rfl, hb⟩
               have HS0_ := (hb.cell (World.block_lt_of_cell? _ _ (hHeld.1))).trans (hHeld.1)
               have HS1_ := (hb.cell (World.block_lt_of_cell? _ _ (hHeld.2.1))).trans (hHeld.2.1)
               have HS2_ := (hb.cell (World.block_lt_of_cell? _ _ (hHeld.2.2.1))).trans (hHeld.2.2.1)
               have HS3_ := (hb.cell (World.block_lt_of_cell? _ _ (hHeld.2.2.2.1))).trans (hHeld.2.2.2.1)
               have HS4_ := (hb.cell (World.block_lt_of_cell? _ _ (hHeld.2.2.2.2.1))).trans (hHeld.2.2.2.2.1)
               have HS5_ := (hb.cell (World.block_lt_of_cell? _ _ (hHeld.2.2.2.2.2.1))).trans (hHeld.2.2.2.2.2.1)
               have HS6_ := (hb.cell (World.block_lt_of_cell? _ _ (hHeld.2.2.2.2.2.2.1))).trans (hHeld.2.2.2.2.2.2.1)
               have HS7_ := (hb.cell (World.block_lt_of_cell? _ _ (hHeld.2.2.2.2.2.2.2))).trans (hHeld.2.2.2.2.2.2.2)
               refine ⟨_, rfl, ?_⟩
               replace HO558 := Aside0.mk (Kd.R_below (zR HO558) hb)
               replace HO567 := Aside0.mk (Kd.R_below (zR HO567) hb)
               replace HO570 := Aside0.mk (Kd.R_below (zR HO570) hb)
               replace HO573 := Aside0.mk (Kd.R_below (zR HO573) hb)
               replace HO582 := Aside0.mk (Kd.R_below (zR HO582) hb)
               replace HB := Aside0.mk (below_step (zB HB) hb)
               (try clear hb)
               refine hK.out _ _ ⟨HS0_, HS1_, HS2_, HS3_, HS4_, HS5_, HS6_, HS7_⟩ (fun hHeld => ?_)
               clear hK K
               refine zn 44 ?_; refine zp 30 45 HT_ ?_; refine zp 31 46 HT_ ?_; refine zp 32 47 HT_ ?_; refine zp 33 48 HT_ ?_; refine zu 34 49 HT_ ?_; refine zu 35 50 HT_ ?_; refine zu 36 51 HT_ ?_; refine zp 37 52 HT_ ?_; refine zp 38 0 HT_ ?_; refine zd HT_ ?_
               try go_wp2
               go_ret
               exact ⟨by first | rfl | (simp [errW_none, errW_some] <;> rfl) | (simp [*, errW_none, errW_some] <;> rfl), by repeat (first | (with_reducible first | exact HB.out | apply below_alloc | apply pw_below_drewN | apply below_drew1) | exact HB.out)⟩
           · rw [if_neg c41] at H
             exact absurd H (by simp)
         · rw [if_neg c40] at H
           have c40b0 : ((((rd_T45 t568 0).f0.f0) == t586 && (((rd_T45 t568 0).f0.f1) == t587 && (((rd_T45 t568 0).f0.f2) == t588))) && (((rd_T45 t568 0).f1) == 32)) = false := by simpa using c40
           clear c40
           obtain rfl := Option.some.inj H
           go_enter Try.func36, Try.ntmps36
           try go_wp2_with (first | ((with_reducible refine gate_callee (f := 70) rfl ?_); refine goesL_ (some 3) rfl rfl Try.func70 (by kernel_rfl) rfl #[.int .u64 2] rfl (by (try simp only [List.map_toArray, List.map_cons, List.map_nil]); first | done | rfl | (simp only [List.length_drop, List.length_take]; rfl)) ?_; (with_reducible refine (intrusionlaw07_ip.calls 2 t544 t545 t546 _ A1.out).mono ?_); rintro e w97 ⟨rfl, hb⟩; refine ⟨_, rfl, ?_⟩; replace HB := Aside0.mk (below_step (zB HB) hb); (try clear hb)) | ((with_reducible refine gate_callee (f := 70) rfl ?_); refine goesL_ (some 4) rfl rfl Try.func70 (by kernel_rfl) rfl #[.int .u64 3] rfl (by (try simp only [List.map_toArray, List.map_cons, List.map_nil]); first | done | rfl | (simp only [List.length_drop, List.length_take]; rfl)) ?_; (with_reducible refine (intrusionlaw07_ip.calls 3 t547 t548 t549 _ A2.out).mono ?_); rintro e w98 ⟨rfl, hb⟩; refine ⟨_, rfl, ?_⟩; replace HB := Aside0.mk (below_step (zB HB) hb); (try clear hb)) | ((with_reducible refine gate_callee (f := 70) rfl ?_); refine goesL_ (some 6) rfl rfl Try.func70 (by kernel_rfl) rfl #[.int .u64 1] rfl (by (try simp only [List.map_toArray, List.map_cons, List.map_nil]); first | done | rfl | (simp only [List.length_drop, List.length_take]; rfl)) ?_; (with_reducible refine (intrusionlaw07_ip.calls 1 t550 t551 t552 _ A3.out).mono ?_); rintro e w99 ⟨rfl, hb⟩; refine ⟨_, rfl, ?_⟩; replace HB := Aside0.mk (below_step (zB HB) hb); (try clear hb)) | ((with_reducible refine gate_callee (f := 70) rfl ?_); refine goesL_ (some 7) rfl rfl Try.func70 (by kernel_rfl) rfl #[.int .u64 1] rfl (by (try simp only [List.map_toArray, List.map_cons, List.map_nil]); first | done | rfl | (simp only [List.length_drop, List.length_take]; rfl)) ?_; (with_reducible refine (intrusionlaw07_ip.calls 1 t553 t554 t555 _ A4.out).mono ?_); rintro e w100 ⟨rfl, hb⟩; refine ⟨_, rfl, ?_⟩; replace HB := Aside0.mk (below_step (zB HB) hb); (try clear hb)) | ((with_reducible refine gate_dst (N := 9) rfl ?_); (try (refine gate_guard (by rfl) ?_; dsimp only)); refine Kd.R_lit k66 _ 66 ?hg (N := 9) ?hd (xs := ([(⟨(⟨t544, t545, t546⟩ : S36), (⟨t547, t548, t549⟩ : S36)⟩ : S66), (⟨(⟨t550, t551, t552⟩ : S36), (⟨t553, t554, t555⟩ : S36)⟩ : S66)] : List (S66))) (inner := [.bool t544, .int .u64 t545, .int .u64 t546, .bool t547, .int .u64 t548, .int .u64 t549, .bool t550, .int .u64 t551, .int .u64 t552, .bool t553, .int .u64 t554, .int .u64 t555]) (ok := fun _ => True) (okp := fun _ => True) ?hr ?hp (fun _ hk => hk) trivial (Below.refl _ _) (Nat.le_refl _) (by simp) ?_; (case hd => rfl); (case hg => rfl); (case hr => first | (go_simp; done) | (go_simp; rfl)); (case hp => exact (Reps.c6 (show Kd.M k66 _ _ _ (⟨(⟨t544, t545, t546⟩ : S36), (⟨t547, t548, t549⟩ : S36)⟩ : S66) [.bool t544, .int .u64 t545, .int .u64 t546, .bool t547, .int .u64 t548, .int .u64 t549] from (k66_mkM _ _ _ (⟨(⟨t544, t545, t546⟩ : S36), (⟨t547, t548, t549⟩ : S36)⟩ : S66) )) (Reps.c6 (show Kd.M k66 _ _ _ (⟨(⟨t550, t551, t552⟩ : S36), (⟨t553, t554, t555⟩ : S36)⟩ : S66) [.bool t550, .int .u64 t551, .int .u64 t552, .bool t553, .int .u64 t554, .int .u64 t555] from (k66_mkM _ _ _ (⟨(⟨t550, t551, t552⟩ : S36), (⟨t553, t554, t555⟩ : S36)⟩ : S66) )) (Reps.none _ _)))); intro v557 w101 ho102 hb hg_ hnew_; clear hg_ hnew_; (first | rw [← Ny556.out] at ho102 | (simp only [Int.reduceToNat] at ho102; rw [← Ny556.out] at ho102)); have HO558 := Aside0.mk (Kd.R_lower ho102 (below_size (zB HB))); replace HB := Aside0.mk (below_step (zB HB) hb); clear hb ho102) | ((with_reducible refine gate_callee (f := 70) rfl ?_); refine goesL_ (some 10) rfl rfl Try.func70 (by kernel_rfl) rfl #[.int .u64 1] rfl (by (try simp only [List.map_toArray, List.map_cons, List.map_nil]); first | done | rfl | (simp only [List.length_drop, List.length_take]; rfl)) ?_; (with_reducible refine (intrusionlaw07_ip.calls 1 t559 t560 t561 _ A5.out).mono ?_); rintro e w103 ⟨rfl, hb⟩; refine ⟨_, rfl, ?_⟩; replace HO558 := Aside0.mk (Kd.R_below (zR HO558) hb); replace HB := Aside0.mk (below_step (zB HB) hb); (try clear hb)) | ((with_reducible refine gate_callee (f := 70) rfl ?_); refine goesL_ (some 11) rfl rfl Try.func70 (by kernel_rfl) rfl #[.int .u64 4] rfl (by (try simp only [List.map_toArray, List.map_cons, List.map_nil]); first | done | rfl | (simp only [List.length_drop, List.length_take]; rfl)) ?_; (with_reducible refine (intrusionlaw07_ip.calls 4 t562 t563 t564 _ A6.out).mono ?_); rintro e w104 ⟨rfl, hb⟩; refine ⟨_, rfl, ?_⟩; replace HO558 := Aside0.mk (Kd.R_below (zR HO558) hb); replace HB := Aside0.mk (below_step (zB HB) hb); (try clear hb)) | ((with_reducible refine gate_dst (N := 13) rfl ?_); (try (refine gate_guard (by rfl) ?_; dsimp only)); refine Kd.R_lit k66 _ 66 ?hg (N := 13) ?hd (xs := ([(⟨(⟨t559, t560, t561⟩ : S36), (⟨t562, t563, t564⟩ : S36)⟩ : S66)] : List (S66))) (inner := [.bool t559, .int .u64 t560, .int .u64 t561, .bool t562, .int .u64 t563, .int .u64 t564]) (ok := fun _ => True) (okp := fun _ => True) ?hr ?hp (fun _ hk => hk) trivial (Below.refl _ _) (Nat.le_refl _) (by simp) ?_; (case hd => rfl); (case hg => rfl); (case hr => first | (go_simp; done) | (go_simp; rfl)); (case hp => exact (Reps.c6 (show Kd.M k66 _ _ _ (⟨(⟨t559, t560, t561⟩ : S36), (⟨t562, t563, t564⟩ : S36)⟩ : S66) [.bool t559, .int .u64 t560, .int .u64 t561, .bool t562, .int .u64 t563, .int .u64 t564] from (k66_mkM _ _ _ (⟨(⟨t559, t560, t561⟩ : S36), (⟨t562, t563, t564⟩ : S36)⟩ : S66) )) (Reps.none _ _))); intro v566 w105 ho106 hb hg_ hnew_; clear hg_ hnew_; (first | rw [← Ny565.out] at ho106 | (simp only [Int.reduceToNat] at ho106; rw [← Ny565.out] at ho106)); have HO567 := Aside0.mk (Kd.R_lower (Kd.R_new' ho106 (Kd.R_lt (zR HO558))) (below_size (zB HB))); replace HO558 := Aside0.mk (Kd.R_elder' (zR HO558) (Kd.R_base ho106) hb); replace HB := Aside0.mk (below_step (zB HB) hb); clear hb ho106; obtain ⟨Ao107, co107, eo107⟩ := Kd.R_slice HO567.out; subst eo107) | ((with_reducible refine gate_callee (f := 46) rfl ?_); refine goesL_ (some 14) rfl rfl Try.func46 (by kernel_rfl) rfl #[.slice Ao107 y565.length co107] rfl (by (try simp only [List.map_toArray, List.map_cons, List.map_nil]); first | done | rfl | (simp only [List.length_drop, List.length_take]; rfl)) ?_; (with_reducible refine (addrset_Prefixes.calls k _ _ y565 t568 _ ?side1 ?side2 A7.out).mono ?_); (case side1 => repeat (first | exact (Kd.R_reads' HO567.out).2.2 | (with_reducible refine Kd.C_alloc ?_ _) | (with_reducible refine Kd.C_drewN ?_ _) | (with_reducible refine Kd.C_drew ?_))); (case side2 => exact (Kd.R_reads' HO567.out).2.1); rintro e w108 ⟨v569, rfl, ho0, hb⟩; refine ⟨_, rfl, ?_⟩; replace HO558 := Aside0.mk (Kd.R_below (zR HO558) hb); replace HO567 := Aside0.mk (Kd.R_below (zR HO567) hb); have HO570 := Aside0.mk (Kd.R_lower ho0 (below_size (zB HB))); replace HB := Aside0.mk (below_step (zB HB) hb); (try clear hb); (try clear ho0)))
           replace HO558 := Aside0.mk (Kd.R_drew HO558.out)
           replace HO567 := Aside0.mk (Kd.R_drew HO567.out)
           replace HO570 := Aside0.mk (Kd.R_drew HO570.out)
           replace HB := Aside0.mk (below_drew1 HB.out)
           obtain ⟨Ao110, co110, eo110⟩ := Kd.R_slice HO558.out
           (first | subst eo110 | (injection eo110 with f1_ f2_ f3_; have f4_ := f1_.symm; have f5_ := f3_.symm; clear f1_ f2_ f3_; subst f4_; subst f5_))
           have p585 : 0 ≤ (0 : Int) := (by omega)
           have q585 : 0 < (t568.length : Int) := za
           (try (obtain ⟨Ax_, cx_, ex_⟩ := Kd.R_slice HO570.out; subst ex_))
           obtain ⟨ad585, e585, hx585_0, hx585_1, hx585_2, hx585_3⟩ := at_T45 (Kd.R_reads' HO570.out).2.2 0 p585 q585
           cases e585
           have qi585 : (0 < t568.length) = True := eq_true (by omega)
           (try rw [show ((0 : Int)).toNat = 0 from rfl] at hx585_0)
           (try rw [show 0 * 4 = 0 from rfl] at hx585_0)
           (try rw [Addr.add_zero'] at hx585_0)
           (try rw [show ((0 : Int)).toNat = 0 from rfl] at hx585_1)
           (try rw [show 0 * 4 = 0 from rfl] at hx585_1)
           (try rw [Addr.add_zero'] at hx585_1)
           (try rw [show ((0 : Int)).toNat = 0 from rfl] at hx585_2)
           (try rw [show 0 * 4 = 0 from rfl] at hx585_2)
           (try rw [Addr.add_zero'] at hx585_2)
           (try rw [show ((0 : Int)).toNat = 0 from rfl] at hx585_3)
           (try rw [show 0 * 4 = 0 from rfl] at hx585_3)
           (try rw [Addr.add_zero'] at hx585_3)
           replace p585 := eq_true p585
           replace q585 := eq_true q585
           refine start_ (n := 39) (S := fun w' => w'.cell? ad585 = some (.bool ((rd_T45 t568 0).f0.f0)) ∧ w'.cell? ⟨ad585.block, ad585.off + 1, none⟩ = some (.int .u64 ((rd_T45 t568 0).f0.f1)) ∧ w'.cell? ⟨ad585.block, ad585.off + 2, none⟩ = some (.int .u64 ((rd_T45 t568 0).f0.f2)) ∧ w'.cell? ⟨ad585.block, ad585.off + 3, none⟩ = some (.int .i64 ((rd_T45 t568 0).f1))) (ds := []) #[false, false, false, false, false, false, false, false, false, false, false, false, false, false, false, false, false, false, false, false, false, false, false, false, false, false, false, false, false, false, false, false, false, false, false, false, false, false, false] (by kernel_rfl) rfl rfl ⟨hx585_0, hx585_1, hx585_2, hx585_3⟩ (fun hHeld => ?_); refine with_tabW intrusionlaw07_awake.tab3 intrusionlaw07_awake.bits3 (fun HT_ HW_ => ?_)
           generalize w108.drew = w109 at HO558 HO567 HO570 HB hx585_0 hx585_1 hx585_2 hx585_3 hHeld ⊢
           refine zp 0 15 HT_ ?_; refine zo 1 16 HT_ (fun K hK => ?_)
           refine zg Try.func38 #[.slice Ao110 y556.length co110] ?_
           with_reducible refine (addrset_Normal.calls k _ _ y556 t571 _ ?side1 ?side2 A8.out).mono ?_
           (case side1 => repeat (first | exact (Kd.R_reads' HO558.out).2.2 | (with_reducible refine Kd.C_alloc ?_ _) | (with_reducible refine Kd.C_drewN ?_ _) | (with_reducible refine Kd.C_drew ?_)))
           (case side2 => exact (Kd.R_reads' HO558.out).2.1)
           rintro e w111 ⟨v572, rfl, ho0, hb⟩
           have HS0_ := (hb.cell (World.block_lt_of_cell? _ _ (hHeld.1))).trans (hHeld.1)
           have HS1_ := (hb.cell (World.block_lt_of_cell? _ _ (hHeld.2.1))).trans (hHeld.2.1)
           have HS2_ := (hb.cell (World.block_lt_of_cell? _ _ (hHeld.2.2.1))).trans (hHeld.2.2.1)
           have HS3_ := (hb.cell (World.block_lt_of_cell? _ _ (hHeld.2.2.2))).trans (hHeld.2.2.2)
           refine ⟨_, rfl, ?_⟩
           replace HO570 := Aside0.mk (Kd.R_below (zR HO570) hb)
           have HO573 := Aside0.mk (Kd.R_lower (Kd.R_new' (Kd.R_new' ho0 (Kd.R_lt (zR HO558))) (Kd.R_lt (zR HO567))) (below_size (zB HB)))
           replace HO558 := Aside0.mk (Kd.R_elder' (zR HO558) (Kd.R_base ho0) hb)
           replace HO567 := Aside0.mk (Kd.R_elder' (zR HO567) (Kd.R_base ho0) hb)
           replace HB := Aside0.mk (below_step (zB HB) hb)
           (try clear hb)
           (try clear ho0)
           refine hK.out _ _ ⟨HS0_, HS1_, HS2_, HS3_⟩ (fun hHeld => ?_)
           clear hK K
           refine zn 16 ?_; refine zo 2 17 HT_ (fun K hK => ?_)
           refine zg Try.func70 #[.int .u64 1] ?_
           with_reducible refine (intrusionlaw07_ip.calls 1 t574 t575 t576 _ A9.out).mono ?_
           rintro e w112 ⟨rfl, hb⟩
           have HS0_ := (hb.cell (World.block_lt_of_cell? _ _ (hHeld.1))).trans (hHeld.1)
           have HS1_ := (hb.cell (World.block_lt_of_cell? _ _ (hHeld.2.1))).trans (hHeld.2.1)
           have HS2_ := (hb.cell (World.block_lt_of_cell? _ _ (hHeld.2.2.1))).trans (hHeld.2.2.1)
           have HS3_ := (hb.cell (World.block_lt_of_cell? _ _ (hHeld.2.2.2))).trans (hHeld.2.2.2)
           refine ⟨_, rfl, ?_⟩
           replace HO558 := Aside0.mk (Kd.R_below (zR HO558) hb)
           replace HO567 := Aside0.mk (Kd.R_below (zR HO567) hb)
           replace HO570 := Aside0.mk (Kd.R_below (zR HO570) hb)
           replace HO573 := Aside0.mk (Kd.R_below (zR HO573) hb)
           replace HB := Aside0.mk (below_step (zB HB) hb)
           (try clear hb)
           refine hK.out _ _ ⟨HS0_, HS1_, HS2_, HS3_⟩ (fun hHeld => ?_)
           clear hK K
           refine zn 17 ?_; refine zo 3 18 HT_ (fun K hK => ?_)
           refine zg Try.func70 #[.int .u64 3] ?_
           with_reducible refine (intrusionlaw07_ip.calls 3 t577 t578 t579 _ A10.out).mono ?_
           rintro e w113 ⟨rfl, hb⟩
           have HS0_ := (hb.cell (World.block_lt_of_cell? _ _ (hHeld.1))).trans (hHeld.1)
           have HS1_ := (hb.cell (World.block_lt_of_cell? _ _ (hHeld.2.1))).trans (hHeld.2.1)
           have HS2_ := (hb.cell (World.block_lt_of_cell? _ _ (hHeld.2.2.1))).trans (hHeld.2.2.1)
           have HS3_ := (hb.cell (World.block_lt_of_cell? _ _ (hHeld.2.2.2))).trans (hHeld.2.2.2)
           refine ⟨_, rfl, ?_⟩
           replace HO558 := Aside0.mk (Kd.R_below (zR HO558) hb)
           replace HO567 := Aside0.mk (Kd.R_below (zR HO567) hb)
           replace HO570 := Aside0.mk (Kd.R_below (zR HO570) hb)
           replace HO573 := Aside0.mk (Kd.R_below (zR HO573) hb)
           replace HB := Aside0.mk (below_step (zB HB) hb)
           (try clear hb)
           refine hK.out _ _ ⟨HS0_, HS1_, HS2_, HS3_⟩ (fun hHeld => ?_)
           clear hK K
           refine zn 18 ?_; refine zp 4 19 HT_ ?_; refine zo 5 20 HT_ (fun K hK => ?_)
           refine Kd.R_lit_step k66 _ 66 ?hg (N := 20) ?hd (xs := ([(⟨(⟨t574, t575, t576⟩ : S36), (⟨t577, t578, t579⟩ : S36)⟩ : S66)] : List (S66))) (inner := [.bool t574, .int .u64 t575, .int .u64 t576, .bool t577, .int .u64 t578, .int .u64 t579]) (ok := fun _ => True) (okp := fun _ => True) ?hr ?hp (fun _ hk => hk) trivial (Below.refl _ _) (Nat.le_refl _) (by simp) ?_; (case hd => rfl); (case hg => rfl); (case hr => first | (go_simp; done) | (go_simp; rfl)); (case hp => exact (Reps.c6 (show Kd.M k66 _ _ _ (⟨(⟨t574, t575, t576⟩ : S36), (⟨t577, t578, t579⟩ : S36)⟩ : S66) [.bool t574, .int .u64 t575, .int .u64 t576, .bool t577, .int .u64 t578, .int .u64 t579] from (k66_mkM _ _ _ (⟨(⟨t574, t575, t576⟩ : S36), (⟨t577, t578, t579⟩ : S36)⟩ : S66) )) (Reps.none _ _)))
           intro v581 w114 ho115 hb hg_ hnew_
           have HS0_ := (hb.cell (World.block_lt_of_cell? _ _ (hHeld.1))).trans (hHeld.1)
           have HS1_ := (hb.cell (World.block_lt_of_cell? _ _ (hHeld.2.1))).trans (hHeld.2.1)
           have HS2_ := (hb.cell (World.block_lt_of_cell? _ _ (hHeld.2.2.1))).trans (hHeld.2.2.1)
           have HS3_ := (hb.cell (World.block_lt_of_cell? _ _ (hHeld.2.2.2))).trans (hHeld.2.2.2)
           clear hg_ hnew_
           (first | rw [← Ny580.out] at ho115 | (simp only [Int.reduceToNat] at ho115; rw [← Ny580.out] at ho115))
           replace HO570 := Aside0.mk (Kd.R_below (zR HO570) hb)
           have HO582 := Aside0.mk (Kd.R_lower (Kd.R_new' (Kd.R_new' (Kd.R_new' ho115 (Kd.R_lt (zR HO558))) (Kd.R_lt (zR HO567))) (Kd.R_lt (zR HO573))) (below_size (zB HB)))
           replace HO558 := Aside0.mk (Kd.R_elder' (zR HO558) (Kd.R_base ho115) hb)
           replace HO567 := Aside0.mk (Kd.R_elder' (zR HO567) (Kd.R_base ho115) hb)
           replace HO573 := Aside0.mk (Kd.R_elder' (zR HO573) (Kd.R_base ho115) hb)
           replace HB := Aside0.mk (below_step (zB HB) hb)
           clear hb ho115
           obtain ⟨Ao116, co116, eo116⟩ := Kd.R_slice HO573.out
           (first | subst eo116 | (injection eo116 with f1_ f2_ f3_; have f4_ := f1_.symm; have f5_ := f3_.symm; clear f1_ f2_ f3_; subst f4_; subst f5_))
           obtain ⟨Ao117, co117, eo117⟩ := Kd.R_slice HO582.out
           (first | subst eo117 | (injection eo117 with f1_ f2_ f3_; have f4_ := f1_.symm; have f5_ := f3_.symm; clear f1_ f2_ f3_; subst f4_; subst f5_))
           refine hK.out _ _ ⟨HS0_, HS1_, HS2_, HS3_⟩ (fun hHeld => ?_)
           clear hK K
           refine zn 20 ?_; refine zo 6 21 HT_ (fun K hK => ?_)
           refine zg Try.func37 #[.slice Ao116 t571.length co116, .slice Ao117 y580.length co117] ?_
           with_reducible refine (intrusionref07_Same.calls k _ _ t571 _ _ y580 true _ ?side1 ?side2 ?side3 ?side4 A11.out).mono ?_
           (case side1 => repeat (first | exact (Kd.R_reads' HO573.out).2.2 | (with_reducible refine Kd.C_alloc ?_ _) | (with_reducible refine Kd.C_drewN ?_ _) | (with_reducible refine Kd.C_drew ?_)))
           (case side2 => exact (Kd.R_reads' HO573.out).2.1)
           (case side3 => repeat (first | exact (Kd.R_reads' HO582.out).2.2 | (with_reducible refine Kd.C_alloc ?_ _) | (with_reducible refine Kd.C_drewN ?_ _) | (with_reducible refine Kd.C_drew ?_)))
           (case side4 => exact (Kd.R_reads' HO582.out).2.1)
           rintro e w' ⟨rfl, ⟨nd, rfl⟩⟩
           refine ⟨_, rfl, ?_⟩
           refine hK.out _ _ ⟨hHeld.1, hHeld.2.1, hHeld.2.2.1, hHeld.2.2.2⟩ (fun hHeld => ?_)
           clear hK K
           refine zn 21 ?_; refine zp 7 22 HT_ ?_; refine zp 8 23 HT_ ?_; refine zo 9 24 HT_ (fun K hK => ?_)
           refine zg Try.func40 #[.slice Ao110 y556.length co110] ?_
           with_reducible refine (addrset_Valid.calls k _ _ y556 false _ ?side1 ?side2 A13.out).mono ?_
           (case side1 => repeat (first | exact (Kd.R_reads' HO558.out).2.2 | (with_reducible refine Kd.C_alloc ?_ _) | (with_reducible refine Kd.C_drewN ?_ _) | (with_reducible refine Kd.C_drew ?_)))
           (case side2 => exact (Kd.R_reads' HO558.out).2.1)
           rintro e w118 ⟨rfl, hb⟩
           have HS0_ := (hb.cell (World.block_lt_of_cell? _ _ (hHeld.1))).trans (hHeld.1)
           have HS1_ := (hb.cell (World.block_lt_of_cell? _ _ (hHeld.2.1))).trans (hHeld.2.1)
           have HS2_ := (hb.cell (World.block_lt_of_cell? _ _ (hHeld.2.2.1))).trans (hHeld.2.2.1)
           have HS3_ := (hb.cell (World.block_lt_of_cell? _ _ (hHeld.2.2.2))).trans (hHeld.2.2.2)
           refine ⟨_, rfl, ?_⟩
           replace HO558 := Aside0.mk (Kd.R_below (zR HO558) hb)
           replace HO567 := Aside0.mk (Kd.R_below (zR HO567) hb)
           replace HO570 := Aside0.mk (Kd.R_below (zR HO570) hb)
           replace HO573 := Aside0.mk (Kd.R_below (zR HO573) hb)
           replace HO582 := Aside0.mk (Kd.R_below (zR HO582) hb)
           replace HB := Aside0.mk (below_step (zB HB) hb)
           (try clear hb)
           obtain ⟨Ao119, co119, eo119⟩ := Kd.R_slice HO570.out
           (first | subst eo119 | (injection eo119 with f1_ f2_ f3_; have f4_ := f1_.symm; have f5_ := f3_.symm; clear f1_ f2_ f3_; subst f4_; subst f5_))
           refine hK.out _ _ ⟨HS0_, HS1_, HS2_, HS3_⟩ (fun hHeld => ?_)
           clear hK K
           refine zn 24 ?_; refine zp 10 25 HT_ ?_; refine zp 11 26 HT_ ?_; refine zp 12 27 HT_ ?_; refine zp 13 28 HT_ ?_; refine zp 14 29 HT_ ?_; refine zp 15 30 HT_ ?_; refine zp 16 31 HT_ ?_; refine zp 17 32 HT_ ?_; refine zp 18 33 HT_ ?_; refine zp 19 34 HT_ ?_; refine zt 20 35 HT_ HW_ hHeld ?_; refine zo 21 36 HT_ (fun K hK => ?_)
           refine zg Try.func70 #[.int .u64 1] ?_
           with_reducible refine (intrusionlaw07_ip.calls 1 t586 t587 t588 _ A39.out).mono ?_
           rintro e w120 ⟨rfl, hb⟩
           have HS0_ := (hb.cell (World.block_lt_of_cell? _ _ (hHeld.1))).trans (hHeld.1)
           have HS1_ := (hb.cell (World.block_lt_of_cell? _ _ (hHeld.2.1))).trans (hHeld.2.1)
           have HS2_ := (hb.cell (World.block_lt_of_cell? _ _ (hHeld.2.2.1))).trans (hHeld.2.2.1)
           have HS3_ := (hb.cell (World.block_lt_of_cell? _ _ (hHeld.2.2.2))).trans (hHeld.2.2.2)
           refine ⟨_, rfl, ?_⟩
           replace HO558 := Aside0.mk (Kd.R_below (zR HO558) hb)
           replace HO567 := Aside0.mk (Kd.R_below (zR HO567) hb)
           replace HO570 := Aside0.mk (Kd.R_below (zR HO570) hb)
           replace HO573 := Aside0.mk (Kd.R_below (zR HO573) hb)
           replace HO582 := Aside0.mk (Kd.R_below (zR HO582) hb)
           replace HB := Aside0.mk (below_step (zB HB) hb)
           (try clear hb)
           refine hK.out _ _ ⟨HS0_, HS1_, HS2_, HS3_⟩ (fun hHeld => ?_)
           clear hK K
           refine zn 36 ?_; refine zp 22 37 HT_ ?_; refine zp 23 38 HT_ ?_; refine zp 24 39 HT_ ?_; refine zp 25 40 HT_ ?_; refine zu 26 41 HT_ ?_; refine zu 27 42 HT_ ?_; refine zu 28 43 HT_ ?_; refine zu 29 44 HT_ ?_; refine zu 30 45 HT_ ?_; refine zu 31 46 HT_ ?_; refine zp 32 47 HT_ ?_; refine zp 33 48 HT_ ?_; refine zu 34 49 HT_ ?_; refine zu 35 50 HT_ ?_; refine zu 36 51 HT_ ?_; refine zp 37 52 HT_ ?_; refine zp 38 0 HT_ ?_; refine zd HT_ ?_
           try go_wp2
           go_ret
           exact ⟨by first | rfl | (simp [errW_none, errW_some] <;> rfl) | (simp [*, errW_none, errW_some] <;> rfl), by repeat (first | (with_reducible first | exact HB.out | apply below_alloc | apply pw_below_drewN | apply below_drew1) | exact HB.out)⟩
       · rw [if_neg c38] at H
         exact absurd H (by simp)
     · rw [if_neg c37] at H
       have c37b0 : ((t568.length : Int) == 3) = false := beq_eq_false_iff_ne.mpr c37
       have c37b1 : ((t568.length : Int) != 3) = true := bne_iff_ne.mpr c37
       obtain rfl := Option.some.inj H
       go_enter Try.func36, Try.ntmps36
       try go_wp2_with (first | ((with_reducible refine gate_callee (f := 70) rfl ?_); refine goesL_ (some 3) rfl rfl Try.func70 (by kernel_rfl) rfl #[.int .u64 2] rfl (by (try simp only [List.map_toArray, List.map_cons, List.map_nil]); first | done | rfl | (simp only [List.length_drop, List.length_take]; rfl)) ?_; (with_reducible refine (intrusionlaw07_ip.calls 2 t544 t545 t546 _ A1.out).mono ?_); rintro e w121 ⟨rfl, hb⟩; refine ⟨_, rfl, ?_⟩; replace HB := Aside0.mk (below_step (zB HB) hb); (try clear hb)) | ((with_reducible refine gate_callee (f := 70) rfl ?_); refine goesL_ (some 4) rfl rfl Try.func70 (by kernel_rfl) rfl #[.int .u64 3] rfl (by (try simp only [List.map_toArray, List.map_cons, List.map_nil]); first | done | rfl | (simp only [List.length_drop, List.length_take]; rfl)) ?_; (with_reducible refine (intrusionlaw07_ip.calls 3 t547 t548 t549 _ A2.out).mono ?_); rintro e w122 ⟨rfl, hb⟩; refine ⟨_, rfl, ?_⟩; replace HB := Aside0.mk (below_step (zB HB) hb); (try clear hb)) | ((with_reducible refine gate_callee (f := 70) rfl ?_); refine goesL_ (some 6) rfl rfl Try.func70 (by kernel_rfl) rfl #[.int .u64 1] rfl (by (try simp only [List.map_toArray, List.map_cons, List.map_nil]); first | done | rfl | (simp only [List.length_drop, List.length_take]; rfl)) ?_; (with_reducible refine (intrusionlaw07_ip.calls 1 t550 t551 t552 _ A3.out).mono ?_); rintro e w123 ⟨rfl, hb⟩; refine ⟨_, rfl, ?_⟩; replace HB := Aside0.mk (below_step (zB HB) hb); (try clear hb)) | ((with_reducible refine gate_callee (f := 70) rfl ?_); refine goesL_ (some 7) rfl rfl Try.func70 (by kernel_rfl) rfl #[.int .u64 1] rfl (by (try simp only [List.map_toArray, List.map_cons, List.map_nil]); first | done | rfl | (simp only [List.length_drop, List.length_take]; rfl)) ?_; (with_reducible refine (intrusionlaw07_ip.calls 1 t553 t554 t555 _ A4.out).mono ?_); rintro e w124 ⟨rfl, hb⟩; refine ⟨_, rfl, ?_⟩; replace HB := Aside0.mk (below_step (zB HB) hb); (try clear hb)) | ((with_reducible refine gate_dst (N := 9) rfl ?_); (try (refine gate_guard (by rfl) ?_; dsimp only)); refine Kd.R_lit k66 _ 66 ?hg (N := 9) ?hd (xs := ([(⟨(⟨t544, t545, t546⟩ : S36), (⟨t547, t548, t549⟩ : S36)⟩ : S66), (⟨(⟨t550, t551, t552⟩ : S36), (⟨t553, t554, t555⟩ : S36)⟩ : S66)] : List (S66))) (inner := [.bool t544, .int .u64 t545, .int .u64 t546, .bool t547, .int .u64 t548, .int .u64 t549, .bool t550, .int .u64 t551, .int .u64 t552, .bool t553, .int .u64 t554, .int .u64 t555]) (ok := fun _ => True) (okp := fun _ => True) ?hr ?hp (fun _ hk => hk) trivial (Below.refl _ _) (Nat.le_refl _) (by simp) ?_; (case hd => rfl); (case hg => rfl); (case hr => first | (go_simp; done) | (go_simp; rfl)); (case hp => exact (Reps.c6 (show Kd.M k66 _ _ _ (⟨(⟨t544, t545, t546⟩ : S36), (⟨t547, t548, t549⟩ : S36)⟩ : S66) [.bool t544, .int .u64 t545, .int .u64 t546, .bool t547, .int .u64 t548, .int .u64 t549] from (k66_mkM _ _ _ (⟨(⟨t544, t545, t546⟩ : S36), (⟨t547, t548, t549⟩ : S36)⟩ : S66) )) (Reps.c6 (show Kd.M k66 _ _ _ (⟨(⟨t550, t551, t552⟩ : S36), (⟨t553, t554, t555⟩ : S36)⟩ : S66) [.bool t550, .int .u64 t551, .int .u64 t552, .bool t553, .int .u64 t554, .int .u64 t555] from (k66_mkM _ _ _ (⟨(⟨t550, t551, t552⟩ : S36), (⟨t553, t554, t555⟩ : S36)⟩ : S66) )) (Reps.none _ _)))); intro v557 w125 ho126 hb hg_ hnew_; clear hg_ hnew_; (first | rw [← Ny556.out] at ho126 | (simp only [Int.reduceToNat] at ho126; rw [← Ny556.out] at ho126)); have HO558 := Aside0.mk (Kd.R_lower ho126 (below_size (zB HB))); replace HB := Aside0.mk (below_step (zB HB) hb); clear hb ho126) | ((with_reducible refine gate_callee (f := 70) rfl ?_); refine goesL_ (some 10) rfl rfl Try.func70 (by kernel_rfl) rfl #[.int .u64 1] rfl (by (try simp only [List.map_toArray, List.map_cons, List.map_nil]); first | done | rfl | (simp only [List.length_drop, List.length_take]; rfl)) ?_; (with_reducible refine (intrusionlaw07_ip.calls 1 t559 t560 t561 _ A5.out).mono ?_); rintro e w127 ⟨rfl, hb⟩; refine ⟨_, rfl, ?_⟩; replace HO558 := Aside0.mk (Kd.R_below (zR HO558) hb); replace HB := Aside0.mk (below_step (zB HB) hb); (try clear hb)) | ((with_reducible refine gate_callee (f := 70) rfl ?_); refine goesL_ (some 11) rfl rfl Try.func70 (by kernel_rfl) rfl #[.int .u64 4] rfl (by (try simp only [List.map_toArray, List.map_cons, List.map_nil]); first | done | rfl | (simp only [List.length_drop, List.length_take]; rfl)) ?_; (with_reducible refine (intrusionlaw07_ip.calls 4 t562 t563 t564 _ A6.out).mono ?_); rintro e w128 ⟨rfl, hb⟩; refine ⟨_, rfl, ?_⟩; replace HO558 := Aside0.mk (Kd.R_below (zR HO558) hb); replace HB := Aside0.mk (below_step (zB HB) hb); (try clear hb)) | ((with_reducible refine gate_dst (N := 13) rfl ?_); (try (refine gate_guard (by rfl) ?_; dsimp only)); refine Kd.R_lit k66 _ 66 ?hg (N := 13) ?hd (xs := ([(⟨(⟨t559, t560, t561⟩ : S36), (⟨t562, t563, t564⟩ : S36)⟩ : S66)] : List (S66))) (inner := [.bool t559, .int .u64 t560, .int .u64 t561, .bool t562, .int .u64 t563, .int .u64 t564]) (ok := fun _ => True) (okp := fun _ => True) ?hr ?hp (fun _ hk => hk) trivial (Below.refl _ _) (Nat.le_refl _) (by simp) ?_; (case hd => rfl); (case hg => rfl); (case hr => first | (go_simp; done) | (go_simp; rfl)); (case hp => exact (Reps.c6 (show Kd.M k66 _ _ _ (⟨(⟨t559, t560, t561⟩ : S36), (⟨t562, t563, t564⟩ : S36)⟩ : S66) [.bool t559, .int .u64 t560, .int .u64 t561, .bool t562, .int .u64 t563, .int .u64 t564] from (k66_mkM _ _ _ (⟨(⟨t559, t560, t561⟩ : S36), (⟨t562, t563, t564⟩ : S36)⟩ : S66) )) (Reps.none _ _))); intro v566 w129 ho130 hb hg_ hnew_; clear hg_ hnew_; (first | rw [← Ny565.out] at ho130 | (simp only [Int.reduceToNat] at ho130; rw [← Ny565.out] at ho130)); have HO567 := Aside0.mk (Kd.R_lower (Kd.R_new' ho130 (Kd.R_lt (zR HO558))) (below_size (zB HB))); replace HO558 := Aside0.mk (Kd.R_elder' (zR HO558) (Kd.R_base ho130) hb); replace HB := Aside0.mk (below_step (zB HB) hb); clear hb ho130; obtain ⟨Ao131, co131, eo131⟩ := Kd.R_slice HO567.out; subst eo131) | ((with_reducible refine gate_callee (f := 46) rfl ?_); refine goesL_ (some 14) rfl rfl Try.func46 (by kernel_rfl) rfl #[.slice Ao131 y565.length co131] rfl (by (try simp only [List.map_toArray, List.map_cons, List.map_nil]); first | done | rfl | (simp only [List.length_drop, List.length_take]; rfl)) ?_; (with_reducible refine (addrset_Prefixes.calls k _ _ y565 t568 _ ?side1 ?side2 A7.out).mono ?_); (case side1 => repeat (first | exact (Kd.R_reads' HO567.out).2.2 | (with_reducible refine Kd.C_alloc ?_ _) | (with_reducible refine Kd.C_drewN ?_ _) | (with_reducible refine Kd.C_drew ?_))); (case side2 => exact (Kd.R_reads' HO567.out).2.1); rintro e w132 ⟨v569, rfl, ho0, hb⟩; refine ⟨_, rfl, ?_⟩; replace HO558 := Aside0.mk (Kd.R_below (zR HO558) hb); replace HO567 := Aside0.mk (Kd.R_below (zR HO567) hb); have HO570 := Aside0.mk (Kd.R_lower ho0 (below_size (zB HB))); replace HB := Aside0.mk (below_step (zB HB) hb); (try clear hb); (try clear ho0)))
       replace HO558 := Aside0.mk (Kd.R_drew HO558.out)
       replace HO567 := Aside0.mk (Kd.R_drew HO567.out)
       replace HO570 := Aside0.mk (Kd.R_drew HO570.out)
       replace HB := Aside0.mk (below_drew1 HB.out)
       obtain ⟨Ao134, co134, eo134⟩ := Kd.R_slice HO558.out
       (first | subst eo134 | (injection eo134 with f1_ f2_ f3_; have f4_ := f1_.symm; have f5_ := f3_.symm; clear f1_ f2_ f3_; subst f4_; subst f5_))
       refine start_ (n := 39) (S := fun w' => True) (ds := []) #[false, false, false, false, false, false, false, false, false, false, false, false, false, false, false, false, false, false, false, false, false, false, false, false, false, false, false, false, false, false, false, false, false, false, false, false, false, false, false] (by kernel_rfl) rfl rfl trivial (fun hHeld => ?_); refine with_tabW intrusionlaw07_awake.tab3 intrusionlaw07_awake.bits3 (fun HT_ HW_ => ?_)
       generalize w132.drew = w133 at HO558 HO567 HO570 HB hHeld ⊢
       refine zp 0 15 HT_ ?_; refine zo 1 16 HT_ (fun K hK => ?_)
       refine zg Try.func38 #[.slice Ao134 y556.length co134] ?_
       with_reducible refine (addrset_Normal.calls k _ _ y556 t571 _ ?side1 ?side2 A8.out).mono ?_
       (case side1 => repeat (first | exact (Kd.R_reads' HO558.out).2.2 | (with_reducible refine Kd.C_alloc ?_ _) | (with_reducible refine Kd.C_drewN ?_ _) | (with_reducible refine Kd.C_drew ?_)))
       (case side2 => exact (Kd.R_reads' HO558.out).2.1)
       rintro e w135 ⟨v572, rfl, ho0, hb⟩
       refine ⟨_, rfl, ?_⟩
       replace HO570 := Aside0.mk (Kd.R_below (zR HO570) hb)
       have HO573 := Aside0.mk (Kd.R_lower (Kd.R_new' (Kd.R_new' ho0 (Kd.R_lt (zR HO558))) (Kd.R_lt (zR HO567))) (below_size (zB HB)))
       replace HO558 := Aside0.mk (Kd.R_elder' (zR HO558) (Kd.R_base ho0) hb)
       replace HO567 := Aside0.mk (Kd.R_elder' (zR HO567) (Kd.R_base ho0) hb)
       replace HB := Aside0.mk (below_step (zB HB) hb)
       (try clear hb)
       (try clear ho0)
       refine hK.out _ _ trivial (fun hHeld => ?_)
       clear hK K
       refine zn 16 ?_; refine zo 2 17 HT_ (fun K hK => ?_)
       refine zg Try.func70 #[.int .u64 1] ?_
       with_reducible refine (intrusionlaw07_ip.calls 1 t574 t575 t576 _ A9.out).mono ?_
       rintro e w136 ⟨rfl, hb⟩
       refine ⟨_, rfl, ?_⟩
       replace HO558 := Aside0.mk (Kd.R_below (zR HO558) hb)
       replace HO567 := Aside0.mk (Kd.R_below (zR HO567) hb)
       replace HO570 := Aside0.mk (Kd.R_below (zR HO570) hb)
       replace HO573 := Aside0.mk (Kd.R_below (zR HO573) hb)
       replace HB := Aside0.mk (below_step (zB HB) hb)
       (try clear hb)
       refine hK.out _ _ trivial (fun hHeld => ?_)
       clear hK K
       refine zn 17 ?_; refine zo 3 18 HT_ (fun K hK => ?_)
       refine zg Try.func70 #[.int .u64 3] ?_
       with_reducible refine (intrusionlaw07_ip.calls 3 t577 t578 t579 _ A10.out).mono ?_
       rintro e w137 ⟨rfl, hb⟩
       refine ⟨_, rfl, ?_⟩
       replace HO558 := Aside0.mk (Kd.R_below (zR HO558) hb)
       replace HO567 := Aside0.mk (Kd.R_below (zR HO567) hb)
       replace HO570 := Aside0.mk (Kd.R_below (zR HO570) hb)
       replace HO573 := Aside0.mk (Kd.R_below (zR HO573) hb)
       replace HB := Aside0.mk (below_step (zB HB) hb)
       (try clear hb)
       refine hK.out _ _ trivial (fun hHeld => ?_)
       clear hK K
       refine zn 18 ?_; refine zp 4 19 HT_ ?_; refine zo 5 20 HT_ (fun K hK => ?_)
       refine Kd.R_lit_step k66 _ 66 ?hg (N := 20) ?hd (xs := ([(⟨(⟨t574, t575, t576⟩ : S36), (⟨t577, t578, t579⟩ : S36)⟩ : S66)] : List (S66))) (inner := [.bool t574, .int .u64 t575, .int .u64 t576, .bool t577, .int .u64 t578, .int .u64 t579]) (ok := fun _ => True) (okp := fun _ => True) ?hr ?hp (fun _ hk => hk) trivial (Below.refl _ _) (Nat.le_refl _) (by simp) ?_; (case hd => rfl); (case hg => rfl); (case hr => first | (go_simp; done) | (go_simp; rfl)); (case hp => exact (Reps.c6 (show Kd.M k66 _ _ _ (⟨(⟨t574, t575, t576⟩ : S36), (⟨t577, t578, t579⟩ : S36)⟩ : S66) [.bool t574, .int .u64 t575, .int .u64 t576, .bool t577, .int .u64 t578, .int .u64 t579] from (k66_mkM _ _ _ (⟨(⟨t574, t575, t576⟩ : S36), (⟨t577, t578, t579⟩ : S36)⟩ : S66) )) (Reps.none _ _)))
       intro v581 w138 ho139 hb hg_ hnew_
       clear hg_ hnew_
       (first | rw [← Ny580.out] at ho139 | (simp only [Int.reduceToNat] at ho139; rw [← Ny580.out] at ho139))
       replace HO570 := Aside0.mk (Kd.R_below (zR HO570) hb)
       have HO582 := Aside0.mk (Kd.R_lower (Kd.R_new' (Kd.R_new' (Kd.R_new' ho139 (Kd.R_lt (zR HO558))) (Kd.R_lt (zR HO567))) (Kd.R_lt (zR HO573))) (below_size (zB HB)))
       replace HO558 := Aside0.mk (Kd.R_elder' (zR HO558) (Kd.R_base ho139) hb)
       replace HO567 := Aside0.mk (Kd.R_elder' (zR HO567) (Kd.R_base ho139) hb)
       replace HO573 := Aside0.mk (Kd.R_elder' (zR HO573) (Kd.R_base ho139) hb)
       replace HB := Aside0.mk (below_step (zB HB) hb)
       clear hb ho139
       obtain ⟨Ao140, co140, eo140⟩ := Kd.R_slice HO573.out
       (first | subst eo140 | (injection eo140 with f1_ f2_ f3_; have f4_ := f1_.symm; have f5_ := f3_.symm; clear f1_ f2_ f3_; subst f4_; subst f5_))
       obtain ⟨Ao141, co141, eo141⟩ := Kd.R_slice HO582.out
       (first | subst eo141 | (injection eo141 with f1_ f2_ f3_; have f4_ := f1_.symm; have f5_ := f3_.symm; clear f1_ f2_ f3_; subst f4_; subst f5_))
       refine hK.out _ _ trivial (fun hHeld => ?_)
       clear hK K
       refine zn 20 ?_; refine zo 6 21 HT_ (fun K hK => ?_)
       refine zg Try.func37 #[.slice Ao140 t571.length co140, .slice Ao141 y580.length co141] ?_
       with_reducible refine (intrusionref07_Same.calls k _ _ t571 _ _ y580 true _ ?side1 ?side2 ?side3 ?side4 A11.out).mono ?_
       (case side1 => repeat (first | exact (Kd.R_reads' HO573.out).2.2 | (with_reducible refine Kd.C_alloc ?_ _) | (with_reducible refine Kd.C_drewN ?_ _) | (with_reducible refine Kd.C_drew ?_)))
       (case side2 => exact (Kd.R_reads' HO573.out).2.1)
       (case side3 => repeat (first | exact (Kd.R_reads' HO582.out).2.2 | (with_reducible refine Kd.C_alloc ?_ _) | (with_reducible refine Kd.C_drewN ?_ _) | (with_reducible refine Kd.C_drew ?_)))
       (case side4 => exact (Kd.R_reads' HO582.out).2.1)
       rintro e w' ⟨rfl, ⟨nd, rfl⟩⟩
       refine ⟨_, rfl, ?_⟩
       refine hK.out _ _ trivial (fun hHeld => ?_)
       clear hK K
       refine zn 21 ?_; refine zp 7 22 HT_ ?_; refine zp 8 23 HT_ ?_; refine zo 9 24 HT_ (fun K hK => ?_)
       refine zg Try.func40 #[.slice Ao134 y556.length co134] ?_
       with_reducible refine (addrset_Valid.calls k _ _ y556 false _ ?side1 ?side2 A13.out).mono ?_
       (case side1 => repeat (first | exact (Kd.R_reads' HO558.out).2.2 | (with_reducible refine Kd.C_alloc ?_ _) | (with_reducible refine Kd.C_drewN ?_ _) | (with_reducible refine Kd.C_drew ?_)))
       (case side2 => exact (Kd.R_reads' HO558.out).2.1)
       rintro e w142 ⟨rfl, hb⟩
       refine ⟨_, rfl, ?_⟩
       replace HO558 := Aside0.mk (Kd.R_below (zR HO558) hb)
       replace HO567 := Aside0.mk (Kd.R_below (zR HO567) hb)
       replace HO570 := Aside0.mk (Kd.R_below (zR HO570) hb)
       replace HO573 := Aside0.mk (Kd.R_below (zR HO573) hb)
       replace HO582 := Aside0.mk (Kd.R_below (zR HO582) hb)
       replace HB := Aside0.mk (below_step (zB HB) hb)
       (try clear hb)
       obtain ⟨Ao143, co143, eo143⟩ := Kd.R_slice HO570.out
       (first | subst eo143 | (injection eo143 with f1_ f2_ f3_; have f4_ := f1_.symm; have f5_ := f3_.symm; clear f1_ f2_ f3_; subst f4_; subst f5_))
       refine hK.out _ _ trivial (fun hHeld => ?_)
       clear hK K
       refine zn 24 ?_; refine zp 10 25 HT_ ?_; refine zp 11 26 HT_ ?_; refine zp 12 27 HT_ ?_; refine zp 13 28 HT_ ?_; refine zp 14 29 HT_ ?_; refine zp 15 30 HT_ ?_; refine zp 16 31 HT_ ?_; refine zp 17 32 HT_ ?_; refine zu 18 33 HT_ ?_; refine zu 19 34 HT_ ?_; refine zu 20 35 HT_ ?_; refine zu 21 36 HT_ ?_; refine zu 22 37 HT_ ?_; refine zu 23 38 HT_ ?_; refine zp 24 39 HT_ ?_; refine zp 25 40 HT_ ?_; refine zu 26 41 HT_ ?_; refine zu 27 42 HT_ ?_; refine zu 28 43 HT_ ?_; refine zu 29 44 HT_ ?_; refine zu 30 45 HT_ ?_; refine zu 31 46 HT_ ?_; refine zp 32 47 HT_ ?_; refine zp 33 48 HT_ ?_; refine zu 34 49 HT_ ?_; refine zu 35 50 HT_ ?_; refine zu 36 51 HT_ ?_; refine zp 37 52 HT_ ?_; refine zp 38 0 HT_ ?_; refine zd HT_ ?_
       try go_wp2
       go_ret
       exact ⟨by first | rfl | (simp [errW_none, errW_some] <;> rfl) | (simp [*, errW_none, errW_some] <;> rfl), by repeat (first | (with_reducible first | exact HB.out | apply below_alloc | apply pw_below_drewN | apply below_drew1) | exact HB.out)⟩
 · replace c12 := Bool.eq_false_iff.mpr c12
   subst c12
   rw [if_neg zF] at H
   obtain rfl := Option.some.inj H
   go_enter Try.func36, Try.ntmps36
   try go_wp2_with (first | ((with_reducible refine gate_callee (f := 70) rfl ?_); refine goesL_ (some 3) rfl rfl Try.func70 (by kernel_rfl) rfl #[.int .u64 2] rfl (by (try simp only [List.map_toArray, List.map_cons, List.map_nil]); first | done | rfl | (simp only [List.length_drop, List.length_take]; rfl)) ?_; (with_reducible refine (intrusionlaw07_ip.calls 2 t544 t545 t546 _ A1.out).mono ?_); rintro e w144 ⟨rfl, hb⟩; refine ⟨_, rfl, ?_⟩; replace HB := Aside0.mk (below_step (zB HB) hb); (try clear hb)) | ((with_reducible refine gate_callee (f := 70) rfl ?_); refine goesL_ (some 4) rfl rfl Try.func70 (by kernel_rfl) rfl #[.int .u64 3] rfl (by (try simp only [List.map_toArray, List.map_cons, List.map_nil]); first | done | rfl | (simp only [List.length_drop, List.length_take]; rfl)) ?_; (with_reducible refine (intrusionlaw07_ip.calls 3 t547 t548 t549 _ A2.out).mono ?_); rintro e w145 ⟨rfl, hb⟩; refine ⟨_, rfl, ?_⟩; replace HB := Aside0.mk (below_step (zB HB) hb); (try clear hb)) | ((with_reducible refine gate_callee (f := 70) rfl ?_); refine goesL_ (some 6) rfl rfl Try.func70 (by kernel_rfl) rfl #[.int .u64 1] rfl (by (try simp only [List.map_toArray, List.map_cons, List.map_nil]); first | done | rfl | (simp only [List.length_drop, List.length_take]; rfl)) ?_; (with_reducible refine (intrusionlaw07_ip.calls 1 t550 t551 t552 _ A3.out).mono ?_); rintro e w146 ⟨rfl, hb⟩; refine ⟨_, rfl, ?_⟩; replace HB := Aside0.mk (below_step (zB HB) hb); (try clear hb)) | ((with_reducible refine gate_callee (f := 70) rfl ?_); refine goesL_ (some 7) rfl rfl Try.func70 (by kernel_rfl) rfl #[.int .u64 1] rfl (by (try simp only [List.map_toArray, List.map_cons, List.map_nil]); first | done | rfl | (simp only [List.length_drop, List.length_take]; rfl)) ?_; (with_reducible refine (intrusionlaw07_ip.calls 1 t553 t554 t555 _ A4.out).mono ?_); rintro e w147 ⟨rfl, hb⟩; refine ⟨_, rfl, ?_⟩; replace HB := Aside0.mk (below_step (zB HB) hb); (try clear hb)) | ((with_reducible refine gate_dst (N := 9) rfl ?_); (try (refine gate_guard (by rfl) ?_; dsimp only)); refine Kd.R_lit k66 _ 66 ?hg (N := 9) ?hd (xs := ([(⟨(⟨t544, t545, t546⟩ : S36), (⟨t547, t548, t549⟩ : S36)⟩ : S66), (⟨(⟨t550, t551, t552⟩ : S36), (⟨t553, t554, t555⟩ : S36)⟩ : S66)] : List (S66))) (inner := [.bool t544, .int .u64 t545, .int .u64 t546, .bool t547, .int .u64 t548, .int .u64 t549, .bool t550, .int .u64 t551, .int .u64 t552, .bool t553, .int .u64 t554, .int .u64 t555]) (ok := fun _ => True) (okp := fun _ => True) ?hr ?hp (fun _ hk => hk) trivial (Below.refl _ _) (Nat.le_refl _) (by simp) ?_; (case hd => rfl); (case hg => rfl); (case hr => first | (go_simp; done) | (go_simp; rfl)); (case hp => exact (Reps.c6 (show Kd.M k66 _ _ _ (⟨(⟨t544, t545, t546⟩ : S36), (⟨t547, t548, t549⟩ : S36)⟩ : S66) [.bool t544, .int .u64 t545, .int .u64 t546, .bool t547, .int .u64 t548, .int .u64 t549] from (k66_mkM _ _ _ (⟨(⟨t544, t545, t546⟩ : S36), (⟨t547, t548, t549⟩ : S36)⟩ : S66) )) (Reps.c6 (show Kd.M k66 _ _ _ (⟨(⟨t550, t551, t552⟩ : S36), (⟨t553, t554, t555⟩ : S36)⟩ : S66) [.bool t550, .int .u64 t551, .int .u64 t552, .bool t553, .int .u64 t554, .int .u64 t555] from (k66_mkM _ _ _ (⟨(⟨t550, t551, t552⟩ : S36), (⟨t553, t554, t555⟩ : S36)⟩ : S66) )) (Reps.none _ _)))); intro v557 w148 ho149 hb hg_ hnew_; clear hg_ hnew_; (first | rw [← Ny556.out] at ho149 | (simp only [Int.reduceToNat] at ho149; rw [← Ny556.out] at ho149)); have HO558 := Aside0.mk (Kd.R_lower ho149 (below_size (zB HB))); replace HB := Aside0.mk (below_step (zB HB) hb); clear hb ho149) | ((with_reducible refine gate_callee (f := 70) rfl ?_); refine goesL_ (some 10) rfl rfl Try.func70 (by kernel_rfl) rfl #[.int .u64 1] rfl (by (try simp only [List.map_toArray, List.map_cons, List.map_nil]); first | done | rfl | (simp only [List.length_drop, List.length_take]; rfl)) ?_; (with_reducible refine (intrusionlaw07_ip.calls 1 t559 t560 t561 _ A5.out).mono ?_); rintro e w150 ⟨rfl, hb⟩; refine ⟨_, rfl, ?_⟩; replace HO558 := Aside0.mk (Kd.R_below (zR HO558) hb); replace HB := Aside0.mk (below_step (zB HB) hb); (try clear hb)) | ((with_reducible refine gate_callee (f := 70) rfl ?_); refine goesL_ (some 11) rfl rfl Try.func70 (by kernel_rfl) rfl #[.int .u64 4] rfl (by (try simp only [List.map_toArray, List.map_cons, List.map_nil]); first | done | rfl | (simp only [List.length_drop, List.length_take]; rfl)) ?_; (with_reducible refine (intrusionlaw07_ip.calls 4 t562 t563 t564 _ A6.out).mono ?_); rintro e w151 ⟨rfl, hb⟩; refine ⟨_, rfl, ?_⟩; replace HO558 := Aside0.mk (Kd.R_below (zR HO558) hb); replace HB := Aside0.mk (below_step (zB HB) hb); (try clear hb)) | ((with_reducible refine gate_dst (N := 13) rfl ?_); (try (refine gate_guard (by rfl) ?_; dsimp only)); refine Kd.R_lit k66 _ 66 ?hg (N := 13) ?hd (xs := ([(⟨(⟨t559, t560, t561⟩ : S36), (⟨t562, t563, t564⟩ : S36)⟩ : S66)] : List (S66))) (inner := [.bool t559, .int .u64 t560, .int .u64 t561, .bool t562, .int .u64 t563, .int .u64 t564]) (ok := fun _ => True) (okp := fun _ => True) ?hr ?hp (fun _ hk => hk) trivial (Below.refl _ _) (Nat.le_refl _) (by simp) ?_; (case hd => rfl); (case hg => rfl); (case hr => first | (go_simp; done) | (go_simp; rfl)); (case hp => exact (Reps.c6 (show Kd.M k66 _ _ _ (⟨(⟨t559, t560, t561⟩ : S36), (⟨t562, t563, t564⟩ : S36)⟩ : S66) [.bool t559, .int .u64 t560, .int .u64 t561, .bool t562, .int .u64 t563, .int .u64 t564] from (k66_mkM _ _ _ (⟨(⟨t559, t560, t561⟩ : S36), (⟨t562, t563, t564⟩ : S36)⟩ : S66) )) (Reps.none _ _))); intro v566 w152 ho153 hb hg_ hnew_; clear hg_ hnew_; (first | rw [← Ny565.out] at ho153 | (simp only [Int.reduceToNat] at ho153; rw [← Ny565.out] at ho153)); have HO567 := Aside0.mk (Kd.R_lower (Kd.R_new' ho153 (Kd.R_lt (zR HO558))) (below_size (zB HB))); replace HO558 := Aside0.mk (Kd.R_elder' (zR HO558) (Kd.R_base ho153) hb); replace HB := Aside0.mk (below_step (zB HB) hb); clear hb ho153; obtain ⟨Ao154, co154, eo154⟩ := Kd.R_slice HO567.out; subst eo154) | ((with_reducible refine gate_callee (f := 46) rfl ?_); refine goesL_ (some 14) rfl rfl Try.func46 (by kernel_rfl) rfl #[.slice Ao154 y565.length co154] rfl (by (try simp only [List.map_toArray, List.map_cons, List.map_nil]); first | done | rfl | (simp only [List.length_drop, List.length_take]; rfl)) ?_; (with_reducible refine (addrset_Prefixes.calls k _ _ y565 t568 _ ?side1 ?side2 A7.out).mono ?_); (case side1 => repeat (first | exact (Kd.R_reads' HO567.out).2.2 | (with_reducible refine Kd.C_alloc ?_ _) | (with_reducible refine Kd.C_drewN ?_ _) | (with_reducible refine Kd.C_drew ?_))); (case side2 => exact (Kd.R_reads' HO567.out).2.1); rintro e w155 ⟨v569, rfl, ho0, hb⟩; refine ⟨_, rfl, ?_⟩; replace HO558 := Aside0.mk (Kd.R_below (zR HO558) hb); replace HO567 := Aside0.mk (Kd.R_below (zR HO567) hb); have HO570 := Aside0.mk (Kd.R_lower ho0 (below_size (zB HB))); replace HB := Aside0.mk (below_step (zB HB) hb); (try clear hb); (try clear ho0)))
   replace HO558 := Aside0.mk (Kd.R_drew HO558.out)
   replace HO567 := Aside0.mk (Kd.R_drew HO567.out)
   replace HO570 := Aside0.mk (Kd.R_drew HO570.out)
   replace HB := Aside0.mk (below_drew1 HB.out)
   obtain ⟨Ao157, co157, eo157⟩ := Kd.R_slice HO558.out
   (first | subst eo157 | (injection eo157 with f1_ f2_ f3_; have f4_ := f1_.symm; have f5_ := f3_.symm; clear f1_ f2_ f3_; subst f4_; subst f5_))
   refine start_ (n := 39) (S := fun w' => True) (ds := []) #[false, false, false, false, false, false, false, false, false, false, false, false, false, false, false, false, false, false, false, false, false, false, false, false, false, false, false, false, false, false, false, false, false, false, false, false, false, false, false] (by kernel_rfl) rfl rfl trivial (fun hHeld => ?_); refine with_tabW intrusionlaw07_awake.tab3 intrusionlaw07_awake.bits3 (fun HT_ HW_ => ?_)
   generalize w155.drew = w156 at HO558 HO567 HO570 HB hHeld ⊢
   refine zp 0 15 HT_ ?_; refine zo 1 16 HT_ (fun K hK => ?_)
   refine zg Try.func38 #[.slice Ao157 y556.length co157] ?_
   with_reducible refine (addrset_Normal.calls k _ _ y556 t571 _ ?side1 ?side2 A8.out).mono ?_
   (case side1 => repeat (first | exact (Kd.R_reads' HO558.out).2.2 | (with_reducible refine Kd.C_alloc ?_ _) | (with_reducible refine Kd.C_drewN ?_ _) | (with_reducible refine Kd.C_drew ?_)))
   (case side2 => exact (Kd.R_reads' HO558.out).2.1)
   rintro e w158 ⟨v572, rfl, ho0, hb⟩
   refine ⟨_, rfl, ?_⟩
   replace HO570 := Aside0.mk (Kd.R_below (zR HO570) hb)
   have HO573 := Aside0.mk (Kd.R_lower (Kd.R_new' (Kd.R_new' ho0 (Kd.R_lt (zR HO558))) (Kd.R_lt (zR HO567))) (below_size (zB HB)))
   replace HO558 := Aside0.mk (Kd.R_elder' (zR HO558) (Kd.R_base ho0) hb)
   replace HO567 := Aside0.mk (Kd.R_elder' (zR HO567) (Kd.R_base ho0) hb)
   replace HB := Aside0.mk (below_step (zB HB) hb)
   (try clear hb)
   (try clear ho0)
   refine hK.out _ _ trivial (fun hHeld => ?_)
   clear hK K
   refine zn 16 ?_; refine zo 2 17 HT_ (fun K hK => ?_)
   refine zg Try.func70 #[.int .u64 1] ?_
   with_reducible refine (intrusionlaw07_ip.calls 1 t574 t575 t576 _ A9.out).mono ?_
   rintro e w159 ⟨rfl, hb⟩
   refine ⟨_, rfl, ?_⟩
   replace HO558 := Aside0.mk (Kd.R_below (zR HO558) hb)
   replace HO567 := Aside0.mk (Kd.R_below (zR HO567) hb)
   replace HO570 := Aside0.mk (Kd.R_below (zR HO570) hb)
   replace HO573 := Aside0.mk (Kd.R_below (zR HO573) hb)
   replace HB := Aside0.mk (below_step (zB HB) hb)
   (try clear hb)
   refine hK.out _ _ trivial (fun hHeld => ?_)
   clear hK K
   refine zn 17 ?_; refine zo 3 18 HT_ (fun K hK => ?_)
   refine zg Try.func70 #[.int .u64 3] ?_
   with_reducible refine (intrusionlaw07_ip.calls 3 t577 t578 t579 _ A10.out).mono ?_
   rintro e w160 ⟨rfl, hb⟩
   refine ⟨_, rfl, ?_⟩
   replace HO558 := Aside0.mk (Kd.R_below (zR HO558) hb)
   replace HO567 := Aside0.mk (Kd.R_below (zR HO567) hb)
   replace HO570 := Aside0.mk (Kd.R_below (zR HO570) hb)
   replace HO573 := Aside0.mk (Kd.R_below (zR HO573) hb)
   replace HB := Aside0.mk (below_step (zB HB) hb)
   (try clear hb)
   refine hK.out _ _ trivial (fun hHeld => ?_)
   clear hK K
   refine zn 18 ?_; refine zp 4 19 HT_ ?_; refine zo 5 20 HT_ (fun K hK => ?_)
   refine Kd.R_lit_step k66 _ 66 ?hg (N := 20) ?hd (xs := ([(⟨(⟨t574, t575, t576⟩ : S36), (⟨t577, t578, t579⟩ : S36)⟩ : S66)] : List (S66))) (inner := [.bool t574, .int .u64 t575, .int .u64 t576, .bool t577, .int .u64 t578, .int .u64 t579]) (ok := fun _ => True) (okp := fun _ => True) ?hr ?hp (fun _ hk => hk) trivial (Below.refl _ _) (Nat.le_refl _) (by simp) ?_; (case hd => rfl); (case hg => rfl); (case hr => first | (go_simp; done) | (go_simp; rfl)); (case hp => exact (Reps.c6 (show Kd.M k66 _ _ _ (⟨(⟨t574, t575, t576⟩ : S36), (⟨t577, t578, t579⟩ : S36)⟩ : S66) [.bool t574, .int .u64 t575, .int .u64 t576, .bool t577, .int .u64 t578, .int .u64 t579] from (k66_mkM _ _ _ (⟨(⟨t574, t575, t576⟩ : S36), (⟨t577, t578, t579⟩ : S36)⟩ : S66) )) (Reps.none _ _)))
   intro v581 w161 ho162 hb hg_ hnew_
   clear hg_ hnew_
   (first | rw [← Ny580.out] at ho162 | (simp only [Int.reduceToNat] at ho162; rw [← Ny580.out] at ho162))
   replace HO570 := Aside0.mk (Kd.R_below (zR HO570) hb)
   have HO582 := Aside0.mk (Kd.R_lower (Kd.R_new' (Kd.R_new' (Kd.R_new' ho162 (Kd.R_lt (zR HO558))) (Kd.R_lt (zR HO567))) (Kd.R_lt (zR HO573))) (below_size (zB HB)))
   replace HO558 := Aside0.mk (Kd.R_elder' (zR HO558) (Kd.R_base ho162) hb)
   replace HO567 := Aside0.mk (Kd.R_elder' (zR HO567) (Kd.R_base ho162) hb)
   replace HO573 := Aside0.mk (Kd.R_elder' (zR HO573) (Kd.R_base ho162) hb)
   replace HB := Aside0.mk (below_step (zB HB) hb)
   clear hb ho162
   obtain ⟨Ao163, co163, eo163⟩ := Kd.R_slice HO573.out
   (first | subst eo163 | (injection eo163 with f1_ f2_ f3_; have f4_ := f1_.symm; have f5_ := f3_.symm; clear f1_ f2_ f3_; subst f4_; subst f5_))
   obtain ⟨Ao164, co164, eo164⟩ := Kd.R_slice HO582.out
   (first | subst eo164 | (injection eo164 with f1_ f2_ f3_; have f4_ := f1_.symm; have f5_ := f3_.symm; clear f1_ f2_ f3_; subst f4_; subst f5_))
   refine hK.out _ _ trivial (fun hHeld => ?_)
   clear hK K
   refine zn 20 ?_; refine zo 6 21 HT_ (fun K hK => ?_)
   refine zg Try.func37 #[.slice Ao163 t571.length co163, .slice Ao164 y580.length co164] ?_
   with_reducible refine (intrusionref07_Same.calls k _ _ t571 _ _ y580 false _ ?side1 ?side2 ?side3 ?side4 A11.out).mono ?_
   (case side1 => repeat (first | exact (Kd.R_reads' HO573.out).2.2 | (with_reducible refine Kd.C_alloc ?_ _) | (with_reducible refine Kd.C_drewN ?_ _) | (with_reducible refine Kd.C_drew ?_)))
   (case side2 => exact (Kd.R_reads' HO573.out).2.1)
   (case side3 => repeat (first | exact (Kd.R_reads' HO582.out).2.2 | (with_reducible refine Kd.C_alloc ?_ _) | (with_reducible refine Kd.C_drewN ?_ _) | (with_reducible refine Kd.C_drew ?_)))
   (case side4 => exact (Kd.R_reads' HO582.out).2.1)
   rintro e w' ⟨rfl, ⟨nd, rfl⟩⟩
   refine ⟨_, rfl, ?_⟩
   refine hK.out _ _ trivial (fun hHeld => ?_)
   clear hK K
   refine zn 21 ?_; refine zp 7 22 HT_ ?_; refine zu 8 23 HT_ ?_; refine zu 9 24 HT_ ?_; refine zu 10 25 HT_ ?_; refine zp 11 26 HT_ ?_; refine zp 12 27 HT_ ?_; refine zu 13 28 HT_ ?_; refine zu 14 29 HT_ ?_; refine zu 15 30 HT_ ?_; refine zp 16 31 HT_ ?_; refine zp 17 32 HT_ ?_; refine zu 18 33 HT_ ?_; refine zu 19 34 HT_ ?_; refine zu 20 35 HT_ ?_; refine zu 21 36 HT_ ?_; refine zu 22 37 HT_ ?_; refine zu 23 38 HT_ ?_; refine zp 24 39 HT_ ?_; refine zp 25 40 HT_ ?_; refine zu 26 41 HT_ ?_; refine zu 27 42 HT_ ?_; refine zu 28 43 HT_ ?_; refine zu 29 44 HT_ ?_; refine zu 30 45 HT_ ?_; refine zu 31 46 HT_ ?_; refine zp 32 47 HT_ ?_; refine zp 33 48 HT_ ?_; refine zu 34 49 HT_ ?_; refine zu 35 50 HT_ ?_; refine zu 36 51 HT_ ?_; refine zp 37 52 HT_ ?_; refine zp 38 0 HT_ ?_; refine zd HT_ ?_
   try go_wp2
   go_ret
   exact ⟨by first | rfl | (simp [errW_none, errW_some] <;> rfl) | (simp [*, errW_none, errW_some] <;> rfl), by repeat (first | (with_reducible first | exact HB.out | apply below_alloc | apply pw_below_drewN | apply below_drew1) | exact HB.out)⟩
end Go.Proofs.Ytcgfpffgiimgmaa.Q
end

section
set_option linter.unusedVariables false
set_option linter.unusedSimpArgs false
namespace Go.Proofs.Ytcgfpffgiimgmaa.Q
open Go.RowKit Go.Proofs.YtcgfpffgiimgmaaW.PrintWords Go.Proofs.YtcgfpffgiimgmaaW.PrintLast Go.Proofs.YtcgfpffgiimgmaaW.PrintMore
def address_Previous.f (a0_0 : Bool) (a0_1 : Int) (a0_2 : Int) : Option (Bool × Int × Int × Bool) := if (a0_1 == 0 && (a0_2 == 0)) = true then (some (false, 0, 0, false)) else some (a0_0, (if a0_2 = 0 then IntKind.u64.wrap (a0_1 - 1) else a0_1), IntKind.u64.wrap (a0_2 - 1), true)
set_option maxHeartbeats 1000000 in
set_option maxRecDepth 100000 in
theorem address_Previous.calls (a0_0 : Bool) (a0_1 : Int) (a0_2 : Int) (r1 : Bool) (r2 : Int) (r3 : Int) (r4 : Bool) (w : World) (h : address_Previous.f a0_0 a0_1 a0_2 = some (r1, r2, r3, r4)) :
    Calls Try.prog 115 #[.agg #[.bool a0_0, .int .u64 a0_1, .int .u64 a0_2]] w fun e w' => e = .returned (.tuple #[.agg #[.bool r1, .int .u64 r2, .int .u64 r3], .bool r4]) ∧ Below w.heap.size w w' := by
  unfold address_Previous.f at h
  have hu := Try.underlying36
  by_cases d : (a0_1 == 0 && (a0_2 == 0)) = true
  · rw [if_pos d] at h
    simp only [Option.some.injEq, Prod.mk.injEq] at h
    obtain ⟨rfl, rfl, rfl, rfl⟩ := h
    simp only [Bool.and_eq_true, beq_iff_eq] at d
    obtain ⟨rfl, rfl⟩ := d
    cases a0_0 <;>
    · go_enter Try.func115, Try.ntmps115
      go_wp2
      exact bodyPost_ret (v := .tuple #[.agg #[.bool false, .int .u64 0, .int .u64 0], .bool false]) (by simp [results, Try.results115, go_sem]) rfl ⟨rfl, below_alloc (below_alloc (Below.refl _ _) _) _⟩
  · rw [if_neg d] at h
    simp only [Option.some.injEq, Prod.mk.injEq] at h
    obtain ⟨rfl, h2, rfl, rfl⟩ := h
    have d1 : (a0_1 == 0 && (a0_2 == 0)) = false := by simpa using d
    clear d
    by_cases c : a0_2 = 0
    · rw [if_pos c] at h2
      subst h2
      subst c
      have d2 : (a0_1 == 0) = false := by simpa using d1
      have d3 : decide (a0_1 = 0) = false := by simpa using d2
      clear d1
      cases a0_0 <;>
      · go_enter Try.func115, Try.ntmps115
        go_wp2
        exact bodyPost_ret (v := .tuple #[.agg #[.bool _, .int .u64 (IntKind.u64.wrap (a0_1 - 1)), .int .u64 (IntKind.u64.wrap (0 - 1))], .bool true]) (by simp [results, Try.results115, go_sem]) rfl ⟨rfl, below_alloc (below_alloc (Below.refl _ _) _) _⟩
    · rw [if_neg c] at h2
      subst h2
      have c1 : (a0_2 == 0) = false := by simpa using c
      have c2 : decide (a0_2 = 0) = false := by simpa using c
      clear c
      cases a0_0 <;>
      · go_enter Try.func115, Try.ntmps115
        go_wp2
        exact bodyPost_ret (v := .tuple #[.agg #[.bool _, .int .u64 a0_1, .int .u64 (IntKind.u64.wrap (a0_2 - 1))], .bool true]) (by simp [results, Try.results115, go_sem]) rfl ⟨rfl, below_alloc (below_alloc (Below.refl _ _) _) _⟩
end Go.Proofs.Ytcgfpffgiimgmaa.Q
end

section
namespace Go.Proofs.Ytcgfpffgiimgmaa.Q
open Go.RowKit Go.Proofs.YtcgfpffgiimgmaaW.PrintWords Go.Proofs.YtcgfpffgiimgmaaW.PrintLast Go.Proofs.YtcgfpffgiimgmaaW.PrintMore
attribute [local go_sem] max2_int min2_int max_two min_two max_three min_three max_four min_four
set_option linter.unusedVariables false
set_option linter.unusedSimpArgs false
mutual
def addrset_without.j0 : Nat → Bool → Bool → Int → Int → Bool → Int → Int → Bool → Int → Int → Bool → Int → Int → Option ((List (S66)))
  | 0, _, _, _, _, _, _, _, _, _, _, _, _, _ => none
  | k + 1, x32, x779000, x779001, x779002, x779003, x779004, x779005, x780000, x780001, x780002, x780003, x780004, x780005 => if x32 = true then (some (([(⟨(⟨x779000, x779001, x779002⟩ : S36), (⟨x779003, x779004, x779005⟩ : S36)⟩ : S66)] : List (S66)))) else ((address_Compare.f x779000 x779001 x779002 x780000 x780001 x780002).bind fun t785 => (if t785 < 0 then ((address_Previous.f x780000 x780001 x780002).bind fun bt786 => (if ([] : List (S66)).length < 2932031007402 then (addrset_without.j1 k (([] : List (S66)) ++ [(⟨(⟨x779000, x779001, x779002⟩ : S36), (⟨bt786.1, bt786.2.1, bt786.2.2.1⟩ : S36)⟩ : S66)]) x779000 x779001 x779002 x779003 x779004 x779005 x780000 x780001 x780002 x780003 x780004 x780005) else (none))) else (addrset_without.j1 k ([] : List (S66)) x779000 x779001 x779002 x779003 x779004 x779005 x780000 x780001 x780002 x780003 x780004 x780005)))
def addrset_without.j1 : Nat → List (S66) → Bool → Int → Int → Bool → Int → Int → Bool → Int → Int → Bool → Int → Int → Option ((List (S66)))
  | 0, _, _, _, _, _, _, _, _, _, _, _, _, _ => none
  | k + 1, x5, x779000, x779001, x779002, x779003, x779004, x779005, x780000, x780001, x780002, x780003, x780004, x780005 => (address_Compare.f x780003 x780004 x780005 x779003 x779004 x779005).bind fun t794 => (if t794 < 0 then ((address_Next.f x780003 x780004 x780005).bind fun bt795 => (if x5.length < 2932031007402 then (some (x5 ++ [(⟨(⟨bt795.1, bt795.2.1, bt795.2.2.1⟩ : S36), (⟨x779003, x779004, x779005⟩ : S36)⟩ : S66)])) else (none))) else (some x5))
end
def addrset_without.f (k : Nat) (a0_0 : Bool) (a0_1 : Int) (a0_2 : Int) (a0_3 : Bool) (a0_4 : Int) (a0_5 : Int) (a1_0 : Bool) (a1_1 : Int) (a1_2 : Int) (a1_3 : Bool) (a1_4 : Int) (a1_5 : Int) : Option ((List (S66))) := if (a0_0 != a1_0) = true then (addrset_without.j0 k true a0_0 a0_1 a0_2 a0_3 a0_4 a0_5 a1_0 a1_1 a1_2 a1_3 a1_4 a1_5) else ((address_Compare.f a1_3 a1_4 a1_5 a0_0 a0_1 a0_2).bind fun t780 => (if t780 < 0 then (addrset_without.j0 k true a0_0 a0_1 a0_2 a0_3 a0_4 a0_5 a1_0 a1_1 a1_2 a1_3 a1_4 a1_5) else ((address_Compare.f a0_3 a0_4 a0_5 a1_0 a1_1 a1_2).bind fun t781 => (addrset_without.j0 k (decide (t781 < 0)) a0_0 a0_1 a0_2 a0_3 a0_4 a0_5 a1_0 a1_1 a1_2 a1_3 a1_4 a1_5))))
theorem addrset_without.mono_l : ∀ k, (∀ y0 y1 y2 y3 y4 y5 y6 y7 y8 y9 y10 y11 y12, LeO (addrset_without.j0 k y0 y1 y2 y3 y4 y5 y6 y7 y8 y9 y10 y11 y12) (addrset_without.j0 (k + 1) y0 y1 y2 y3 y4 y5 y6 y7 y8 y9 y10 y11 y12)) ∧ (∀ y0 y1 y2 y3 y4 y5 y6 y7 y8 y9 y10 y11 y12, LeO (addrset_without.j1 k y0 y1 y2 y3 y4 y5 y6 y7 y8 y9 y10 y11 y12) (addrset_without.j1 (k + 1) y0 y1 y2 y3 y4 y5 y6 y7 y8 y9 y10 y11 y12))
  | 0 => ⟨fun _ _ _ _ _ _ _ _ _ _ _ _ _ r h => by simp [addrset_without.j0] at h, fun _ _ _ _ _ _ _ _ _ _ _ _ _ r h => by simp [addrset_without.j1] at h⟩
  | k + 1 => by
    obtain ⟨ih0, ih1⟩ := addrset_without.mono_l k
    refine ⟨?_, ?_⟩
    · intro y0 y1 y2 y3 y4 y5 y6 y7 y8 y9 y10 y11 y12
      unfold addrset_without.j0
      repeat' first
      | (with_reducible exact ih0 _ _ _ _ _ _ _ _ _ _ _ _ _)
      | (with_reducible exact ih1 _ _ _ _ _ _ _ _ _ _ _ _ _)
      | (with_reducible exact LeO.refl _)
      | (with_reducible exact LeO.none _)
      | (with_reducible refine LeO.ite ?_ ?_)
      | (with_reducible refine LeO.bind ?_ (fun _ => ?_))
      | exact ih0 _ _ _ _ _ _ _ _ _ _ _ _ _
      | exact ih1 _ _ _ _ _ _ _ _ _ _ _ _ _
      | exact LeO.none _
      | refine LeO.ite ?_ ?_
      | refine LeO.bind ?_ (fun _ => ?_)
    · intro y0 y1 y2 y3 y4 y5 y6 y7 y8 y9 y10 y11 y12
      unfold addrset_without.j1
      repeat' first
      | (with_reducible exact ih0 _ _ _ _ _ _ _ _ _ _ _ _ _)
      | (with_reducible exact ih1 _ _ _ _ _ _ _ _ _ _ _ _ _)
      | (with_reducible exact LeO.refl _)
      | (with_reducible exact LeO.none _)
      | (with_reducible refine LeO.ite ?_ ?_)
      | (with_reducible refine LeO.bind ?_ (fun _ => ?_))
      | exact ih0 _ _ _ _ _ _ _ _ _ _ _ _ _
      | exact ih1 _ _ _ _ _ _ _ _ _ _ _ _ _
      | exact LeO.none _
      | refine LeO.ite ?_ ?_
      | refine LeO.bind ?_ (fun _ => ?_)
theorem addrset_without.mono : ∀ a0 a1 a2 a3 a4 a5 a6 a7 a8 a9 a10 a11 k, LeO (addrset_without.f k a0 a1 a2 a3 a4 a5 a6 a7 a8 a9 a10 a11) (addrset_without.f (k + 1) a0 a1 a2 a3 a4 a5 a6 a7 a8 a9 a10 a11) := by
  intro a0 a1 a2 a3 a4 a5 a6 a7 a8 a9 a10 a11 k
  obtain ⟨ih0, ih1⟩ := addrset_without.mono_l k
  unfold addrset_without.f
  repeat' first
      | (with_reducible exact ih0 _ _ _ _ _ _ _ _ _ _ _ _ _)
      | (with_reducible exact ih1 _ _ _ _ _ _ _ _ _ _ _ _ _)
      | (with_reducible exact LeO.refl _)
      | (with_reducible exact LeO.none _)
      | (with_reducible refine LeO.ite ?_ ?_)
      | (with_reducible refine LeO.bind ?_ (fun _ => ?_))
      | exact ih0 _ _ _ _ _ _ _ _ _ _ _ _ _
      | exact ih1 _ _ _ _ _ _ _ _ _ _ _ _ _
      | exact LeO.none _
      | refine LeO.ite ?_ ?_
      | refine LeO.bind ?_ (fun _ => ?_)
set_option maxHeartbeats 8000000 in
set_option maxRecDepth 100000 in
theorem addrset_without.calls (k : Nat) (a0_0 : Bool) (a0_1 : Int) (a0_2 : Int) (a0_3 : Bool) (a0_4 : Int) (a0_5 : Int) (a1_0 : Bool) (a1_1 : Int) (a1_2 : Int) (a1_3 : Bool) (a1_4 : Int) (a1_5 : Int) (r : List (S66)) (w : World) (h : addrset_without.f k a0_0 a0_1 a0_2 a0_3 a0_4 a0_5 a1_0 a1_1 a1_2 a1_3 a1_4 a1_5 = some r) :
 Calls Try.prog 96 #[.agg #[.bool a0_0, .int .u64 a0_1, .int .u64 a0_2, .bool a0_3, .int .u64 a0_4, .int .u64 a0_5], .agg #[.bool a1_0, .int .u64 a1_1, .int .u64 a1_2, .bool a1_3, .int .u64 a1_4, .int .u64 a1_5]] w fun e w' => ∃ v0_ : Value, e = .returned (v0_) ∧ Kd.R k66 66 w' w.heap.size (fun _ => True) v0_ r ∧ Below w.heap.size w w' := by
 have hu66 := Try.underlying66
 have hu36 := Try.underlying36
 have HB := Aside0.mk (Below.refl w.heap.size w)
 unfold addrset_without.f at h; have H := h
 clear h
 have HC3 := Aside0.mk H
 clear H
 go_enter Try.func96, Try.ntmps96
 go_upto_region 1 with (first | ((with_reducible refine gate_dst (N := 2) rfl ?_); refine zx 2 #[.bool a0_0, .int .u64 a0_1, .int .u64 a0_2, .bool a0_3, .int .u64 a0_4, .int .u64 a0_5] 66 ?_; intro gb778 hg w4 hbox hb; have BK778 := Aside0.mk (hbox); have GW778 := Aside0.mk ((by rw [hg]; exact (below_size (zB HB)) : w.heap.size ≤ gb778)); have GE778 := Aside0.mk ((by rw [hg]; exact (below_size (zB HB)) : w.heap.size ≤ gb778)); replace HB := Aside0.mk (below_step (zB HB) hb); clear hb hbox hg) | ((with_reducible refine gate_dst (N := 3) rfl ?_); refine zx 3 #[.bool a1_0, .int .u64 a1_1, .int .u64 a1_2, .bool a1_3, .int .u64 a1_4, .int .u64 a1_5] 66 ?_; intro gb779 hg w5 hbox hb; have BK779 := Aside0.mk (hbox); have GW779 := Aside0.mk ((by rw [hg]; exact (below_size (zB HB)) : w.heap.size ≤ gb779)); have GE779 := Aside0.mk ((by rw [hg]; exact (below_size (zB HB)) : w.heap.size ≤ gb779)); replace HB := Aside0.mk (below_step (zB HB) hb); have NB778_779 := Aside0.mk ((by rw [hg]; exact Nat.ne_of_lt (blk_lt (g := gb778) (o := .cells #[.bool a0_0, .int .u64 a0_1, .int .u64 a0_2, .bool a0_3, .int .u64 a0_4, .int .u64 a0_5] 66 (0, 0)) (zK BK778)) : gb778 ≠ gb779)); have NB779_778 := Aside0.mk ((by rw [hg]; exact Nat.ne_of_gt (blk_lt (g := gb778) (o := .cells #[.bool a0_0, .int .u64 a0_1, .int .u64 a0_2, .bool a0_3, .int .u64 a0_4, .int .u64 a0_5] 66 (0, 0)) (zK BK778)) : gb779 ≠ gb778)); replace BK778 := Aside0.mk (blk_below (g := gb778) (o := .cells #[.bool a0_0, .int .u64 a0_1, .int .u64 a0_2, .bool a0_3, .int .u64 a0_4, .int .u64 a0_5] 66 (0, 0)) (zK BK778) hb); clear hb hbox hg))
 (try simp only [Act.put, List.setIfInBounds_toArray, List.set_cons_zero, List.set_cons_succ])
 go_cut [32] (fun v32 wc => ∃ (kq : Nat) (x32_2 : Bool), v32 = .bool x32_2 ∧ Aside0 (addrset_without.j0 kq x32_2 a0_0 a0_1 a0_2 a0_3 a0_4 a0_5 a1_0 a1_1 a1_2 a1_3 a1_4 a1_5 = some r) ∧ Aside0 (kq ≤ k) ∧ Aside0 (wc.heap[gb778]? = some (.cells #[.bool a0_0, .int .u64 a0_1, .int .u64 a0_2, .bool a0_3, .int .u64 a0_4, .int .u64 a0_5] 66 (0, 0))) ∧ Aside0 (wc.heap[gb779]? = some (.cells #[.bool a1_0, .int .u64 a1_1, .int .u64 a1_2, .bool a1_3, .int .u64 a1_4, .int .u64 a1_5] 66 (0, 0))) ∧ Aside0 (Below w.heap.size w wc))
 case first =>
  have H := HC3.out
  clear HC3
  by_cases c6 : (a0_0 != a1_0) = true
  · rw [if_pos c6] at H
    have c6b0 : (a0_0 != a1_0) = true := c6
    (try (have c6b1 : decide (a0_0 = a1_0) = false := by first | (simpa using c6) | exact decide_eq_true (Decidable.not_not.1 (fun hn => c6 (bne_iff_ne.2 hn))) | exact beq_iff_eq.2 (Decidable.not_not.1 (fun hn => c6 (bne_iff_ne.2 hn))) | exact decide_eq_false (bne_iff_ne.1 c6) | exact beq_eq_false_iff_ne.2 (bne_iff_ne.1 c6) | exact bne_iff_ne.1 c6))
    (try (have c6b2 : (a0_0 == a1_0) = false := by first | (simpa using c6) | exact decide_eq_true (Decidable.not_not.1 (fun hn => c6 (bne_iff_ne.2 hn))) | exact beq_iff_eq.2 (Decidable.not_not.1 (fun hn => c6 (bne_iff_ne.2 hn))) | exact decide_eq_false (bne_iff_ne.1 c6) | exact beq_eq_false_iff_ne.2 (bne_iff_ne.1 c6) | exact bne_iff_ne.1 c6))
    (try (have c6b3 : ¬ (a0_0 = a1_0) := by first | (simpa using c6) | exact decide_eq_true (Decidable.not_not.1 (fun hn => c6 (bne_iff_ne.2 hn))) | exact beq_iff_eq.2 (Decidable.not_not.1 (fun hn => c6 (bne_iff_ne.2 hn))) | exact decide_eq_false (bne_iff_ne.1 c6) | exact beq_eq_false_iff_ne.2 (bne_iff_ne.1 c6) | exact bne_iff_ne.1 c6))
    clear c6
    (first | rw [c6b0] | (simp only [i64_w, i32_w]; rw [c6b0]) | skip)
    have H' := Aside0.mk H
    clear H
    have hnb7 := NB778_779.out
    have hnc7 := NB779_778.out
    obtain ⟨hcz8_0, hcz8_1, hcz8_2, hcz8_3, hcz8_4, hcz8_5⟩ := zc6 BK778
    obtain ⟨hfz8_0, hfz8_1, hfz8_2, hfz8_3, hfz8_4, hfz8_5⟩ := zf6 BK778
    obtain ⟨hcz9_0, hcz9_1, hcz9_2, hcz9_3, hcz9_4, hcz9_5⟩ := zc6 BK779
    obtain ⟨hfz9_0, hfz9_1, hfz9_2, hfz9_3, hfz9_4, hfz9_5⟩ := zf6 BK779
    go_wp2
    go_meet
    case rel => exact ⟨_, (true), (by first | rfl | (simp; done) | (simp [*]; done)), H', ⟨by first | omega | exact Nat.le_refl _⟩, ⟨zK BK778⟩, ⟨zK BK779⟩, ⟨zB HB⟩⟩
  · rw [if_neg c6] at H
    have c6b0 : (a0_0 != a1_0) = false := by simpa using c6
    (try (have c6b1 : decide (a0_0 = a1_0) = true := by first | (simpa using c6) | exact decide_eq_true (Decidable.not_not.1 (fun hn => c6 (bne_iff_ne.2 hn))) | exact beq_iff_eq.2 (Decidable.not_not.1 (fun hn => c6 (bne_iff_ne.2 hn))) | exact decide_eq_false (bne_iff_ne.1 c6) | exact beq_eq_false_iff_ne.2 (bne_iff_ne.1 c6) | exact bne_iff_ne.1 c6))
    (try (have c6b2 : (a0_0 == a1_0) = true := by first | (simpa using c6) | exact decide_eq_true (Decidable.not_not.1 (fun hn => c6 (bne_iff_ne.2 hn))) | exact beq_iff_eq.2 (Decidable.not_not.1 (fun hn => c6 (bne_iff_ne.2 hn))) | exact decide_eq_false (bne_iff_ne.1 c6) | exact beq_eq_false_iff_ne.2 (bne_iff_ne.1 c6) | exact bne_iff_ne.1 c6))
    clear c6
    (first | rw [c6b0] | (simp only [i64_w, i32_w]; rw [c6b0]) | skip)
    replace H := Option.bind_eq_some_iff.mp H
    obtain ⟨t780, A100, H⟩ := H
    try dsimp only at H
    have A10 := Aside0.mk A100
    clear A100
    by_cases c11 : t780 < 0
    · rw [if_pos c11] at H
      have c11b0 : decide (t780 < 0) = true := decide_eq_true c11
      clear c11
      have H' := Aside0.mk H
      clear H
      have hnb12 := NB778_779.out
      have hnc12 := NB779_778.out
      obtain ⟨hcz13_0, hcz13_1, hcz13_2, hcz13_3, hcz13_4, hcz13_5⟩ := zc6 BK778
      obtain ⟨hfz13_0, hfz13_1, hfz13_2, hfz13_3, hfz13_4, hfz13_5⟩ := zf6 BK778
      obtain ⟨hcz14_0, hcz14_1, hcz14_2, hcz14_3, hcz14_4, hcz14_5⟩ := zc6 BK779
      obtain ⟨hfz14_0, hfz14_1, hfz14_2, hfz14_3, hfz14_4, hfz14_5⟩ := zf6 BK779
      go_wp2_with (first | (go_at_call 75; (with_reducible refine (address_Compare.calls a1_3 a1_4 a1_5 a0_0 a0_1 a0_2 t780 _ A10.out).mono ?_); rintro e w15 ⟨rfl, hb⟩; replace BK778 := Aside0.mk (blk_below (g := gb778) (o := .cells #[.bool a0_0, .int .u64 a0_1, .int .u64 a0_2, .bool a0_3, .int .u64 a0_4, .int .u64 a0_5] 66 (0, 0)) (zK BK778) hb); replace BK779 := Aside0.mk (blk_below (g := gb779) (o := .cells #[.bool a1_0, .int .u64 a1_1, .int .u64 a1_2, .bool a1_3, .int .u64 a1_4, .int .u64 a1_5] 66 (0, 0)) (zK BK779) hb); replace HB := Aside0.mk (below_step (zB HB) hb); (try clear hb)))
      go_meet
      case rel => exact ⟨_, (true), (by first | rfl | (simp; done) | (simp [*]; done)), H', ⟨by first | omega | exact Nat.le_refl _⟩, ⟨zK BK778⟩, ⟨zK BK779⟩, ⟨zB HB⟩⟩
    · rw [if_neg c11] at H
      have c11b0 : decide (t780 < 0) = false := decide_eq_false c11
      clear c11
      replace H := Option.bind_eq_some_iff.mp H
      obtain ⟨t781, A160, H⟩ := H
      try dsimp only at H
      have A16 := Aside0.mk A160
      clear A160
      have H' := Aside0.mk H
      clear H
      have hnb17 := NB778_779.out
      have hnc17 := NB779_778.out
      obtain ⟨hcz18_0, hcz18_1, hcz18_2, hcz18_3, hcz18_4, hcz18_5⟩ := zc6 BK778
      obtain ⟨hfz18_0, hfz18_1, hfz18_2, hfz18_3, hfz18_4, hfz18_5⟩ := zf6 BK778
      obtain ⟨hcz19_0, hcz19_1, hcz19_2, hcz19_3, hcz19_4, hcz19_5⟩ := zc6 BK779
      obtain ⟨hfz19_0, hfz19_1, hfz19_2, hfz19_3, hfz19_4, hfz19_5⟩ := zf6 BK779
      go_wp2_with (first | (go_at_call 75; (with_reducible refine (address_Compare.calls a1_3 a1_4 a1_5 a0_0 a0_1 a0_2 t780 _ A10.out).mono ?_); rintro e w20 ⟨rfl, hb⟩; replace BK778 := Aside0.mk (blk_below (g := gb778) (o := .cells #[.bool a0_0, .int .u64 a0_1, .int .u64 a0_2, .bool a0_3, .int .u64 a0_4, .int .u64 a0_5] 66 (0, 0)) (zK BK778) hb); replace BK779 := Aside0.mk (blk_below (g := gb779) (o := .cells #[.bool a1_0, .int .u64 a1_1, .int .u64 a1_2, .bool a1_3, .int .u64 a1_4, .int .u64 a1_5] 66 (0, 0)) (zK BK779) hb); replace HB := Aside0.mk (below_step (zB HB) hb); (try clear hb); obtain ⟨hcz21_0, hcz21_1, hcz21_2, hcz21_3, hcz21_4, hcz21_5⟩ := zc6 BK778; obtain ⟨hfz21_0, hfz21_1, hfz21_2, hfz21_3, hfz21_4, hfz21_5⟩ := zf6 BK778; obtain ⟨hcz22_0, hcz22_1, hcz22_2, hcz22_3, hcz22_4, hcz22_5⟩ := zc6 BK779; obtain ⟨hfz22_0, hfz22_1, hfz22_2, hfz22_3, hfz22_4, hfz22_5⟩ := zf6 BK779) | (go_at_call 75; (with_reducible refine (address_Compare.calls a0_3 a0_4 a0_5 a1_0 a1_1 a1_2 t781 _ A16.out).mono ?_); rintro e w23 ⟨rfl, hb⟩; replace BK778 := Aside0.mk (blk_below (g := gb778) (o := .cells #[.bool a0_0, .int .u64 a0_1, .int .u64 a0_2, .bool a0_3, .int .u64 a0_4, .int .u64 a0_5] 66 (0, 0)) (zK BK778) hb); replace BK779 := Aside0.mk (blk_below (g := gb779) (o := .cells #[.bool a1_0, .int .u64 a1_1, .int .u64 a1_2, .bool a1_3, .int .u64 a1_4, .int .u64 a1_5] 66 (0, 0)) (zK BK779) hb); replace HB := Aside0.mk (below_step (zB HB) hb); (try clear hb)))
      go_meet
      case rel => exact ⟨_, (decide (t781 < 0)), (by first | rfl | (simp; done) | (simp [*]; done)), H', ⟨by first | omega | exact Nat.le_refl _⟩, ⟨zK BK778⟩, ⟨zK BK779⟩, ⟨zB HB⟩⟩
 case rest =>
  clear HC3
  try clear c1
  try clear p2
  try clear c6
  try clear c6b0
  try clear c6b1
  try clear c6b2
  try clear c7
  try clear c9
  try clear c11
  try clear c11b0
  try clear c12
  try clear c17
  try clear hcz13_0
  try clear hcz13_1
  try clear hcz13_2
  try clear hcz13_3
  try clear hcz13_4
  try clear hcz13_5
  try clear hcz14_0
  try clear hcz14_1
  try clear hcz14_2
  try clear hcz14_3
  try clear hcz14_4
  try clear hcz14_5
  try clear hcz18_0
  try clear hcz18_1
  try clear hcz18_2
  try clear hcz18_3
  try clear hcz18_4
  try clear hcz18_5
  try clear hcz19_0
  try clear hcz19_1
  try clear hcz19_2
  try clear hcz19_3
  try clear hcz19_4
  try clear hcz19_5
  try clear hcz21_0
  try clear hcz21_1
  try clear hcz21_2
  try clear hcz21_3
  try clear hcz21_4
  try clear hcz21_5
  try clear hcz22_0
  try clear hcz22_1
  try clear hcz22_2
  try clear hcz22_3
  try clear hcz22_4
  try clear hcz22_5
  try clear hcz8_0
  try clear hcz8_1
  try clear hcz8_2
  try clear hcz8_3
  try clear hcz8_4
  try clear hcz8_5
  try clear hcz9_0
  try clear hcz9_1
  try clear hcz9_2
  try clear hcz9_3
  try clear hcz9_4
  try clear hcz9_5
  try clear hfz13_0
  try clear hfz13_1
  try clear hfz13_2
  try clear hfz13_3
  try clear hfz13_4
  try clear hfz13_5
  try clear hfz14_0
  try clear hfz14_1
  try clear hfz14_2
  try clear hfz14_3
  try clear hfz14_4
  try clear hfz14_5
  try clear hfz18_0
  try clear hfz18_1
  try clear hfz18_2
  try clear hfz18_3
  try clear hfz18_4
  try clear hfz18_5
  try clear hfz19_0
  try clear hfz19_1
  try clear hfz19_2
  try clear hfz19_3
  try clear hfz19_4
  try clear hfz19_5
  try clear hfz21_0
  try clear hfz21_1
  try clear hfz21_2
  try clear hfz21_3
  try clear hfz21_4
  try clear hfz21_5
  try clear hfz22_0
  try clear hfz22_1
  try clear hfz22_2
  try clear hfz22_3
  try clear hfz22_4
  try clear hfz22_5
  try clear hfz8_0
  try clear hfz8_1
  try clear hfz8_2
  try clear hfz8_3
  try clear hfz8_4
  try clear hfz8_5
  try clear hfz9_0
  try clear hfz9_1
  try clear hfz9_2
  try clear hfz9_3
  try clear hfz9_4
  try clear hfz9_5
  obtain ⟨kq, x32_2, rfl, HA, HJ2, BK778, BK779, HB⟩ := hcut
  cases kq with
  | zero => exact absurd HA.out (by simp [addrset_without.j0])
  | succ kj2 =>
   have H := HA.out
   clear HA
   simp only [addrset_without.j0] at H
   by_cases c24 : x32_2 = true
   · subst c24
     rw [if_pos rfl] at H
     obtain ⟨y782, hy782⟩ : ∃ y_ : List (S66), y_ = (([(⟨(⟨a0_0, a0_1, a0_2⟩ : S36), (⟨a0_3, a0_4, a0_5⟩ : S36)⟩ : S66)] : List (S66))) := ⟨_, rfl⟩
     rw [← hy782] at H; try dsimp only [Option.bind_some] at H
     have Ny782 := Aside0.mk hy782
     clear hy782
     obtain rfl := Option.some.inj H
     have hnb25 := NB778_779.out
     have hnc25 := NB779_778.out
     obtain ⟨hcz26_0, hcz26_1, hcz26_2, hcz26_3, hcz26_4, hcz26_5⟩ := zc6 BK778
     obtain ⟨hfz26_0, hfz26_1, hfz26_2, hfz26_3, hfz26_4, hfz26_5⟩ := zf6 BK778
     go_wp2_with (first | ((with_reducible refine gate_dst (N := 34) rfl ?_); refine Kd.R_lit k66 _ 66 ?hg (N := 34) ?hd (xs := ([(⟨(⟨a0_0, a0_1, a0_2⟩ : S36), (⟨a0_3, a0_4, a0_5⟩ : S36)⟩ : S66)] : List (S66))) (inner := [.bool a0_0, .int .u64 a0_1, .int .u64 a0_2, .bool a0_3, .int .u64 a0_4, .int .u64 a0_5]) (ok := fun _ => True) (okp := fun _ => True) ?hr ?hp (fun _ hk => hk) trivial (Below.refl _ _) (Nat.le_refl _) (by simp) ?_; (case hd => rfl); (case hg => rfl); (case hr => first | (go_simp; done) | (go_simp; rfl)); (case hp => exact (Reps.c6 (show Kd.M k66 _ _ _ (⟨(⟨a0_0, a0_1, a0_2⟩ : S36), (⟨a0_3, a0_4, a0_5⟩ : S36)⟩ : S66) [.bool a0_0, .int .u64 a0_1, .int .u64 a0_2, .bool a0_3, .int .u64 a0_4, .int .u64 a0_5] from (k66_mkM _ _ _ (⟨(⟨a0_0, a0_1, a0_2⟩ : S36), (⟨a0_3, a0_4, a0_5⟩ : S36)⟩ : S66) )) (Reps.none _ _))); intro v783 w27 ho28 hb hg_ hnew_; clear hg_ hnew_; (first | rw [← Ny782.out] at ho28 | (simp only [Int.reduceToNat] at ho28; rw [← Ny782.out] at ho28)); have HO784 := Aside0.mk (Kd.R_lower (Kd.R_newB (Kd.R_newB ho28 (g := gb778) (o := .cells #[.bool a0_0, .int .u64 a0_1, .int .u64 a0_2, .bool a0_3, .int .u64 a0_4, .int .u64 a0_5] 66 (0, 0)) (zK BK778)) (g := gb779) (o := .cells #[.bool a1_0, .int .u64 a1_1, .int .u64 a1_2, .bool a1_3, .int .u64 a1_4, .int .u64 a1_5] 66 (0, 0)) (zK BK779)) (below_size (zB HB))); replace BK778 := Aside0.mk (blk_below (g := gb778) (o := .cells #[.bool a0_0, .int .u64 a0_1, .int .u64 a0_2, .bool a0_3, .int .u64 a0_4, .int .u64 a0_5] 66 (0, 0)) (zK BK778) hb); replace BK779 := Aside0.mk (blk_below (g := gb779) (o := .cells #[.bool a1_0, .int .u64 a1_1, .int .u64 a1_2, .bool a1_3, .int .u64 a1_4, .int .u64 a1_5] 66 (0, 0)) (zK BK779) hb); replace HB := Aside0.mk (below_step (zB HB) hb); clear hb ho28))
     go_ret
     exact ⟨_, by first | rfl | (simp [errW_none, errW_some] <;> rfl) | (simp [*, errW_none, errW_some] <;> rfl), by (with_reducible repeat (first | apply Kd.R_alloc | apply Kd.R_drewN | apply Kd.R_drew)); exact Kd.R_mono HO784.out (fun _ hk => trivial), by repeat (first | (with_reducible first | exact HB.out | apply below_alloc | apply pw_below_drewN | apply below_drew1 | refine below_set ?_ GE778.out | refine below_set ?_ GE779.out) | exact HB.out)⟩
   · replace c24 := Bool.eq_false_iff.mpr c24
     subst c24
     rw [if_neg zF] at H
     replace H := Option.bind_eq_some_iff.mp H
     obtain ⟨t785, A290, H⟩ := H
     try dsimp only at H
     have A29 := Aside0.mk A290
     clear A290
     have HC30 := Aside0.mk H
     clear H
     have hnb31 := NB778_779.out
     have hnc31 := NB779_778.out
     obtain ⟨hcz32_0, hcz32_1, hcz32_2, hcz32_3, hcz32_4, hcz32_5⟩ := zc6 BK778
     obtain ⟨hfz32_0, hfz32_1, hfz32_2, hfz32_3, hfz32_4, hfz32_5⟩ := zf6 BK778
     obtain ⟨hcz33_0, hcz33_1, hcz33_2, hcz33_3, hcz33_4, hcz33_5⟩ := zc6 BK779
     obtain ⟨hfz33_0, hfz33_1, hfz33_2, hfz33_3, hfz33_4, hfz33_5⟩ := zf6 BK779
     go_upto_if 40 with (first | ((with_reducible refine gate_callee (f := 75) rfl ?_); refine goesL_ (some 39) rfl rfl Try.func75 (by kernel_rfl) rfl #[.agg #[.bool a0_0, .int .u64 a0_1, .int .u64 a0_2], .agg #[.bool a1_0, .int .u64 a1_1, .int .u64 a1_2]] rfl (by (try simp only [List.map_toArray, List.map_cons, List.map_nil]); first | done | rfl | (simp only [List.length_drop, List.length_take]; rfl)) ?_; (with_reducible refine (address_Compare.calls a0_0 a0_1 a0_2 a1_0 a1_1 a1_2 t785 _ A29.out).mono ?_); rintro e w34 ⟨rfl, hb⟩; refine ⟨_, rfl, ?_⟩; replace BK778 := Aside0.mk (blk_below (g := gb778) (o := .cells #[.bool a0_0, .int .u64 a0_1, .int .u64 a0_2, .bool a0_3, .int .u64 a0_4, .int .u64 a0_5] 66 (0, 0)) (zK BK778) hb); replace BK779 := Aside0.mk (blk_below (g := gb779) (o := .cells #[.bool a1_0, .int .u64 a1_1, .int .u64 a1_2, .bool a1_3, .int .u64 a1_4, .int .u64 a1_5] 66 (0, 0)) (zK BK779) hb); replace HB := Aside0.mk (below_step (zB HB) hb); (try clear hb)))
     (try simp only [Act.put, List.setIfInBounds_toArray, List.set_cons_zero, List.set_cons_succ])
     go_cut [5] (fun v5 wc => ∃ (kq : Nat) (x5_29 : List (S66)), Aside0 (addrset_without.j1 kq x5_29 a0_0 a0_1 a0_2 a0_3 a0_4 a0_5 a1_0 a1_1 a1_2 a1_3 a1_4 a1_5 = some r) ∧ Aside0 (kq ≤ kj2) ∧ Aside0 (Kd.R k66 66 wc w.heap.size (fun k_ => k_ ≠ gb778 ∧ k_ ≠ gb779) v5 x5_29) ∧ Aside0 (wc.heap[gb778]? = some (.cells #[.bool a0_0, .int .u64 a0_1, .int .u64 a0_2, .bool a0_3, .int .u64 a0_4, .int .u64 a0_5] 66 (0, 0))) ∧ Aside0 (wc.heap[gb779]? = some (.cells #[.bool a1_0, .int .u64 a1_1, .int .u64 a1_2, .bool a1_3, .int .u64 a1_4, .int .u64 a1_5] 66 (0, 0))) ∧ Aside0 (Below w.heap.size w wc))
     case first =>
      have H := HC30.out
      clear HC30
      by_cases c35 : t785 < 0
      · rw [if_pos c35] at H
        have c35b0 : decide (t785 < 0) = true := decide_eq_true c35
        clear c35
        (first | rw [c35b0] | (simp only [i64_w, i32_w]; rw [c35b0]) | skip)
        replace H := Option.bind_eq_some_iff.mp H
        obtain ⟨⟨t786, t787, t788, t789⟩, A360, H⟩ := H
        try dsimp only at H
        have A36 := Aside0.mk A360
        clear A360
        by_cases c37 : ([] : List (S66)).length < 2932031007402
        · rw [if_pos c37] at H
          have LMc37 := Aside0.mk c37
          clear c37
          obtain ⟨y791, hy791⟩ : ∃ y_ : List (S66), y_ = (([] : List (S66)) ++ [(⟨(⟨a0_0, a0_1, a0_2⟩ : S36), (⟨t786, t787, t788⟩ : S36)⟩ : S66)]) := ⟨_, rfl⟩
          rw [← hy791] at H; try dsimp only [Option.bind_some] at H
          have Ny791 := Aside0.mk hy791
          clear hy791
          have H' := Aside0.mk H
          clear H
          have hnb38 := NB779_778.out
          have hnc38 := NB778_779.out
          obtain ⟨hcz39_0, hcz39_1, hcz39_2, hcz39_3, hcz39_4, hcz39_5⟩ := zc6 BK779
          obtain ⟨hfz39_0, hfz39_1, hfz39_2, hfz39_3, hfz39_4, hfz39_5⟩ := zf6 BK779
          go_wp2_with (first | ((with_reducible refine gate_callee (f := 115) rfl ?_); refine goesL_ (some 44) rfl rfl Try.func115 (by kernel_rfl) rfl #[.agg #[.bool a1_0, .int .u64 a1_1, .int .u64 a1_2]] rfl (by (try simp only [List.map_toArray, List.map_cons, List.map_nil]); first | done | rfl | (simp only [List.length_drop, List.length_take]; rfl)) ?_; (with_reducible refine (address_Previous.calls a1_0 a1_1 a1_2 t786 t787 t788 t789 _ A36.out).mono ?_); rintro e w40 ⟨rfl, hb⟩; refine ⟨_, rfl, ?_⟩; replace BK778 := Aside0.mk (blk_below (g := gb778) (o := .cells #[.bool a0_0, .int .u64 a0_1, .int .u64 a0_2, .bool a0_3, .int .u64 a0_4, .int .u64 a0_5] 66 (0, 0)) (zK BK778) hb); replace BK779 := Aside0.mk (blk_below (g := gb779) (o := .cells #[.bool a1_0, .int .u64 a1_1, .int .u64 a1_2, .bool a1_3, .int .u64 a1_4, .int .u64 a1_5] 66 (0, 0)) (zK BK779) hb); replace HB := Aside0.mk (below_step (zB HB) hb); (try clear hb)) | ((with_reducible refine gate_dst (N := 6) rfl ?_); refine zx 6 #[.bool false, .int .u64 0, .int .u64 0] 36 ?_; intro gb790 hg w41 hbox hb; have BK790 := Aside0.mk (hbox); have GW790 := Aside0.mk ((by rw [hg]; exact (below_size (zB HB)) : w.heap.size ≤ gb790)); have GE790 := Aside0.mk ((by rw [hg]; exact (below_size (zB HB)) : w.heap.size ≤ gb790)); replace HB := Aside0.mk (below_step (zB HB) hb); have NB778_790 := Aside0.mk ((by rw [hg]; exact Nat.ne_of_lt (blk_lt (g := gb778) (o := .cells #[.bool a0_0, .int .u64 a0_1, .int .u64 a0_2, .bool a0_3, .int .u64 a0_4, .int .u64 a0_5] 66 (0, 0)) (zK BK778)) : gb778 ≠ gb790)); have NB790_778 := Aside0.mk ((by rw [hg]; exact Nat.ne_of_gt (blk_lt (g := gb778) (o := .cells #[.bool a0_0, .int .u64 a0_1, .int .u64 a0_2, .bool a0_3, .int .u64 a0_4, .int .u64 a0_5] 66 (0, 0)) (zK BK778)) : gb790 ≠ gb778)); replace BK778 := Aside0.mk (blk_below (g := gb778) (o := .cells #[.bool a0_0, .int .u64 a0_1, .int .u64 a0_2, .bool a0_3, .int .u64 a0_4, .int .u64 a0_5] 66 (0, 0)) (zK BK778) hb); have NB779_790 := Aside0.mk ((by rw [hg]; exact Nat.ne_of_lt (blk_lt (g := gb779) (o := .cells #[.bool a1_0, .int .u64 a1_1, .int .u64 a1_2, .bool a1_3, .int .u64 a1_4, .int .u64 a1_5] 66 (0, 0)) (zK BK779)) : gb779 ≠ gb790)); have NB790_779 := Aside0.mk ((by rw [hg]; exact Nat.ne_of_gt (blk_lt (g := gb779) (o := .cells #[.bool a1_0, .int .u64 a1_1, .int .u64 a1_2, .bool a1_3, .int .u64 a1_4, .int .u64 a1_5] 66 (0, 0)) (zK BK779)) : gb790 ≠ gb779)); replace BK779 := Aside0.mk (blk_below (g := gb779) (o := .cells #[.bool a1_0, .int .u64 a1_1, .int .u64 a1_2, .bool a1_3, .int .u64 a1_4, .int .u64 a1_5] 66 (0, 0)) (zK BK779) hb); clear hb hbox hg; have hnb42 := NB790_778.out; have hnc42 := NB778_790.out; have hnb43 := NB790_779.out; have hnc43 := NB779_790.out; obtain ⟨hcz44_0, hcz44_1, hcz44_2⟩ := zc3 BK790; obtain ⟨hfz44_0, hfz44_1, hfz44_2⟩ := zf3 BK790; obtain ⟨hcz45_0, hcz45_1, hcz45_2, hcz45_3, hcz45_4, hcz45_5⟩ := zc6 BK778; obtain ⟨hfz45_0, hfz45_1, hfz45_2, hfz45_3, hfz45_4, hfz45_5⟩ := zf6 BK778) | ((with_reducible refine gate_builtin (b := .append) (xs := #[.tmp 47, .tmp 52]) rfl ?_); at_builtin; refine Kd.R_append k66 (w0 := w) w.heap.size rfl (.tmp 47) (.tmp 52) 33 66 (.agg #[(.bool false), (.int .u64 0), (.int .u64 0), (.bool false), (.int .u64 0), (.int .u64 0)]) 48 rfl Try.underlying33 info66 rfl (by decide) (by omega) (.slice none 0 0) ([] : List (S66)) (⟨(⟨a0_0, a0_1, a0_2⟩ : S36), (⟨t786, t787, t788⟩ : S36)⟩ : S66) [.bool a0_0, .int .u64 a0_1, .int .u64 a0_2, .bool t786, .int .u64 t787, .int .u64 t788] (fun k_ => k_ ≠ gb778 ∧ k_ ≠ gb779) (fun _ => False) rfl (by first | (go_simp; done) | (go_simp; rfl)) ?aP (fun _ hk => hk.elim) ?aF ?aO ?aB ?aS ?aL ?_; (case aP => exact k66_mkM _ _ _ (⟨(⟨a0_0, a0_1, a0_2⟩ : S36), (⟨t786, t787, t788⟩ : S36)⟩ : S66)); (case aB => exact (zB HB)); (case aF => exact (fun k_ hk => ⟨Kd.freshB (g := gb778) (o := .cells #[.bool a0_0, .int .u64 a0_1, .int .u64 a0_2, .bool a0_3, .int .u64 a0_4, .int .u64 a0_5] 66 (0, 0)) (by refine zL ?_; refine blk_far ?_ NB778_790.out _; refine zL ?_; refine blk_far ?_ NB778_790.out _; refine zL ?_; refine blk_far ?_ NB778_790.out _; refine zL ?_; exact BK778.out) k_ hk, Kd.freshB (g := gb779) (o := .cells #[.bool a1_0, .int .u64 a1_1, .int .u64 a1_2, .bool a1_3, .int .u64 a1_4, .int .u64 a1_5] 66 (0, 0)) (by refine zL ?_; refine blk_far ?_ NB779_790.out _; refine zL ?_; refine blk_far ?_ NB779_790.out _; refine zL ?_; refine blk_far ?_ NB779_790.out _; refine zL ?_; exact BK779.out) k_ hk⟩)); (case aO => exact ((Kd.R_nil _ _ _ _ (fun k_ => k_ ≠ gb778 ∧ k_ ≠ gb779)))); (case aS => exact (below_size (zB HB))); (case aL => have := LMc37.out; omega); intro v792 w46 ho hb hg hat; rw [← Ny791.out] at ho; replace BK778 := Aside0.mk (blk_grown (g := gb778) (o := .cells #[.bool a0_0, .int .u64 a0_1, .int .u64 a0_2, .bool a0_3, .int .u64 a0_4, .int .u64 a0_5] 66 (0, 0)) (by refine zL ?_; refine blk_far ?_ NB778_790.out _; refine zL ?_; refine blk_far ?_ NB778_790.out _; refine zL ?_; refine blk_far ?_ NB778_790.out _; refine zL ?_; exact BK778.out) hg (by simp [Value.ownBlock])); replace BK779 := Aside0.mk (blk_grown (g := gb779) (o := .cells #[.bool a1_0, .int .u64 a1_1, .int .u64 a1_2, .bool a1_3, .int .u64 a1_4, .int .u64 a1_5] 66 (0, 0)) (by refine zL ?_; refine blk_far ?_ NB779_790.out _; refine zL ?_; refine blk_far ?_ NB779_790.out _; refine zL ?_; refine blk_far ?_ NB779_790.out _; refine zL ?_; exact BK779.out) hg (by simp [Value.ownBlock])); replace BK790 := Aside0.mk (blk_grown (g := gb790) (o := .cells #[.bool t786, .int .u64 t787, .int .u64 t788] 36 (0, 0)) (by refine zL ?_; refine blk_put (cs := #[.bool t786, .int .u64 t787, .int .u64 0]) ?_ 2 _ rfl; refine zL ?_; refine blk_put (cs := #[.bool t786, .int .u64 0, .int .u64 0]) ?_ 1 _ rfl; refine zL ?_; refine blk_put (cs := #[.bool false, .int .u64 0, .int .u64 0]) ?_ 0 _ rfl; refine zL ?_; exact BK790.out) hg (by simp [Value.ownBlock])); replace HB := Aside0.mk (hb); have HO793 := Aside0.mk (ho); clear ho hb hg hat))
          go_meet
          case rel => exact ⟨_, (y791), H', ⟨by have := HJ2.out; first | omega | exact Nat.le_refl _⟩, ⟨zR HO793⟩, ⟨zK BK778⟩, ⟨zK BK779⟩, ⟨zB HB⟩⟩
        · rw [if_neg c37] at H
          exact absurd H (by simp)
      · rw [if_neg c35] at H
        have c35b0 : decide (t785 < 0) = false := decide_eq_false c35
        clear c35
        (first | rw [c35b0] | (simp only [i64_w, i32_w]; rw [c35b0]) | skip)
        have H' := Aside0.mk H
        clear H
        go_wp2
        go_meet
        case rel => exact ⟨_, (([] : List (S66))), H', ⟨by have := HJ2.out; first | omega | exact Nat.le_refl _⟩, ⟨by first | exact Kd.R_nil _ _ _ _ _ | exact Kd.N_nil _ _ _ _ _ | exact Kd.V_nil _ _ _ _ _ | exact Kd.Q_nil _ _ _ _ _ | exact Kd.S_nil _ _ _ _ _⟩, ⟨zK BK778⟩, ⟨zK BK779⟩, ⟨zB HB⟩⟩
     case rest =>
      clear HC30
      try clear c1
      try clear c2
      try clear p2
      try clear c3
      try clear c4
      try clear c6
      try clear c6b0
      try clear c6b1
      try clear c6b2
      try clear c7
      try clear c9
      try clear c11
      try clear c11b0
      try clear c12
      try clear c17
      try clear c24
      try clear c25
      try clear c31
      try clear c35
      try clear c35b0
      try clear c37
      try clear c38
      try clear c42
      try clear c43
      try clear hcz13_0
      try clear hcz13_1
      try clear hcz13_2
      try clear hcz13_3
      try clear hcz13_4
      try clear hcz13_5
      try clear hcz14_0
      try clear hcz14_1
      try clear hcz14_2
      try clear hcz14_3
      try clear hcz14_4
      try clear hcz14_5
      try clear hcz18_0
      try clear hcz18_1
      try clear hcz18_2
      try clear hcz18_3
      try clear hcz18_4
      try clear hcz18_5
      try clear hcz19_0
      try clear hcz19_1
      try clear hcz19_2
      try clear hcz19_3
      try clear hcz19_4
      try clear hcz19_5
      try clear hcz21_0
      try clear hcz21_1
      try clear hcz21_2
      try clear hcz21_3
      try clear hcz21_4
      try clear hcz21_5
      try clear hcz22_0
      try clear hcz22_1
      try clear hcz22_2
      try clear hcz22_3
      try clear hcz22_4
      try clear hcz22_5
      try clear hcz26_0
      try clear hcz26_1
      try clear hcz26_2
      try clear hcz26_3
      try clear hcz26_4
      try clear hcz26_5
      try clear hcz32_0
      try clear hcz32_1
      try clear hcz32_2
      try clear hcz32_3
      try clear hcz32_4
      try clear hcz32_5
      try clear hcz33_0
      try clear hcz33_1
      try clear hcz33_2
      try clear hcz33_3
      try clear hcz33_4
      try clear hcz33_5
      try clear hcz39_0
      try clear hcz39_1
      try clear hcz39_2
      try clear hcz39_3
      try clear hcz39_4
      try clear hcz39_5
      try clear hcz44_0
      try clear hcz44_1
      try clear hcz44_2
      try clear hcz45_0
      try clear hcz45_1
      try clear hcz45_2
      try clear hcz45_3
      try clear hcz45_4
      try clear hcz45_5
      try clear hcz8_0
      try clear hcz8_1
      try clear hcz8_2
      try clear hcz8_3
      try clear hcz8_4
      try clear hcz8_5
      try clear hcz9_0
      try clear hcz9_1
      try clear hcz9_2
      try clear hcz9_3
      try clear hcz9_4
      try clear hcz9_5
      try clear hfz13_0
      try clear hfz13_1
      try clear hfz13_2
      try clear hfz13_3
      try clear hfz13_4
      try clear hfz13_5
      try clear hfz14_0
      try clear hfz14_1
      try clear hfz14_2
      try clear hfz14_3
      try clear hfz14_4
      try clear hfz14_5
      try clear hfz18_0
      try clear hfz18_1
      try clear hfz18_2
      try clear hfz18_3
      try clear hfz18_4
      try clear hfz18_5
      try clear hfz19_0
      try clear hfz19_1
      try clear hfz19_2
      try clear hfz19_3
      try clear hfz19_4
      try clear hfz19_5
      try clear hfz21_0
      try clear hfz21_1
      try clear hfz21_2
      try clear hfz21_3
      try clear hfz21_4
      try clear hfz21_5
      try clear hfz22_0
      try clear hfz22_1
      try clear hfz22_2
      try clear hfz22_3
      try clear hfz22_4
      try clear hfz22_5
      try clear hfz26_0
      try clear hfz26_1
      try clear hfz26_2
      try clear hfz26_3
      try clear hfz26_4
      try clear hfz26_5
      try clear hfz32_0
      try clear hfz32_1
      try clear hfz32_2
      try clear hfz32_3
      try clear hfz32_4
      try clear hfz32_5
      try clear hfz33_0
      try clear hfz33_1
      try clear hfz33_2
      try clear hfz33_3
      try clear hfz33_4
      try clear hfz33_5
      try clear hfz39_0
      try clear hfz39_1
      try clear hfz39_2
      try clear hfz39_3
      try clear hfz39_4
      try clear hfz39_5
      try clear hfz44_0
      try clear hfz44_1
      try clear hfz44_2
      try clear hfz45_0
      try clear hfz45_1
      try clear hfz45_2
      try clear hfz45_3
      try clear hfz45_4
      try clear hfz45_5
      try clear hfz8_0
      try clear hfz8_1
      try clear hfz8_2
      try clear hfz8_3
      try clear hfz8_4
      try clear hfz8_5
      try clear hfz9_0
      try clear hfz9_1
      try clear hfz9_2
      try clear hfz9_3
      try clear hfz9_4
      try clear hfz9_5
      try clear p2
      obtain ⟨kq, x5_29, HA, HJ29, HO_5, BK778, BK779, HB⟩ := hcut
      cases kq with
      | zero => exact absurd HA.out (by simp [addrset_without.j1])
      | succ kj29 =>
       have H := HA.out
       clear HA
       simp only [addrset_without.j1] at H
       replace H := Option.bind_eq_some_iff.mp H
       obtain ⟨t794, A470, H⟩ := H
       try dsimp only at H
       have A47 := Aside0.mk A470
       clear A470
       by_cases c48 : t794 < 0
       · rw [if_pos c48] at H
         have c48b0 : decide (t794 < 0) = true := decide_eq_true c48
         clear c48
         replace H := Option.bind_eq_some_iff.mp H
         obtain ⟨⟨t795, t796, t797, t798⟩, A490, H⟩ := H
         try dsimp only at H
         have A49 := Aside0.mk A490
         clear A490
         by_cases c50 : x5_29.length < 2932031007402
         · rw [if_pos c50] at H
           have LMc50 := Aside0.mk c50
           clear c50
           obtain ⟨y800, hy800⟩ : ∃ y_ : List (S66), y_ = (x5_29 ++ [(⟨(⟨t795, t796, t797⟩ : S36), (⟨a0_3, a0_4, a0_5⟩ : S36)⟩ : S66)]) := ⟨_, rfl⟩
           rw [← hy800] at H; try dsimp only [Option.bind_some] at H
           have Ny800 := Aside0.mk hy800
           clear hy800
           obtain rfl := Option.some.inj H
           have hnb51 := NB779_778.out
           have hnc51 := NB778_779.out
           obtain ⟨hcz52_0, hcz52_1, hcz52_2, hcz52_3, hcz52_4, hcz52_5⟩ := zc6 BK779
           obtain ⟨hfz52_0, hfz52_1, hfz52_2, hfz52_3, hfz52_4, hfz52_5⟩ := zf6 BK779
           obtain ⟨hcz53_0, hcz53_1, hcz53_2, hcz53_3, hcz53_4, hcz53_5⟩ := zc6 BK778
           obtain ⟨hfz53_0, hfz53_1, hfz53_2, hfz53_3, hfz53_4, hfz53_5⟩ := zf6 BK778
           go_wp2_with (first | ((with_reducible refine gate_callee (f := 75) rfl ?_); refine goesL_ (some 58) rfl rfl Try.func75 (by kernel_rfl) rfl #[.agg #[.bool a1_3, .int .u64 a1_4, .int .u64 a1_5], .agg #[.bool a0_3, .int .u64 a0_4, .int .u64 a0_5]] rfl (by (try simp only [List.map_toArray, List.map_cons, List.map_nil]); first | done | rfl | (simp only [List.length_drop, List.length_take]; rfl)) ?_; (with_reducible refine (address_Compare.calls a1_3 a1_4 a1_5 a0_3 a0_4 a0_5 t794 _ A47.out).mono ?_); rintro e w54 ⟨rfl, hb⟩; refine ⟨_, rfl, ?_⟩; replace HO_5 := Aside0.mk (Kd.R_below (zR HO_5) hb); replace BK778 := Aside0.mk (blk_below (g := gb778) (o := .cells #[.bool a0_0, .int .u64 a0_1, .int .u64 a0_2, .bool a0_3, .int .u64 a0_4, .int .u64 a0_5] 66 (0, 0)) (zK BK778) hb); replace BK779 := Aside0.mk (blk_below (g := gb779) (o := .cells #[.bool a1_0, .int .u64 a1_1, .int .u64 a1_2, .bool a1_3, .int .u64 a1_4, .int .u64 a1_5] 66 (0, 0)) (zK BK779) hb); replace HB := Aside0.mk (below_step (zB HB) hb); (try clear hb); obtain ⟨hcz55_0, hcz55_1, hcz55_2, hcz55_3, hcz55_4, hcz55_5⟩ := zc6 BK779; obtain ⟨hfz55_0, hfz55_1, hfz55_2, hfz55_3, hfz55_4, hfz55_5⟩ := zf6 BK779) | ((with_reducible refine gate_callee (f := 88) rfl ?_); refine goesL_ (some 63) rfl rfl Try.func88 (by kernel_rfl) rfl #[.agg #[.bool a1_3, .int .u64 a1_4, .int .u64 a1_5]] rfl (by (try simp only [List.map_toArray, List.map_cons, List.map_nil]); first | done | rfl | (simp only [List.length_drop, List.length_take]; rfl)) ?_; (with_reducible refine (address_Next.calls a1_3 a1_4 a1_5 t795 t796 t797 t798 _ A49.out).mono ?_); rintro e w56 ⟨rfl, hb⟩; refine ⟨_, rfl, ?_⟩; replace HO_5 := Aside0.mk (Kd.R_below (zR HO_5) hb); replace BK778 := Aside0.mk (blk_below (g := gb778) (o := .cells #[.bool a0_0, .int .u64 a0_1, .int .u64 a0_2, .bool a0_3, .int .u64 a0_4, .int .u64 a0_5] 66 (0, 0)) (zK BK778) hb); replace BK779 := Aside0.mk (blk_below (g := gb779) (o := .cells #[.bool a1_0, .int .u64 a1_1, .int .u64 a1_2, .bool a1_3, .int .u64 a1_4, .int .u64 a1_5] 66 (0, 0)) (zK BK779) hb); replace HB := Aside0.mk (below_step (zB HB) hb); (try clear hb)) | ((with_reducible refine gate_dst (N := 8) rfl ?_); refine zx 8 #[.bool false, .int .u64 0, .int .u64 0] 36 ?_; intro gb799 hg w57 hbox hb; replace HO_5 := Aside0.mk (Kd.R_below (zR HO_5) hb); have BK799 := Aside0.mk (hbox); have GW799 := Aside0.mk ((by rw [hg]; exact (below_size (zB HB)) : w.heap.size ≤ gb799)); have GE799 := Aside0.mk ((by rw [hg]; exact (below_size (zB HB)) : w.heap.size ≤ gb799)); replace HB := Aside0.mk (below_step (zB HB) hb); have NB778_799 := Aside0.mk ((by rw [hg]; exact Nat.ne_of_lt (blk_lt (g := gb778) (o := .cells #[.bool a0_0, .int .u64 a0_1, .int .u64 a0_2, .bool a0_3, .int .u64 a0_4, .int .u64 a0_5] 66 (0, 0)) (zK BK778)) : gb778 ≠ gb799)); have NB799_778 := Aside0.mk ((by rw [hg]; exact Nat.ne_of_gt (blk_lt (g := gb778) (o := .cells #[.bool a0_0, .int .u64 a0_1, .int .u64 a0_2, .bool a0_3, .int .u64 a0_4, .int .u64 a0_5] 66 (0, 0)) (zK BK778)) : gb799 ≠ gb778)); replace BK778 := Aside0.mk (blk_below (g := gb778) (o := .cells #[.bool a0_0, .int .u64 a0_1, .int .u64 a0_2, .bool a0_3, .int .u64 a0_4, .int .u64 a0_5] 66 (0, 0)) (zK BK778) hb); have NB779_799 := Aside0.mk ((by rw [hg]; exact Nat.ne_of_lt (blk_lt (g := gb779) (o := .cells #[.bool a1_0, .int .u64 a1_1, .int .u64 a1_2, .bool a1_3, .int .u64 a1_4, .int .u64 a1_5] 66 (0, 0)) (zK BK779)) : gb779 ≠ gb799)); have NB799_779 := Aside0.mk ((by rw [hg]; exact Nat.ne_of_gt (blk_lt (g := gb779) (o := .cells #[.bool a1_0, .int .u64 a1_1, .int .u64 a1_2, .bool a1_3, .int .u64 a1_4, .int .u64 a1_5] 66 (0, 0)) (zK BK779)) : gb799 ≠ gb779)); replace BK779 := Aside0.mk (blk_below (g := gb779) (o := .cells #[.bool a1_0, .int .u64 a1_1, .int .u64 a1_2, .bool a1_3, .int .u64 a1_4, .int .u64 a1_5] 66 (0, 0)) (zK BK779) hb); clear hb hbox hg; have hnb58 := NB799_778.out; have hnc58 := NB778_799.out; have hnb59 := NB799_779.out; have hnc59 := NB779_799.out; obtain ⟨hcz60_0, hcz60_1, hcz60_2⟩ := zc3 BK799; obtain ⟨hfz60_0, hfz60_1, hfz60_2⟩ := zf3 BK799; obtain ⟨hcz61_0, hcz61_1, hcz61_2, hcz61_3, hcz61_4, hcz61_5⟩ := zc6 BK778; obtain ⟨hfz61_0, hfz61_1, hfz61_2, hfz61_3, hfz61_4, hfz61_5⟩ := zf6 BK778) | ((with_reducible refine gate_builtin (b := .append) (xs := #[.tmp 66, .tmp 71]) rfl ?_); at_builtin; refine Kd.R_append k66 (w0 := w) w.heap.size rfl (.tmp 66) (.tmp 71) 33 66 (.agg #[(.bool false), (.int .u64 0), (.int .u64 0), (.bool false), (.int .u64 0), (.int .u64 0)]) 48 rfl Try.underlying33 info66 rfl (by decide) (by omega) u5 x5_29 (⟨(⟨t795, t796, t797⟩ : S36), (⟨a0_3, a0_4, a0_5⟩ : S36)⟩ : S66) [.bool t795, .int .u64 t796, .int .u64 t797, .bool a0_3, .int .u64 a0_4, .int .u64 a0_5] (fun k_ => k_ ≠ gb778 ∧ k_ ≠ gb779) (fun _ => False) rfl (by first | (go_simp; done) | (go_simp; rfl)) ?aP (fun _ hk => hk.elim) ?aF ?aO ?aB ?aS ?aL ?_; (case aP => exact k66_mkM _ _ _ (⟨(⟨t795, t796, t797⟩ : S36), (⟨a0_3, a0_4, a0_5⟩ : S36)⟩ : S66)); (case aB => exact (zB HB)); (case aF => exact (fun k_ hk => ⟨Kd.freshB (g := gb778) (o := .cells #[.bool a0_0, .int .u64 a0_1, .int .u64 a0_2, .bool a0_3, .int .u64 a0_4, .int .u64 a0_5] 66 (0, 0)) (by refine zL ?_; refine blk_far ?_ NB778_799.out _; refine zL ?_; refine blk_far ?_ NB778_799.out _; refine zL ?_; refine blk_far ?_ NB778_799.out _; refine zL ?_; exact BK778.out) k_ hk, Kd.freshB (g := gb779) (o := .cells #[.bool a1_0, .int .u64 a1_1, .int .u64 a1_2, .bool a1_3, .int .u64 a1_4, .int .u64 a1_5] 66 (0, 0)) (by refine zL ?_; refine blk_far ?_ NB779_799.out _; refine zL ?_; refine blk_far ?_ NB779_799.out _; refine zL ?_; refine blk_far ?_ NB779_799.out _; refine zL ?_; exact BK779.out) k_ hk⟩)); (case aO => exact (by (with_reducible repeat (first | apply Kd.R_alloc | apply Kd.R_drewN | apply Kd.R_drew)); exact Kd.R_mono (Kd.R_far (p := ⟨gb799, 2, none⟩) (Kd.R_far (p := ⟨gb799, 1, none⟩) (Kd.R_far (p := ⟨gb799, 0, none⟩) (Kd.R_types HO_5.out BK799.out (by decide)) (fun _ hk => hk.2) (.bool t795)) (fun _ hk => hk.2) (.int .u64 t796)) (fun _ hk => hk.2) (.int .u64 t797)) (fun _ hk => ⟨hk.1.1, hk.1.2⟩))); (case aS => exact (below_size (zB HB))); (case aL => have := LMc50.out; omega); intro v801 w62 ho hb hg hat; rw [← Ny800.out] at ho; replace BK778 := Aside0.mk (blk_grown (g := gb778) (o := .cells #[.bool a0_0, .int .u64 a0_1, .int .u64 a0_2, .bool a0_3, .int .u64 a0_4, .int .u64 a0_5] 66 (0, 0)) (by refine zL ?_; refine blk_far ?_ NB778_799.out _; refine zL ?_; refine blk_far ?_ NB778_799.out _; refine zL ?_; refine blk_far ?_ NB778_799.out _; refine zL ?_; exact BK778.out) hg (Kd.R_away HO_5.out (fun _ hk => hk.1))); replace BK779 := Aside0.mk (blk_grown (g := gb779) (o := .cells #[.bool a1_0, .int .u64 a1_1, .int .u64 a1_2, .bool a1_3, .int .u64 a1_4, .int .u64 a1_5] 66 (0, 0)) (by refine zL ?_; refine blk_far ?_ NB779_799.out _; refine zL ?_; refine blk_far ?_ NB779_799.out _; refine zL ?_; refine blk_far ?_ NB779_799.out _; refine zL ?_; exact BK779.out) hg (Kd.R_away HO_5.out (fun _ hk => hk.2))); replace BK799 := Aside0.mk (blk_grown (g := gb799) (o := .cells #[.bool t795, .int .u64 t796, .int .u64 t797] 36 (0, 0)) (by refine zL ?_; refine blk_put (cs := #[.bool t795, .int .u64 t796, .int .u64 0]) ?_ 2 _ rfl; refine zL ?_; refine blk_put (cs := #[.bool t795, .int .u64 0, .int .u64 0]) ?_ 1 _ rfl; refine zL ?_; refine blk_put (cs := #[.bool false, .int .u64 0, .int .u64 0]) ?_ 0 _ rfl; refine zL ?_; exact BK799.out) hg (Kd.R_ne HO_5.out BK799.out (by decide))); replace HB := Aside0.mk (hb); have HO802 := Aside0.mk (ho); clear HO_5; clear ho hb hg hat))
           go_ret
           exact ⟨_, by first | rfl | (simp [errW_none, errW_some] <;> rfl) | (simp [*, errW_none, errW_some] <;> rfl), by (with_reducible repeat (first | apply Kd.R_alloc | apply Kd.R_drewN | apply Kd.R_drew)); exact Kd.R_mono HO802.out (fun _ hk => trivial), by repeat (first | (with_reducible first | exact HB.out | apply below_alloc | apply pw_below_drewN | apply below_drew1 | refine below_set ?_ GE778.out | refine below_set ?_ GE779.out | refine below_set ?_ GE799.out) | exact HB.out)⟩
         · rw [if_neg c50] at H
           exact absurd H (by simp)
       · rw [if_neg c48] at H
         have c48b0 : decide (t794 < 0) = false := decide_eq_false c48
         clear c48
         obtain rfl := Option.some.inj H
         have hnb63 := NB779_778.out
         have hnc63 := NB778_779.out
         obtain ⟨hcz64_0, hcz64_1, hcz64_2, hcz64_3, hcz64_4, hcz64_5⟩ := zc6 BK779
         obtain ⟨hfz64_0, hfz64_1, hfz64_2, hfz64_3, hfz64_4, hfz64_5⟩ := zf6 BK779
         obtain ⟨hcz65_0, hcz65_1, hcz65_2, hcz65_3, hcz65_4, hcz65_5⟩ := zc6 BK778
         obtain ⟨hfz65_0, hfz65_1, hfz65_2, hfz65_3, hfz65_4, hfz65_5⟩ := zf6 BK778
         go_wp2_with (first | ((with_reducible refine gate_callee (f := 75) rfl ?_); refine goesL_ (some 58) rfl rfl Try.func75 (by kernel_rfl) rfl #[.agg #[.bool a1_3, .int .u64 a1_4, .int .u64 a1_5], .agg #[.bool a0_3, .int .u64 a0_4, .int .u64 a0_5]] rfl (by (try simp only [List.map_toArray, List.map_cons, List.map_nil]); first | done | rfl | (simp only [List.length_drop, List.length_take]; rfl)) ?_; (with_reducible refine (address_Compare.calls a1_3 a1_4 a1_5 a0_3 a0_4 a0_5 t794 _ A47.out).mono ?_); rintro e w66 ⟨rfl, hb⟩; refine ⟨_, rfl, ?_⟩; replace HO_5 := Aside0.mk (Kd.R_below (zR HO_5) hb); replace BK778 := Aside0.mk (blk_below (g := gb778) (o := .cells #[.bool a0_0, .int .u64 a0_1, .int .u64 a0_2, .bool a0_3, .int .u64 a0_4, .int .u64 a0_5] 66 (0, 0)) (zK BK778) hb); replace BK779 := Aside0.mk (blk_below (g := gb779) (o := .cells #[.bool a1_0, .int .u64 a1_1, .int .u64 a1_2, .bool a1_3, .int .u64 a1_4, .int .u64 a1_5] 66 (0, 0)) (zK BK779) hb); replace HB := Aside0.mk (below_step (zB HB) hb); (try clear hb)))
         go_ret
         exact ⟨_, by first | rfl | (simp [errW_none, errW_some] <;> rfl) | (simp [*, errW_none, errW_some] <;> rfl), by (with_reducible repeat (first | apply Kd.R_alloc | apply Kd.R_drewN | apply Kd.R_drew)); exact Kd.R_mono HO_5.out (fun _ hk => trivial), by repeat (first | (with_reducible first | exact HB.out | apply below_alloc | apply pw_below_drewN | apply below_drew1 | refine below_set ?_ GE778.out | refine below_set ?_ GE779.out) | exact HB.out)⟩
end Go.Proofs.Ytcgfpffgiimgmaa.Q
end
