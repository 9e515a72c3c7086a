/- The law AddressOrders answers true for every input and leaves its arguments as they were. No condition. (Part 4 of 4: the kit's printed words and walks, hand-made contracts and plain laws, joined in build order, without what the theorem does not reach.) -/
import Derived.Deep.Slices
import Derived.ChangeArms
import Derived.WideShapes
import Derived.DataElems
import Derived.IntWalk
import Derived.Test.YtlgfinnldhjgeaaDoorRows
import Derived.ProofKit
import Derived.OpenShut
import Derived.LaidMore
import Derived.Lay
import Derived.SevenTiedAt
import Derived.Stop.Joined
import Derived.Lib.LaidTab
import Derived.Shelf.Vars
import Derived.HandedShaped
import Derived.WalkKit
import Derived.ShutString
import Derived.ChangeOld
import Derived.Below
import Derived.SizedLaws
import Derived.Carry
import Derived.Test.YtlgfinnldhjgeaaDoorTie
import Derived.Test.YtlgfinnldhjgeaaDoorCards
import Derived.Test.YtlgfinnldhjgeaaDoorGAddressOrders3
section
namespace Go.Proofs.YtlgfinnldhjgeaaDoor.Q
open Go.RowKit Go.Proofs.YtlgfinnldhjgeaaDoorW.PrintWords Go.Proofs.YtlgfinnldhjgeaaDoorW.PrintLast Go.Proofs.YtlgfinnldhjgeaaDoorW.PrintMore
attribute [local go_sem] max2_int min2_int max_two min_two max_three min_three max_four min_four
set_option linter.unusedVariables false
set_option linter.unusedSimpArgs false
attribute [local go_sem high] eqA25
mutual
def intrusionlaw06_AddressOrders.j0 : Nat → Int → Bool → Bool → Int → Int → Bool → Int → Int → Option (Bool)
  | 0, _, _, _, _, _, _, _, _ => none
  | k + 1, x2, x20, x309000, x309001, x309002, x310000, x310001, x310002 => if x20 = true then ((intrusionlaw06_lives.f).bind fun t312 => (some t312)) else ((address_Next.f x309000 x309001 x309002).bind fun bt313 => ((intrusionref06_Next.f k x309000 x309001 x309002).bind fun bt318 => (if (!(bt313.1 == bt318.1) || (!(bt313.2.1 == bt318.2.1) || (!(bt313.2.2.1 == bt318.2.2.1)))) = true then (intrusionlaw06_AddressOrders.j1 k x2 true x309000 x309001 x309002 x310000 x310001 x310002) else (if (bt313.2.2.2 != bt318.2.2.2) = true then (intrusionlaw06_AddressOrders.j1 k x2 true x309000 x309001 x309002 x310000 x310001 x310002) else ((address_Compare.f x309000 x309001 x309002 x310000 x310001 x310002).bind fun t323 => ((intrusionref06_Compare.f x309000 x309001 x309002 x310000 x310001 x310002).bind fun t324 => (intrusionlaw06_AddressOrders.j1 k x2 (t323 != t324) x309000 x309001 x309002 x310000 x310001 x310002)))))))
def intrusionlaw06_AddressOrders.j1 : Nat → Int → Bool → Bool → Int → Int → Bool → Int → Int → Option (Bool)
  | 0, _, _, _, _, _, _, _, _ => none
  | k + 1, x2, x48, x309000, x309001, x309002, x310000, x310001, x310002 => if x48 = true then (some false) else ((address_Previous.f x309000 x309001 x309002).bind fun bt325 => ((intrusionref06_Previous.f k x309000 x309001 x309002).bind fun bt329 => ((intrusionref06_MakePrefix.f k x310000 x310001 x310002 x2).bind fun bt333 => (if (bt325.1 == bt329.1 && (bt325.2.1 == bt329.2.1 && (bt325.2.2.1 == bt329.2.2.1))) = true then (if (bt325.2.2.2 == bt329.2.2.2) = true then (if bt333.2.2.2.2 = 0 then ((address_Contains.f bt333.1 bt333.2.1 bt333.2.2.1 bt333.2.2.2.1 x309000 x309001 x309002).bind fun t339 => ((intrusionref06_Contains.f k bt333.1 bt333.2.1 bt333.2.2.1 bt333.2.2.2.1 x309000 x309001 x309002).bind fun t340 => (if (t339 == t340) = true then ((intrusionlaw06_lives.f).bind fun t341 => (some t341)) else (some false)))) else ((intrusionlaw06_lives.f).bind fun t342 => (some t342))) else (some false)) else (some false)))))
end
def intrusionlaw06_AddressOrders.f (k : Nat) (a0_0 : Bool) (a0_1 : Int) (a0_2 : Int) (a1_0 : Bool) (a1_1 : Int) (a1_2 : Int) (a2 : Int) : Option (Bool) := (intrusionref06_Valid.f a0_0 a0_1 a0_2).bind fun t310 => (if t310 = true then ((intrusionref06_Valid.f a1_0 a1_1 a1_2).bind fun t311 => (intrusionlaw06_AddressOrders.j0 k a2 (!t311) a0_0 a0_1 a0_2 a1_0 a1_1 a1_2)) else (intrusionlaw06_AddressOrders.j0 k a2 true a0_0 a0_1 a0_2 a1_0 a1_1 a1_2))
theorem intrusionlaw06_AddressOrders.mono_l : ∀ k, (∀ y0 y1 y2 y3 y4 y5 y6 y7, LeO (intrusionlaw06_AddressOrders.j0 k y0 y1 y2 y3 y4 y5 y6 y7) (intrusionlaw06_AddressOrders.j0 (k + 1) y0 y1 y2 y3 y4 y5 y6 y7)) ∧ (∀ y0 y1 y2 y3 y4 y5 y6 y7, LeO (intrusionlaw06_AddressOrders.j1 k y0 y1 y2 y3 y4 y5 y6 y7) (intrusionlaw06_AddressOrders.j1 (k + 1) y0 y1 y2 y3 y4 y5 y6 y7))
  | 0 => ⟨fun _ _ _ _ _ _ _ _ r h => by simp [intrusionlaw06_AddressOrders.j0] at h, fun _ _ _ _ _ _ _ _ r h => by simp [intrusionlaw06_AddressOrders.j1] at h⟩
  | k + 1 => by
    obtain ⟨ih0, ih1⟩ := intrusionlaw06_AddressOrders.mono_l k
    refine ⟨?_, ?_⟩
    · intro y0 y1 y2 y3 y4 y5 y6 y7
      unfold intrusionlaw06_AddressOrders.j0
      repeat' first
      | (with_reducible exact ih0 _ _ _ _ _ _ _ _)
      | (with_reducible exact ih1 _ _ _ _ _ _ _ _)
      | (with_reducible exact intrusionref06_Contains.mono _ _ _ _ _ _ _ _)
      | (with_reducible exact intrusionref06_MakePrefix.mono _ _ _ _ _)
      | (with_reducible exact intrusionref06_Next.mono _ _ _ _)
      | (with_reducible exact intrusionref06_Previous.mono _ _ _ _)
      | (with_reducible exact LeO.refl _)
      | (with_reducible exact LeO.none _)
      | (with_reducible refine LeO.ite ?_ ?_)
      | (with_reducible refine LeO.bind ?_ (fun _ => ?_))
      | exact ih0 _ _ _ _ _ _ _ _
      | exact ih1 _ _ _ _ _ _ _ _
      | exact intrusionref06_Contains.mono _ _ _ _ _ _ _ _
      | exact intrusionref06_MakePrefix.mono _ _ _ _ _
      | exact intrusionref06_Next.mono _ _ _ _
      | exact intrusionref06_Previous.mono _ _ _ _
      | exact LeO.none _
      | refine LeO.ite ?_ ?_
      | refine LeO.bind ?_ (fun _ => ?_)
    · intro y0 y1 y2 y3 y4 y5 y6 y7
      unfold intrusionlaw06_AddressOrders.j1
      repeat' first
      | (with_reducible exact ih0 _ _ _ _ _ _ _ _)
      | (with_reducible exact ih1 _ _ _ _ _ _ _ _)
      | (with_reducible exact intrusionref06_Contains.mono _ _ _ _ _ _ _ _)
      | (with_reducible exact intrusionref06_MakePrefix.mono _ _ _ _ _)
      | (with_reducible exact intrusionref06_Next.mono _ _ _ _)
      | (with_reducible exact intrusionref06_Previous.mono _ _ _ _)
      | (with_reducible exact LeO.refl _)
      | (with_reducible exact LeO.none _)
      | (with_reducible refine LeO.ite ?_ ?_)
      | (with_reducible refine LeO.bind ?_ (fun _ => ?_))
      | exact ih0 _ _ _ _ _ _ _ _
      | exact ih1 _ _ _ _ _ _ _ _
      | exact intrusionref06_Contains.mono _ _ _ _ _ _ _ _
      | exact intrusionref06_MakePrefix.mono _ _ _ _ _
      | exact intrusionref06_Next.mono _ _ _ _
      | exact intrusionref06_Previous.mono _ _ _ _
      | exact LeO.none _
      | refine LeO.ite ?_ ?_
      | refine LeO.bind ?_ (fun _ => ?_)
theorem intrusionlaw06_AddressOrders.mono : ∀ a0 a1 a2 a3 a4 a5 a6 k, LeO (intrusionlaw06_AddressOrders.f k a0 a1 a2 a3 a4 a5 a6) (intrusionlaw06_AddressOrders.f (k + 1) a0 a1 a2 a3 a4 a5 a6) := by
  intro a0 a1 a2 a3 a4 a5 a6 k
  obtain ⟨ih0, ih1⟩ := intrusionlaw06_AddressOrders.mono_l k
  unfold intrusionlaw06_AddressOrders.f
  repeat' first
      | (with_reducible exact ih0 _ _ _ _ _ _ _ _)
      | (with_reducible exact ih1 _ _ _ _ _ _ _ _)
      | (with_reducible exact intrusionref06_Contains.mono _ _ _ _ _ _ _ _)
      | (with_reducible exact intrusionref06_MakePrefix.mono _ _ _ _ _)
      | (with_reducible exact intrusionref06_Next.mono _ _ _ _)
      | (with_reducible exact intrusionref06_Previous.mono _ _ _ _)
      | (with_reducible exact LeO.refl _)
      | (with_reducible exact LeO.none _)
      | (with_reducible refine LeO.ite ?_ ?_)
      | (with_reducible refine LeO.bind ?_ (fun _ => ?_))
      | exact ih0 _ _ _ _ _ _ _ _
      | exact ih1 _ _ _ _ _ _ _ _
      | exact intrusionref06_Contains.mono _ _ _ _ _ _ _ _
      | exact intrusionref06_MakePrefix.mono _ _ _ _ _
      | exact intrusionref06_Next.mono _ _ _ _
      | exact intrusionref06_Previous.mono _ _ _ _
      | exact LeO.none _
      | refine LeO.ite ?_ ?_
      | refine LeO.bind ?_ (fun _ => ?_)
def intrusionlaw06_AddressOrders.T5 : Bool × List (List Nat × List Nat) := (true, [([], []), ([], []), ([0, 1], [0, 1]), ([2], [2]), ([3], [3]), ([3], [3]), ([4, 5, 3], [3, 4, 5]), ([3, 6], [3, 6]), ([7, 3], [7]), ([8], [8]), ([8], [8]), ([9, 10, 8, 8], [8, 9, 10]), ([8], [8]), ([8], [8]), ([12, 13, 11, 8], [8, 12, 13]), ([11, 14, 8], [8, 11, 14]), ([8, 15], [8, 15])])
def intrusionlaw06_AddressOrders.B5 : List Nat := [0, 0, 3, 7, 15, 15, 63, 127, 255, 511, 511, 2047, 511, 511, 16383, 32767, 65535]
theorem intrusionlaw06_AddressOrders.tab5 : rtab .any (opsOf Tryd.f4 5) = intrusionlaw06_AddressOrders.T5 := by kernel_rfl
theorem intrusionlaw06_AddressOrders.bits5 : waitsOk intrusionlaw06_AddressOrders.T5.2 intrusionlaw06_AddressOrders.B5 = true := by kernel_rfl
def intrusionlaw06_AddressOrders.T10 : Bool × List (List Nat × List Nat) := (true, [([], []), ([], []), ([0, 1], [0, 1]), ([2], [2]), ([3], [3]), ([3], [3]), ([4, 5, 3], [3, 4, 5]), ([3, 6], [3, 6]), ([7, 3], [7]), ([8], [8]), ([9, 8], [8, 9]), ([10, 8, 8], [8, 10]), ([11], [11]), ([11], [11]), ([12, 13, 11, 11], [11, 12, 13]), ([11], [11]), ([11], [11]), ([15, 16, 14, 11], [11, 15, 16]), ([14, 17, 11], [11, 14, 17]), ([11, 18, 8], [8, 11, 18]), ([8, 19], [8, 19]), ([20, 17], [20]), ([21, 21], [21]), ([21, 22], [21, 22]), ([23, 22, 0, 1, 2, 3, 4, 5, 6, 7, 8, 9, 10, 11, 12, 13, 14, 15, 16, 17, 18, 19, 20, 21, 22, 23], [23])])
def intrusionlaw06_AddressOrders.B10 : List Nat := [0, 0, 3, 7, 15, 15, 63, 127, 255, 511, 1023, 2047, 4095, 4095, 16383, 4095, 4095, 131071, 262143, 524287, 1048575, 2097151, 4194303, 8388607, 16777215]
theorem intrusionlaw06_AddressOrders.tab10 : rtab .any (opsOf Tryd.f4 10) = intrusionlaw06_AddressOrders.T10 := by kernel_rfl
theorem intrusionlaw06_AddressOrders.bits10 : waitsOk intrusionlaw06_AddressOrders.T10.2 intrusionlaw06_AddressOrders.B10 = true := by kernel_rfl
set_option maxHeartbeats 8000000 in
set_option maxRecDepth 100000 in
theorem intrusionlaw06_AddressOrders.calls (k : Nat) (a0_0 : Bool) (a0_1 : Int) (a0_2 : Int) (a1_0 : Bool) (a1_1 : Int) (a1_2 : Int) (a2 : Int) (r : Bool) (w : World) (h : intrusionlaw06_AddressOrders.f k a0_0 a0_1 a0_2 a1_0 a1_1 a1_2 a2 = some r) (hW_ : WOK w) :
 Calls Tryd.prog 4 #[.agg #[.bool a0_0, .int .u64 a0_1, .int .u64 a0_2], .agg #[.bool a1_0, .int .u64 a1_1, .int .u64 a1_2], .int .i64 a2] w fun e w' => e = .returned (.bool r) ∧ Below w.heap.size w w' := by
 have hu25 := Tryd.underlying25
 have hu30 := Tryd.underlying30
 have HB := Aside0.mk (Below.refl w.heap.size w)
 unfold intrusionlaw06_AddressOrders.f at h; have H := h
 clear h
 have HC4 := Aside0.mk H
 clear H
 go_enter Tryd.func4, Tryd.ntmps4
 go_upto_region 1 with (first | ((with_reducible refine gate_dst (N := 3) rfl ?_); refine zx 3 #[.bool a0_0, .int .u64 a0_1, .int .u64 a0_2] 25 ?_; intro gb308 hg w5 hbox hb; have BK308 := Aside0.mk (hbox); have GW308 := Aside0.mk ((by rw [hg]; exact (below_size (zB HB)) : w.heap.size ≤ gb308)); have GE308 := Aside0.mk ((by rw [hg]; exact (below_size (zB HB)) : w.heap.size ≤ gb308)); replace HB := Aside0.mk (below_step (zB HB) hb); clear hb hbox hg) | ((with_reducible refine gate_dst (N := 4) rfl ?_); refine zx 4 #[.bool a1_0, .int .u64 a1_1, .int .u64 a1_2] 25 ?_; intro gb309 hg w6 hbox hb; have BK309 := Aside0.mk (hbox); have GW309 := Aside0.mk ((by rw [hg]; exact (below_size (zB HB)) : w.heap.size ≤ gb309)); have GE309 := Aside0.mk ((by rw [hg]; exact (below_size (zB HB)) : w.heap.size ≤ gb309)); replace HB := Aside0.mk (below_step (zB HB) hb); have NB308_309 := Aside0.mk ((by rw [hg]; exact Nat.ne_of_lt (blk_lt (g := gb308) (o := .cells #[.bool a0_0, .int .u64 a0_1, .int .u64 a0_2] 25 (0, 0)) (zK BK308)) : gb308 ≠ gb309)); have NB309_308 := Aside0.mk ((by rw [hg]; exact Nat.ne_of_gt (blk_lt (g := gb308) (o := .cells #[.bool a0_0, .int .u64 a0_1, .int .u64 a0_2] 25 (0, 0)) (zK BK308)) : gb309 ≠ gb308)); replace BK308 := Aside0.mk (blk_below (g := gb308) (o := .cells #[.bool a0_0, .int .u64 a0_1, .int .u64 a0_2] 25 (0, 0)) (zK BK308) hb); clear hb hbox hg))
 (try simp only [Act.put, List.setIfInBounds_toArray, List.set_cons_zero, List.set_cons_succ])
 go_cut [20] (fun v20 wc => ∃ (kq : Nat) (x20_3 : Bool), v20 = .bool x20_3 ∧ Aside0 (intrusionlaw06_AddressOrders.j0 kq a2 x20_3 a0_0 a0_1 a0_2 a1_0 a1_1 a1_2 = some r) ∧ Aside0 (kq ≤ k) ∧ Aside0 (wc.heap[gb308]? = some (.cells #[.bool a0_0, .int .u64 a0_1, .int .u64 a0_2] 25 (0, 0))) ∧ Aside0 (wc.heap[gb309]? = some (.cells #[.bool a1_0, .int .u64 a1_1, .int .u64 a1_2] 25 (0, 0))) ∧ Aside0 (Below w.heap.size w wc))
 case first =>
  have H := HC4.out
  clear HC4
  replace H := Option.bind_eq_some_iff.mp H
  obtain ⟨t310, A70, H⟩ := H
  try dsimp only at H
  have A7 := Aside0.mk A70
  clear A70
  by_cases c8 : t310 = true
  · subst c8
    rw [if_pos rfl] at H
    replace H := Option.bind_eq_some_iff.mp H
    obtain ⟨t311, A90, H⟩ := H
    try dsimp only at H
    have A9 := Aside0.mk A90
    clear A90
    have H' := Aside0.mk H
    clear H
    have hnb10 := NB308_309.out
    have hnc10 := NB309_308.out
    obtain ⟨hcz11_0, hcz11_1, hcz11_2⟩ := zc3 BK308
    obtain ⟨hfz11_0, hfz11_1, hfz11_2⟩ := zf3 BK308
    go_wp2_with (first | ((with_reducible refine gate_callee (f := 15) rfl ?_); refine goesL_ (some 14) rfl rfl Tryd.func15 (by kernel_rfl) rfl #[.agg #[.bool a0_0, .int .u64 a0_1, .int .u64 a0_2]] rfl (by (try simp only [List.map_toArray, List.map_cons, List.map_nil]); first | done | rfl | (simp only [List.length_drop, List.length_take]; rfl)) ?_; (with_reducible refine (intrusionref06_Valid.calls a0_0 a0_1 a0_2 true _ A7.out).mono ?_); rintro e w12 ⟨rfl, hb⟩; refine ⟨_, rfl, ?_⟩; replace BK308 := Aside0.mk (blk_below (g := gb308) (o := .cells #[.bool a0_0, .int .u64 a0_1, .int .u64 a0_2] 25 (0, 0)) (zK BK308) hb); replace BK309 := Aside0.mk (blk_below (g := gb309) (o := .cells #[.bool a1_0, .int .u64 a1_1, .int .u64 a1_2] 25 (0, 0)) (zK BK309) hb); replace HB := Aside0.mk (below_step (zB HB) hb); (try clear hb); obtain ⟨hcz13_0, hcz13_1, hcz13_2⟩ := zc3 BK309; obtain ⟨hfz13_0, hfz13_1, hfz13_2⟩ := zf3 BK309) | (go_at_call 15; (with_reducible refine (intrusionref06_Valid.calls a1_0 a1_1 a1_2 t311 _ A9.out).mono ?_); rintro e w14 ⟨rfl, hb⟩; replace BK308 := Aside0.mk (blk_below (g := gb308) (o := .cells #[.bool a0_0, .int .u64 a0_1, .int .u64 a0_2] 25 (0, 0)) (zK BK308) hb); replace BK309 := Aside0.mk (blk_below (g := gb309) (o := .cells #[.bool a1_0, .int .u64 a1_1, .int .u64 a1_2] 25 (0, 0)) (zK BK309) hb); replace HB := Aside0.mk (below_step (zB HB) hb); (try clear hb)))
    go_meet
    case rel => exact ⟨_, (!t311), (by first | rfl | (simp; done) | (simp [*]; done)), H', ⟨by first | omega | exact Nat.le_refl _⟩, ⟨zK BK308⟩, ⟨zK BK309⟩, ⟨zB HB⟩⟩
  · replace c8 := Bool.eq_false_iff.mpr c8
    subst c8
    rw [if_neg zF] at H
    have H' := Aside0.mk H
    clear H
    have hnb15 := NB308_309.out
    have hnc15 := NB309_308.out
    obtain ⟨hcz16_0, hcz16_1, hcz16_2⟩ := zc3 BK308
    obtain ⟨hfz16_0, hfz16_1, hfz16_2⟩ := zf3 BK308
    go_wp2_with (first | ((with_reducible refine gate_callee (f := 15) rfl ?_); refine goesL_ (some 14) rfl rfl Tryd.func15 (by kernel_rfl) rfl #[.agg #[.bool a0_0, .int .u64 a0_1, .int .u64 a0_2]] rfl (by (try simp only [List.map_toArray, List.map_cons, List.map_nil]); first | done | rfl | (simp only [List.length_drop, List.length_take]; rfl)) ?_; (with_reducible refine (intrusionref06_Valid.calls a0_0 a0_1 a0_2 false _ A7.out).mono ?_); rintro e w17 ⟨rfl, hb⟩; refine ⟨_, rfl, ?_⟩; replace BK308 := Aside0.mk (blk_below (g := gb308) (o := .cells #[.bool a0_0, .int .u64 a0_1, .int .u64 a0_2] 25 (0, 0)) (zK BK308) hb); replace BK309 := Aside0.mk (blk_below (g := gb309) (o := .cells #[.bool a1_0, .int .u64 a1_1, .int .u64 a1_2] 25 (0, 0)) (zK BK309) hb); replace HB := Aside0.mk (below_step (zB HB) hb); (try clear hb)))
    go_meet
    case rel => exact ⟨_, (true), (by first | rfl | (simp; done) | (simp [*]; done)), H', ⟨by first | omega | exact Nat.le_refl _⟩, ⟨zK BK308⟩, ⟨zK BK309⟩, ⟨zB HB⟩⟩
 case rest =>
  clear HC4
  try clear c1
  try clear p2
  try clear c4
  try clear c8
  try clear c10
  try clear c15
  try clear hcz11_0
  try clear hcz11_1
  try clear hcz11_2
  try clear hcz13_0
  try clear hcz13_1
  try clear hcz13_2
  try clear hcz16_0
  try clear hcz16_1
  try clear hcz16_2
  try clear hfz11_0
  try clear hfz11_1
  try clear hfz11_2
  try clear hfz13_0
  try clear hfz13_1
  try clear hfz13_2
  try clear hfz16_0
  try clear hfz16_1
  try clear hfz16_2
  obtain ⟨kq, x20_3, rfl, HA, HJ3, BK308, BK309, HB⟩ := hcut
  cases kq with
  | zero => exact absurd HA.out (by simp [intrusionlaw06_AddressOrders.j0])
  | succ kj3 =>
   have H := HA.out
   clear HA
   simp only [intrusionlaw06_AddressOrders.j0] at H
   by_cases c18 : x20_3 = true
   · subst c18
     rw [if_pos rfl] at H
     replace H := Option.bind_eq_some_iff.mp H
     obtain ⟨t312, A190, H⟩ := H
     try dsimp only at H
     have A19 := Aside0.mk A190
     clear A190
     obtain rfl := Option.some.inj H
     go_wp2_with (first | ((with_reducible refine gate_callee (f := 10) rfl ?_); refine goesL_ (some 21) rfl rfl Tryd.func10 (by kernel_rfl) rfl #[] rfl (by (try simp only [List.map_toArray, List.map_cons, List.map_nil]); first | done | rfl | (simp only [List.length_drop, List.length_take]; rfl)) ?_; (with_reducible refine (intrusionlaw06_lives.calls  t312 _ A19.out (WOK.below hW_ (zB HB))).mono ?_); rintro e w20 ⟨rfl, hb⟩; refine ⟨_, rfl, ?_⟩; replace BK308 := Aside0.mk (blk_below (g := gb308) (o := .cells #[.bool a0_0, .int .u64 a0_1, .int .u64 a0_2] 25 (0, 0)) (zK BK308) hb); replace BK309 := Aside0.mk (blk_below (g := gb309) (o := .cells #[.bool a1_0, .int .u64 a1_1, .int .u64 a1_2] 25 (0, 0)) (zK BK309) hb); replace HB := Aside0.mk (below_step (zB HB) hb); (try clear hb)))
     go_ret
     exact ⟨by first | rfl | (simp [errW_none, errW_some] <;> rfl) | (simp [*, errW_none, errW_some] <;> rfl), by repeat (first | (with_reducible first | exact HB.out | apply below_alloc | apply pw_below_drewN | apply below_drew1 | refine below_set ?_ GE308.out | refine below_set ?_ GE309.out) | exact HB.out)⟩
   · replace c18 := Bool.eq_false_iff.mpr c18
     subst c18
     rw [if_neg zF] at H
     replace H := Option.bind_eq_some_iff.mp H
     obtain ⟨⟨t313, t314, t315, t316⟩, A210, H⟩ := H
     try dsimp only at H
     have A21 := Aside0.mk A210
     clear A210
     replace H := Option.bind_eq_some_iff.mp H
     obtain ⟨⟨t318, t319, t320, t321⟩, A220, H⟩ := H
     try dsimp only at H
     have A22 := Aside0.mk A220
     clear A220
     have HC23 := Aside0.mk H
     clear H
     have hnb24 := NB308_309.out
     have hnc24 := NB309_308.out
     obtain ⟨hcz25_0, hcz25_1, hcz25_2⟩ := zc3 BK308
     obtain ⟨hfz25_0, hfz25_1, hfz25_2⟩ := zf3 BK308
     go_upto_region 5 with (first | ((with_reducible refine gate_callee (f := 16) rfl ?_); refine goesL_ (some 24) rfl rfl Tryd.func16 (by kernel_rfl) rfl #[.agg #[.bool a0_0, .int .u64 a0_1, .int .u64 a0_2]] rfl (by (try simp only [List.map_toArray, List.map_cons, List.map_nil]); first | done | rfl | (simp only [List.length_drop, List.length_take]; rfl)) ?_; (with_reducible refine (address_Next.calls a0_0 a0_1 a0_2 t313 t314 t315 t316 _ A21.out).mono ?_); rintro e w26 ⟨rfl, hb⟩; refine ⟨_, rfl, ?_⟩; replace BK308 := Aside0.mk (blk_below (g := gb308) (o := .cells #[.bool a0_0, .int .u64 a0_1, .int .u64 a0_2] 25 (0, 0)) (zK BK308) hb); replace BK309 := Aside0.mk (blk_below (g := gb309) (o := .cells #[.bool a1_0, .int .u64 a1_1, .int .u64 a1_2] 25 (0, 0)) (zK BK309) hb); replace HB := Aside0.mk (below_step (zB HB) hb); (try clear hb)) | ((with_reducible refine gate_dst (N := 7) rfl ?_); refine zx 7 #[.bool false, .int .u64 0, .int .u64 0] 25 ?_; intro gb317 hg w27 hbox hb; have BK317 := Aside0.mk (hbox); have GW317 := Aside0.mk ((by rw [hg]; exact (below_size (zB HB)) : w.heap.size ≤ gb317)); have GE317 := Aside0.mk ((by rw [hg]; exact (below_size (zB HB)) : w.heap.size ≤ gb317)); replace HB := Aside0.mk (below_step (zB HB) hb); have NB308_317 := Aside0.mk ((by rw [hg]; exact Nat.ne_of_lt (blk_lt (g := gb308) (o := .cells #[.bool a0_0, .int .u64 a0_1, .int .u64 a0_2] 25 (0, 0)) (zK BK308)) : gb308 ≠ gb317)); have NB317_308 := Aside0.mk ((by rw [hg]; exact Nat.ne_of_gt (blk_lt (g := gb308) (o := .cells #[.bool a0_0, .int .u64 a0_1, .int .u64 a0_2] 25 (0, 0)) (zK BK308)) : gb317 ≠ gb308)); replace BK308 := Aside0.mk (blk_below (g := gb308) (o := .cells #[.bool a0_0, .int .u64 a0_1, .int .u64 a0_2] 25 (0, 0)) (zK BK308) hb); have NB309_317 := Aside0.mk ((by rw [hg]; exact Nat.ne_of_lt (blk_lt (g := gb309) (o := .cells #[.bool a1_0, .int .u64 a1_1, .int .u64 a1_2] 25 (0, 0)) (zK BK309)) : gb309 ≠ gb317)); have NB317_309 := Aside0.mk ((by rw [hg]; exact Nat.ne_of_gt (blk_lt (g := gb309) (o := .cells #[.bool a1_0, .int .u64 a1_1, .int .u64 a1_2] 25 (0, 0)) (zK BK309)) : gb317 ≠ gb309)); replace BK309 := Aside0.mk (blk_below (g := gb309) (o := .cells #[.bool a1_0, .int .u64 a1_1, .int .u64 a1_2] 25 (0, 0)) (zK BK309) hb); clear hb hbox hg; have hnb28 := NB317_308.out; have hnc28 := NB308_317.out; have hnb29 := NB317_309.out; have hnc29 := NB309_317.out; obtain ⟨hcz30_0, hcz30_1, hcz30_2⟩ := zc3 BK317; obtain ⟨hfz30_0, hfz30_1, hfz30_2⟩ := zf3 BK317; obtain ⟨hcz31_0, hcz31_1, hcz31_2⟩ := zc3 BK308; obtain ⟨hfz31_0, hfz31_1, hfz31_2⟩ := zf3 BK308) | ((with_reducible refine gate_callee (f := 17) rfl ?_); refine goesL_ (some 29) rfl rfl Tryd.func17 (by kernel_rfl) rfl #[.agg #[.bool a0_0, .int .u64 a0_1, .int .u64 a0_2]] rfl (by (try simp only [List.map_toArray, List.map_cons, List.map_nil]); first | done | rfl | (simp only [List.length_drop, List.length_take]; rfl)) ?_; (with_reducible refine (intrusionref06_Next.calls kj3 a0_0 a0_1 a0_2 t318 t319 t320 t321 _ A22.out).mono ?_); rintro e w32 ⟨rfl, hb⟩; refine ⟨_, rfl, ?_⟩; replace BK308 := Aside0.mk (blk_below (g := gb308) (o := .cells #[.bool a0_0, .int .u64 a0_1, .int .u64 a0_2] 25 (0, 0)) (by refine zL ?_; refine blk_far ?_ NB308_317.out _; refine zL ?_; refine blk_far ?_ NB308_317.out _; refine zL ?_; refine blk_far ?_ NB308_317.out _; refine zL ?_; exact BK308.out) hb); replace BK309 := Aside0.mk (blk_below (g := gb309) (o := .cells #[.bool a1_0, .int .u64 a1_1, .int .u64 a1_2] 25 (0, 0)) (by refine zL ?_; refine blk_far ?_ NB309_317.out _; refine zL ?_; refine blk_far ?_ NB309_317.out _; refine zL ?_; refine blk_far ?_ NB309_317.out _; refine zL ?_; exact BK309.out) hb); replace BK317 := Aside0.mk (blk_below (g := gb317) (o := .cells #[.bool t313, .int .u64 t314, .int .u64 t315] 25 (0, 0)) (by refine zL ?_; refine blk_put (cs := #[.bool t313, .int .u64 t314, .int .u64 0]) ?_ 2 _ rfl; refine zL ?_; refine blk_put (cs := #[.bool t313, .int .u64 0, .int .u64 0]) ?_ 1 _ rfl; refine zL ?_; refine blk_put (cs := #[.bool false, .int .u64 0, .int .u64 0]) ?_ 0 _ rfl; refine zL ?_; exact BK317.out) hb); replace HB := Aside0.mk (below_step (zB HB) hb); (try clear hb)) | ((with_reducible refine gate_dst (N := 9) rfl ?_); refine zx 9 #[.bool false, .int .u64 0, .int .u64 0] 25 ?_; intro gb322 hg w33 hbox hb; have BK322 := Aside0.mk (hbox); have GW322 := Aside0.mk ((by rw [hg]; exact (below_size (zB HB)) : w.heap.size ≤ gb322)); have GE322 := Aside0.mk ((by rw [hg]; exact (below_size (zB HB)) : w.heap.size ≤ gb322)); replace HB := Aside0.mk (below_step (zB HB) hb); have NB308_322 := Aside0.mk ((by rw [hg]; exact Nat.ne_of_lt (blk_lt (g := gb308) (o := .cells #[.bool a0_0, .int .u64 a0_1, .int .u64 a0_2] 25 (0, 0)) (zK BK308)) : gb308 ≠ gb322)); have NB322_308 := Aside0.mk ((by rw [hg]; exact Nat.ne_of_gt (blk_lt (g := gb308) (o := .cells #[.bool a0_0, .int .u64 a0_1, .int .u64 a0_2] 25 (0, 0)) (zK BK308)) : gb322 ≠ gb308)); replace BK308 := Aside0.mk (blk_below (g := gb308) (o := .cells #[.bool a0_0, .int .u64 a0_1, .int .u64 a0_2] 25 (0, 0)) (zK BK308) hb); have NB309_322 := Aside0.mk ((by rw [hg]; exact Nat.ne_of_lt (blk_lt (g := gb309) (o := .cells #[.bool a1_0, .int .u64 a1_1, .int .u64 a1_2] 25 (0, 0)) (zK BK309)) : gb309 ≠ gb322)); have NB322_309 := Aside0.mk ((by rw [hg]; exact Nat.ne_of_gt (blk_lt (g := gb309) (o := .cells #[.bool a1_0, .int .u64 a1_1, .int .u64 a1_2] 25 (0, 0)) (zK BK309)) : gb322 ≠ gb309)); replace BK309 := Aside0.mk (blk_below (g := gb309) (o := .cells #[.bool a1_0, .int .u64 a1_1, .int .u64 a1_2] 25 (0, 0)) (zK BK309) hb); have NB317_322 := Aside0.mk ((by rw [hg]; exact Nat.ne_of_lt (blk_lt (g := gb317) (o := .cells #[.bool t313, .int .u64 t314, .int .u64 t315] 25 (0, 0)) (zK BK317)) : gb317 ≠ gb322)); have NB322_317 := Aside0.mk ((by rw [hg]; exact Nat.ne_of_gt (blk_lt (g := gb317) (o := .cells #[.bool t313, .int .u64 t314, .int .u64 t315] 25 (0, 0)) (zK BK317)) : gb322 ≠ gb317)); replace BK317 := Aside0.mk (blk_below (g := gb317) (o := .cells #[.bool t313, .int .u64 t314, .int .u64 t315] 25 (0, 0)) (zK BK317) hb); clear hb hbox hg; have hnb34 := NB322_308.out; have hnc34 := NB308_322.out; have hnb35 := NB322_309.out; have hnc35 := NB309_322.out; have hnb36 := NB322_317.out; have hnc36 := NB317_322.out; obtain ⟨hcz37_0, hcz37_1, hcz37_2⟩ := zc3 BK322; obtain ⟨hfz37_0, hfz37_1, hfz37_2⟩ := zf3 BK322))
     (try simp only [Act.put, List.setIfInBounds_toArray, List.set_cons_zero, List.set_cons_succ])
     go_cut [48] (fun v48 wc => ∃ (kq : Nat) (x48_22 : Bool), v48 = .bool x48_22 ∧ Aside0 (intrusionlaw06_AddressOrders.j1 kq a2 x48_22 a0_0 a0_1 a0_2 a1_0 a1_1 a1_2 = some r) ∧ Aside0 (kq ≤ kj3) ∧ Aside0 (wc.heap[gb308]? = some (.cells #[.bool a0_0, .int .u64 a0_1, .int .u64 a0_2] 25 (0, 0))) ∧ Aside0 (wc.heap[gb309]? = some (.cells #[.bool a1_0, .int .u64 a1_1, .int .u64 a1_2] 25 (0, 0))) ∧ Aside0 (wc.heap[gb317]? = some (.cells #[.bool t313, .int .u64 t314, .int .u64 t315] 25 (0, 0))) ∧ Aside0 (wc.heap[gb322]? = some (.cells #[.bool t318, .int .u64 t319, .int .u64 t320] 25 (0, 0))) ∧ Aside0 (Below w.heap.size w wc))
     case first =>
      have H := HC23.out
      clear HC23
      by_cases c38 : (!(t313 == t318) || (!(t314 == t319) || (!(t315 == t320)))) = true
      · rw [if_pos c38] at H
        have c38b0 : (!(t313 == t318) || (!(t314 == t319) || (!(t315 == t320)))) = true := c38
        clear c38
        (first | rw [c38b0] | (simp only [i64_w, i32_w]; rw [c38b0]) | skip)
        have H' := Aside0.mk H
        clear H
        try go_wp2
        have n0_ : Aside0 ((((w33.setCell ⟨gb322, 0, none⟩ (.bool t318)).setCell ⟨gb322, 1, none⟩ (.int .u64 t319)).setCell ⟨gb322, 2, none⟩ (.int .u64 t320)).heap[gb308]? = some (.cells #[.bool a0_0, .int .u64 a0_1, .int .u64 a0_2] 25 (0, 0))) := ⟨by refine zL ?_; refine blk_far ?_ NB308_322.out _; refine zL ?_; refine blk_far ?_ NB308_322.out _; refine zL ?_; refine blk_far ?_ NB308_322.out _; refine zL ?_; exact BK308.out⟩
        have n1_ : Aside0 ((((w33.setCell ⟨gb322, 0, none⟩ (.bool t318)).setCell ⟨gb322, 1, none⟩ (.int .u64 t319)).setCell ⟨gb322, 2, none⟩ (.int .u64 t320)).heap[gb309]? = some (.cells #[.bool a1_0, .int .u64 a1_1, .int .u64 a1_2] 25 (0, 0))) := ⟨by refine zL ?_; refine blk_far ?_ NB309_322.out _; refine zL ?_; refine blk_far ?_ NB309_322.out _; refine zL ?_; refine blk_far ?_ NB309_322.out _; refine zL ?_; exact BK309.out⟩
        have n2_ : Aside0 ((((w33.setCell ⟨gb322, 0, none⟩ (.bool t318)).setCell ⟨gb322, 1, none⟩ (.int .u64 t319)).setCell ⟨gb322, 2, none⟩ (.int .u64 t320)).heap[gb317]? = some (.cells #[.bool t313, .int .u64 t314, .int .u64 t315] 25 (0, 0))) := ⟨by refine zL ?_; refine blk_far ?_ NB317_322.out _; refine zL ?_; refine blk_far ?_ NB317_322.out _; refine zL ?_; refine blk_far ?_ NB317_322.out _; refine zL ?_; exact BK317.out⟩
        have n3_ : Aside0 ((((w33.setCell ⟨gb322, 0, none⟩ (.bool t318)).setCell ⟨gb322, 1, none⟩ (.int .u64 t319)).setCell ⟨gb322, 2, none⟩ (.int .u64 t320)).heap[gb322]? = some (.cells #[.bool t318, .int .u64 t319, .int .u64 t320] 25 (0, 0))) := ⟨by refine zL ?_; refine blk_put (cs := #[.bool t318, .int .u64 t319, .int .u64 0]) ?_ 2 _ rfl; refine zL ?_; refine blk_put (cs := #[.bool t318, .int .u64 0, .int .u64 0]) ?_ 1 _ rfl; refine zL ?_; refine blk_put (cs := #[.bool false, .int .u64 0, .int .u64 0]) ?_ 0 _ rfl; refine zL ?_; exact BK322.out⟩
        have n4_ : Aside0 (Below w.heap.size w (((w33.setCell ⟨gb322, 0, none⟩ (.bool t318)).setCell ⟨gb322, 1, none⟩ (.int .u64 t319)).setCell ⟨gb322, 2, none⟩ (.int .u64 t320))) := ⟨zB HB⟩
        (try clear BK308)
        (try clear BK309)
        (try clear BK317)
        (try clear BK322)
        (try clear HB)
        generalize (((w33.setCell ⟨gb322, 0, none⟩ (.bool t318)).setCell ⟨gb322, 1, none⟩ (.int .u64 t319)).setCell ⟨gb322, 2, none⟩ (.int .u64 t320)) = w39 at n0_ n1_ n2_ n3_ n4_ ⊢
        have BK308 := n0_
        have BK309 := n1_
        have BK317 := n2_
        have BK322 := n3_
        have HB := n4_
        clear n0_ n1_ n2_ n3_ n4_
        replace BK308 := Aside0.mk (blk_drew BK308.out)
        replace BK309 := Aside0.mk (blk_drew BK309.out)
        replace BK317 := Aside0.mk (blk_drew BK317.out)
        replace BK322 := Aside0.mk (blk_drew BK322.out)
        replace HB := Aside0.mk (below_drew1 HB.out)
        refine start_ (n := 17) (S := fun w' => w'.cell? ⟨gb317, 0, none⟩ = some (.bool t313) ∧ w'.cell? ⟨gb317, 1, none⟩ = some (.int .u64 t314) ∧ w'.cell? ⟨gb317, 2, none⟩ = some (.int .u64 t315) ∧ w'.cell? ⟨gb322, 0, none⟩ = some (.bool t318) ∧ w'.cell? ⟨gb322, 1, none⟩ = some (.int .u64 t319) ∧ w'.cell? ⟨gb322, 2, none⟩ = some (.int .u64 t320)) (ds := []) #[false, false, false, false, false, false, false, false, false, false, false, false, false, false, false, false, false] (by kernel_rfl) rfl rfl ⟨zc BK317 0, zc BK317 1, zc BK317 2, zc BK322 0, zc BK322 1, zc BK322 2⟩ (fun hHeld => ?_); refine with_tabW intrusionlaw06_AddressOrders.tab5 intrusionlaw06_AddressOrders.bits5 (fun HT_ HW_ => ?_)
        generalize w39.drew = w40 at BK308 BK309 BK317 BK322 HB hHeld ⊢
        refine zt 0 32 HT_ HW_ hHeld ?_; refine zt 1 33 HT_ HW_ hHeld ?_; refine zp 2 34 HT_ ?_; refine zp 3 35 HT_ ?_; refine zu 4 36 HT_ ?_; refine zu 5 37 HT_ ?_; refine zu 6 38 HT_ ?_; refine zp 7 39 HT_ ?_; refine zp 8 40 HT_ ?_; refine zu 9 41 HT_ ?_; refine zu 10 42 HT_ ?_; refine zu 11 43 HT_ ?_; refine zu 12 44 HT_ ?_; refine zu 13 45 HT_ ?_; refine zu 14 46 HT_ ?_; refine zu 15 47 HT_ ?_; refine zp 16 48 HT_ ?_; refine zd HT_ ?_
        try go_wp2
        go_meet
        case rel => exact ⟨_, (true), (by first | rfl | (simp; done) | (simp [*]; done)), H', ⟨by have := HJ3.out; first | omega | exact Nat.le_refl _⟩, ⟨zK BK308⟩, ⟨zK BK309⟩, ⟨zK BK317⟩, ⟨zK BK322⟩, ⟨zB HB⟩⟩
      · rw [if_neg c38] at H
        have c38b0 : (!(t313 == t318) || (!(t314 == t319) || (!(t315 == t320)))) = false := by simpa using c38
        clear c38
        (first | rw [c38b0] | (simp only [i64_w, i32_w]; rw [c38b0]) | skip)
        by_cases c41 : (t316 != t321) = true
        · rw [if_pos c41] at H
          have c41b0 : (t316 != t321) = true := c41
          (try (have c41b1 : decide (t316 = t321) = false := by first | (simpa using c41) | exact decide_eq_true (Decidable.not_not.1 (fun hn => c41 (bne_iff_ne.2 hn))) | exact beq_iff_eq.2 (Decidable.not_not.1 (fun hn => c41 (bne_iff_ne.2 hn))) | exact decide_eq_false (bne_iff_ne.1 c41) | exact beq_eq_false_iff_ne.2 (bne_iff_ne.1 c41) | exact bne_iff_ne.1 c41))
          (try (have c41b2 : (t316 == t321) = false := by first | (simpa using c41) | exact decide_eq_true (Decidable.not_not.1 (fun hn => c41 (bne_iff_ne.2 hn))) | exact beq_iff_eq.2 (Decidable.not_not.1 (fun hn => c41 (bne_iff_ne.2 hn))) | exact decide_eq_false (bne_iff_ne.1 c41) | exact beq_eq_false_iff_ne.2 (bne_iff_ne.1 c41) | exact bne_iff_ne.1 c41))
          (try (have c41b3 : ¬ (t316 = t321) := by first | (simpa using c41) | exact decide_eq_true (Decidable.not_not.1 (fun hn => c41 (bne_iff_ne.2 hn))) | exact beq_iff_eq.2 (Decidable.not_not.1 (fun hn => c41 (bne_iff_ne.2 hn))) | exact decide_eq_false (bne_iff_ne.1 c41) | exact beq_eq_false_iff_ne.2 (bne_iff_ne.1 c41) | exact bne_iff_ne.1 c41))
          clear c41
          have H' := Aside0.mk H
          clear H
          try go_wp2
          have n0_ : Aside0 ((((w33.setCell ⟨gb322, 0, none⟩ (.bool t318)).setCell ⟨gb322, 1, none⟩ (.int .u64 t319)).setCell ⟨gb322, 2, none⟩ (.int .u64 t320)).heap[gb308]? = some (.cells #[.bool a0_0, .int .u64 a0_1, .int .u64 a0_2] 25 (0, 0))) := ⟨by refine zL ?_; refine blk_far ?_ NB308_322.out _; refine zL ?_; refine blk_far ?_ NB308_322.out _; refine zL ?_; refine blk_far ?_ NB308_322.out _; refine zL ?_; exact BK308.out⟩
          have n1_ : Aside0 ((((w33.setCell ⟨gb322, 0, none⟩ (.bool t318)).setCell ⟨gb322, 1, none⟩ (.int .u64 t319)).setCell ⟨gb322, 2, none⟩ (.int .u64 t320)).heap[gb309]? = some (.cells #[.bool a1_0, .int .u64 a1_1, .int .u64 a1_2] 25 (0, 0))) := ⟨by refine zL ?_; refine blk_far ?_ NB309_322.out _; refine zL ?_; refine blk_far ?_ NB309_322.out _; refine zL ?_; refine blk_far ?_ NB309_322.out _; refine zL ?_; exact BK309.out⟩
          have n2_ : Aside0 ((((w33.setCell ⟨gb322, 0, none⟩ (.bool t318)).setCell ⟨gb322, 1, none⟩ (.int .u64 t319)).setCell ⟨gb322, 2, none⟩ (.int .u64 t320)).heap[gb317]? = some (.cells #[.bool t313, .int .u64 t314, .int .u64 t315] 25 (0, 0))) := ⟨by refine zL ?_; refine blk_far ?_ NB317_322.out _; refine zL ?_; refine blk_far ?_ NB317_322.out _; refine zL ?_; refine blk_far ?_ NB317_322.out _; refine zL ?_; exact BK317.out⟩
          have n3_ : Aside0 ((((w33.setCell ⟨gb322, 0, none⟩ (.bool t318)).setCell ⟨gb322, 1, none⟩ (.int .u64 t319)).setCell ⟨gb322, 2, none⟩ (.int .u64 t320)).heap[gb322]? = some (.cells #[.bool t318, .int .u64 t319, .int .u64 t320] 25 (0, 0))) := ⟨by refine zL ?_; refine blk_put (cs := #[.bool t318, .int .u64 t319, .int .u64 0]) ?_ 2 _ rfl; refine zL ?_; refine blk_put (cs := #[.bool t318, .int .u64 0, .int .u64 0]) ?_ 1 _ rfl; refine zL ?_; refine blk_put (cs := #[.bool false, .int .u64 0, .int .u64 0]) ?_ 0 _ rfl; refine zL ?_; exact BK322.out⟩
          have n4_ : Aside0 (Below w.heap.size w (((w33.setCell ⟨gb322, 0, none⟩ (.bool t318)).setCell ⟨gb322, 1, none⟩ (.int .u64 t319)).setCell ⟨gb322, 2, none⟩ (.int .u64 t320))) := ⟨zB HB⟩
          (try clear BK308)
          (try clear BK309)
          (try clear BK317)
          (try clear BK322)
          (try clear HB)
          generalize (((w33.setCell ⟨gb322, 0, none⟩ (.bool t318)).setCell ⟨gb322, 1, none⟩ (.int .u64 t319)).setCell ⟨gb322, 2, none⟩ (.int .u64 t320)) = w42 at n0_ n1_ n2_ n3_ n4_ ⊢
          have BK308 := n0_
          have BK309 := n1_
          have BK317 := n2_
          have BK322 := n3_
          have HB := n4_
          clear n0_ n1_ n2_ n3_ n4_
          replace BK308 := Aside0.mk (blk_drew BK308.out)
          replace BK309 := Aside0.mk (blk_drew BK309.out)
          replace BK317 := Aside0.mk (blk_drew BK317.out)
          replace BK322 := Aside0.mk (blk_drew BK322.out)
          replace HB := Aside0.mk (below_drew1 HB.out)
          refine start_ (n := 17) (S := fun w' => w'.cell? ⟨gb317, 0, none⟩ = some (.bool t313) ∧ w'.cell? ⟨gb317, 1, none⟩ = some (.int .u64 t314) ∧ w'.cell? ⟨gb317, 2, none⟩ = some (.int .u64 t315) ∧ w'.cell? ⟨gb322, 0, none⟩ = some (.bool t318) ∧ w'.cell? ⟨gb322, 1, none⟩ = some (.int .u64 t319) ∧ w'.cell? ⟨gb322, 2, none⟩ = some (.int .u64 t320)) (ds := []) #[false, false, false, false, false, false, false, false, false, false, false, false, false, false, false, false, false] (by kernel_rfl) rfl rfl ⟨zc BK317 0, zc BK317 1, zc BK317 2, zc BK322 0, zc BK322 1, zc BK322 2⟩ (fun hHeld => ?_); refine with_tabW intrusionlaw06_AddressOrders.tab5 intrusionlaw06_AddressOrders.bits5 (fun HT_ HW_ => ?_)
          generalize w42.drew = w43 at BK308 BK309 BK317 BK322 HB hHeld ⊢
          refine zt 0 32 HT_ HW_ hHeld ?_; refine zt 1 33 HT_ HW_ hHeld ?_; refine zp 2 34 HT_ ?_; refine zp 3 35 HT_ ?_; refine zp 4 36 HT_ ?_; refine zp 5 37 HT_ ?_; refine zp 6 38 HT_ ?_; refine zp 7 39 HT_ ?_; refine zp 8 40 HT_ ?_; refine zu 9 41 HT_ ?_; refine zu 10 42 HT_ ?_; refine zu 11 43 HT_ ?_; refine zu 12 44 HT_ ?_; refine zu 13 45 HT_ ?_; refine zu 14 46 HT_ ?_; refine zu 15 47 HT_ ?_; refine zp 16 48 HT_ ?_; refine zd HT_ ?_
          try go_wp2
          go_meet
          case rel => exact ⟨_, (true), (by first | rfl | (simp; done) | (simp [*]; done)), H', ⟨by have := HJ3.out; first | omega | exact Nat.le_refl _⟩, ⟨zK BK308⟩, ⟨zK BK309⟩, ⟨zK BK317⟩, ⟨zK BK322⟩, ⟨zB HB⟩⟩
        · rw [if_neg c41] at H
          have c41b0 : (t316 != t321) = false := by simpa using c41
          (try (have c41b1 : decide (t316 = t321) = true := by first | (simpa using c41) | exact decide_eq_true (Decidable.not_not.1 (fun hn => c41 (bne_iff_ne.2 hn))) | exact beq_iff_eq.2 (Decidable.not_not.1 (fun hn => c41 (bne_iff_ne.2 hn))) | exact decide_eq_false (bne_iff_ne.1 c41) | exact beq_eq_false_iff_ne.2 (bne_iff_ne.1 c41) | exact bne_iff_ne.1 c41))
          (try (have c41b2 : (t316 == t321) = true := by first | (simpa using c41) | exact decide_eq_true (Decidable.not_not.1 (fun hn => c41 (bne_iff_ne.2 hn))) | exact beq_iff_eq.2 (Decidable.not_not.1 (fun hn => c41 (bne_iff_ne.2 hn))) | exact decide_eq_false (bne_iff_ne.1 c41) | exact beq_eq_false_iff_ne.2 (bne_iff_ne.1 c41) | exact bne_iff_ne.1 c41))
          clear c41
          replace H := Option.bind_eq_some_iff.mp H
          obtain ⟨t323, A440, H⟩ := H
          try dsimp only at H
          have A44 := Aside0.mk A440
          clear A440
          replace H := Option.bind_eq_some_iff.mp H
          obtain ⟨t324, A450, H⟩ := H
          try dsimp only at H
          have A45 := Aside0.mk A450
          clear A450
          have H' := Aside0.mk H
          clear H
          try go_wp2
          have n0_ : Aside0 ((((w33.setCell ⟨gb322, 0, none⟩ (.bool t318)).setCell ⟨gb322, 1, none⟩ (.int .u64 t319)).setCell ⟨gb322, 2, none⟩ (.int .u64 t320)).heap[gb308]? = some (.cells #[.bool a0_0, .int .u64 a0_1, .int .u64 a0_2] 25 (0, 0))) := ⟨by refine zL ?_; refine blk_far ?_ NB308_322.out _; refine zL ?_; refine blk_far ?_ NB308_322.out _; refine zL ?_; refine blk_far ?_ NB308_322.out _; refine zL ?_; exact BK308.out⟩
          have n1_ : Aside0 ((((w33.setCell ⟨gb322, 0, none⟩ (.bool t318)).setCell ⟨gb322, 1, none⟩ (.int .u64 t319)).setCell ⟨gb322, 2, none⟩ (.int .u64 t320)).heap[gb309]? = some (.cells #[.bool a1_0, .int .u64 a1_1, .int .u64 a1_2] 25 (0, 0))) := ⟨by refine zL ?_; refine blk_far ?_ NB309_322.out _; refine zL ?_; refine blk_far ?_ NB309_322.out _; refine zL ?_; refine blk_far ?_ NB309_322.out _; refine zL ?_; exact BK309.out⟩
          have n2_ : Aside0 ((((w33.setCell ⟨gb322, 0, none⟩ (.bool t318)).setCell ⟨gb322, 1, none⟩ (.int .u64 t319)).setCell ⟨gb322, 2, none⟩ (.int .u64 t320)).heap[gb317]? = some (.cells #[.bool t313, .int .u64 t314, .int .u64 t315] 25 (0, 0))) := ⟨by refine zL ?_; refine blk_far ?_ NB317_322.out _; refine zL ?_; refine blk_far ?_ NB317_322.out _; refine zL ?_; refine blk_far ?_ NB317_322.out _; refine zL ?_; exact BK317.out⟩
          have n3_ : Aside0 ((((w33.setCell ⟨gb322, 0, none⟩ (.bool t318)).setCell ⟨gb322, 1, none⟩ (.int .u64 t319)).setCell ⟨gb322, 2, none⟩ (.int .u64 t320)).heap[gb322]? = some (.cells #[.bool t318, .int .u64 t319, .int .u64 t320] 25 (0, 0))) := ⟨by refine zL ?_; refine blk_put (cs := #[.bool t318, .int .u64 t319, .int .u64 0]) ?_ 2 _ rfl; refine zL ?_; refine blk_put (cs := #[.bool t318, .int .u64 0, .int .u64 0]) ?_ 1 _ rfl; refine zL ?_; refine blk_put (cs := #[.bool false, .int .u64 0, .int .u64 0]) ?_ 0 _ rfl; refine zL ?_; exact BK322.out⟩
          have n4_ : Aside0 (Below w.heap.size w (((w33.setCell ⟨gb322, 0, none⟩ (.bool t318)).setCell ⟨gb322, 1, none⟩ (.int .u64 t319)).setCell ⟨gb322, 2, none⟩ (.int .u64 t320))) := ⟨zB HB⟩
          (try clear BK308)
          (try clear BK309)
          (try clear BK317)
          (try clear BK322)
          (try clear HB)
          generalize (((w33.setCell ⟨gb322, 0, none⟩ (.bool t318)).setCell ⟨gb322, 1, none⟩ (.int .u64 t319)).setCell ⟨gb322, 2, none⟩ (.int .u64 t320)) = w46 at n0_ n1_ n2_ n3_ n4_ ⊢
          have BK308 := n0_
          have BK309 := n1_
          have BK317 := n2_
          have BK322 := n3_
          have HB := n4_
          clear n0_ n1_ n2_ n3_ n4_
          replace BK308 := Aside0.mk (blk_drew BK308.out)
          replace BK309 := Aside0.mk (blk_drew BK309.out)
          replace BK317 := Aside0.mk (blk_drew BK317.out)
          replace BK322 := Aside0.mk (blk_drew BK322.out)
          replace HB := Aside0.mk (below_drew1 HB.out)
          refine start_ (n := 17) (S := fun w' => w'.cell? ⟨gb317, 0, none⟩ = some (.bool t313) ∧ w'.cell? ⟨gb317, 1, none⟩ = some (.int .u64 t314) ∧ w'.cell? ⟨gb317, 2, none⟩ = some (.int .u64 t315) ∧ w'.cell? ⟨gb322, 0, none⟩ = some (.bool t318) ∧ w'.cell? ⟨gb322, 1, none⟩ = some (.int .u64 t319) ∧ w'.cell? ⟨gb322, 2, none⟩ = some (.int .u64 t320) ∧ w'.cell? ⟨gb308, 0, none⟩ = some (.bool a0_0) ∧ w'.cell? ⟨gb308, 1, none⟩ = some (.int .u64 a0_1) ∧ w'.cell? ⟨gb308, 2, none⟩ = some (.int .u64 a0_2) ∧ w'.cell? ⟨gb309, 0, none⟩ = some (.bool a1_0) ∧ w'.cell? ⟨gb309, 1, none⟩ = some (.int .u64 a1_1) ∧ w'.cell? ⟨gb309, 2, none⟩ = some (.int .u64 a1_2)) (ds := []) #[false, false, false, false, false, false, false, false, false, false, false, false, false, false, false, false, false] (by kernel_rfl) rfl rfl ⟨zc BK317 0, zc BK317 1, zc BK317 2, zc BK322 0, zc BK322 1, zc BK322 2, zc BK308 0, zc BK308 1, zc BK308 2, zc BK309 0, zc BK309 1, zc BK309 2⟩ (fun hHeld => ?_); refine with_tabW intrusionlaw06_AddressOrders.tab5 intrusionlaw06_AddressOrders.bits5 (fun HT_ HW_ => ?_)
          generalize w46.drew = w47 at BK308 BK309 BK317 BK322 HB hHeld ⊢
          refine zt 0 32 HT_ HW_ hHeld ?_; refine zt 1 33 HT_ HW_ hHeld ?_; refine zp 2 34 HT_ ?_; refine zp 3 35 HT_ ?_; refine zp 4 36 HT_ ?_; refine zp 5 37 HT_ ?_; refine zp 6 38 HT_ ?_; refine zp 7 39 HT_ ?_; refine zp 8 40 HT_ ?_; refine zt 9 41 HT_ HW_ hHeld ?_; refine zt 10 42 HT_ HW_ hHeld ?_; refine zt 12 44 HT_ HW_ hHeld ?_; refine zt 13 45 HT_ HW_ hHeld ?_; refine zo 11 43 HT_ (fun K hK => ?_)
          refine zg Tryd.func18 #[.agg #[.bool a0_0, .int .u64 a0_1, .int .u64 a0_2], .agg #[.bool a1_0, .int .u64 a1_1, .int .u64 a1_2]] ?_
          with_reducible refine (address_Compare.calls a0_0 a0_1 a0_2 a1_0 a1_1 a1_2 t323 _ A44.out).mono ?_
          rintro e w48 ⟨rfl, hb⟩
          refine ⟨_, rfl, ?_⟩
          replace BK308 := Aside0.mk (blk_below (g := gb308) (o := .cells #[.bool a0_0, .int .u64 a0_1, .int .u64 a0_2] 25 (0, 0)) (zK BK308) hb)
          replace BK309 := Aside0.mk (blk_below (g := gb309) (o := .cells #[.bool a1_0, .int .u64 a1_1, .int .u64 a1_2] 25 (0, 0)) (zK BK309) hb)
          replace BK317 := Aside0.mk (blk_below (g := gb317) (o := .cells #[.bool t313, .int .u64 t314, .int .u64 t315] 25 (0, 0)) (zK BK317) hb)
          replace BK322 := Aside0.mk (blk_below (g := gb322) (o := .cells #[.bool t318, .int .u64 t319, .int .u64 t320] 25 (0, 0)) (zK BK322) hb)
          replace HB := Aside0.mk (below_step (zB HB) hb)
          (try clear hb)
          refine hK.out _ _ ⟨zc BK317 0, zc BK317 1, zc BK317 2, zc BK322 0, zc BK322 1, zc BK322 2, zc BK308 0, zc BK308 1, zc BK308 2, zc BK309 0, zc BK309 1, zc BK309 2⟩ (fun hHeld => ?_)
          clear hK K
          refine zn 43 ?_; refine zo 14 46 HT_ (fun K hK => ?_)
          refine zg Tryd.func19 #[.agg #[.bool a0_0, .int .u64 a0_1, .int .u64 a0_2], .agg #[.bool a1_0, .int .u64 a1_1, .int .u64 a1_2]] ?_
          with_reducible refine (intrusionref06_Compare.calls a0_0 a0_1 a0_2 a1_0 a1_1 a1_2 t324 _ A45.out).mono ?_
          rintro e w49 ⟨rfl, hb⟩
          refine ⟨_, rfl, ?_⟩
          replace BK308 := Aside0.mk (blk_below (g := gb308) (o := .cells #[.bool a0_0, .int .u64 a0_1, .int .u64 a0_2] 25 (0, 0)) (zK BK308) hb)
          replace BK309 := Aside0.mk (blk_below (g := gb309) (o := .cells #[.bool a1_0, .int .u64 a1_1, .int .u64 a1_2] 25 (0, 0)) (zK BK309) hb)
          replace BK317 := Aside0.mk (blk_below (g := gb317) (o := .cells #[.bool t313, .int .u64 t314, .int .u64 t315] 25 (0, 0)) (zK BK317) hb)
          replace BK322 := Aside0.mk (blk_below (g := gb322) (o := .cells #[.bool t318, .int .u64 t319, .int .u64 t320] 25 (0, 0)) (zK BK322) hb)
          replace HB := Aside0.mk (below_step (zB HB) hb)
          (try clear hb)
          refine hK.out _ _ ⟨zc BK317 0, zc BK317 1, zc BK317 2, zc BK322 0, zc BK322 1, zc BK322 2, zc BK308 0, zc BK308 1, zc BK308 2, zc BK309 0, zc BK309 1, zc BK309 2⟩ (fun hHeld => ?_)
          clear hK K
          refine zn 46 ?_; refine zp 15 47 HT_ ?_; refine zp 16 48 HT_ ?_; refine zd HT_ ?_
          try go_wp2
          go_meet
          case rel => exact ⟨_, ((t323 != t324)), (by first | rfl | (simp; done) | (simp [*]; done)), H', ⟨by have := HJ3.out; first | omega | exact Nat.le_refl _⟩, ⟨zK BK308⟩, ⟨zK BK309⟩, ⟨zK BK317⟩, ⟨zK BK322⟩, ⟨zB HB⟩⟩
     case rest =>
      clear HC23
      try clear c1
      try clear c2
      try clear p2
      try clear c3
      try clear c4
      try clear c10
      try clear c16
      try clear c17
      try clear c18
      try clear c19
      try clear c24
      try clear c28
      try clear c29
      try clear c34
      try clear c35
      try clear c36
      try clear c38
      try clear c38b0
      try clear c41
      try clear c41b0
      try clear c41b1
      try clear c41b2
      try clear hcz25_0
      try clear hcz25_1
      try clear hcz25_2
      try clear hcz30_0
      try clear hcz30_1
      try clear hcz30_2
      try clear hcz31_0
      try clear hcz31_1
      try clear hcz31_2
      try clear hcz37_0
      try clear hcz37_1
      try clear hcz37_2
      try clear hfz25_0
      try clear hfz25_1
      try clear hfz25_2
      try clear hfz30_0
      try clear hfz30_1
      try clear hfz30_2
      try clear hfz31_0
      try clear hfz31_1
      try clear hfz31_2
      try clear hfz37_0
      try clear hfz37_1
      try clear hfz37_2
      obtain ⟨kq, x48_22, rfl, HA, HJ22, BK308, BK309, BK317, BK322, HB⟩ := hcut
      cases kq with
      | zero => exact absurd HA.out (by simp [intrusionlaw06_AddressOrders.j1])
      | succ kj22 =>
       have H := HA.out
       clear HA
       simp only [intrusionlaw06_AddressOrders.j1] at H
       by_cases c50 : x48_22 = true
       · subst c50
         rw [if_pos rfl] at H
         obtain rfl := Option.some.inj H
         go_wp2
         go_ret
         exact ⟨by first | rfl | (simp [errW_none, errW_some] <;> rfl) | (simp [*, errW_none, errW_some] <;> rfl), by repeat (first | (with_reducible first | exact HB.out | apply below_alloc | apply pw_below_drewN | apply below_drew1 | refine below_set ?_ GE308.out | refine below_set ?_ GE309.out | refine below_set ?_ GE317.out | refine below_set ?_ GE322.out) | exact HB.out)⟩
       · replace c50 := Bool.eq_false_iff.mpr c50
         subst c50
         rw [if_neg zF] at H
         replace H := Option.bind_eq_some_iff.mp H
         obtain ⟨⟨t325, t326, t327, t328⟩, A510, H⟩ := H
         try dsimp only at H
         have A51 := Aside0.mk A510
         clear A510
         replace H := Option.bind_eq_some_iff.mp H
         obtain ⟨⟨t329, t330, t331, t332⟩, A520, H⟩ := H
         try dsimp only at H
         have A52 := Aside0.mk A520
         clear A520
         replace H := Option.bind_eq_some_iff.mp H
         obtain ⟨⟨t333, t334, t335, t336, t337⟩, A530, H⟩ := H
         try dsimp only at H
         have A53 := Aside0.mk A530
         clear A530
         by_cases c54 : (t325 == t329 && (t326 == t330 && (t327 == t331))) = true
         · rw [if_pos c54] at H
           have c54b0 : (t325 == t329 && (t326 == t330 && (t327 == t331))) = true := c54
           (try (have c54b1 : decide (t325 = t329 && (t326 == t330 && (t327 == t331))) = true := by first | (simpa using c54) | exact decide_eq_true (Decidable.not_not.1 (fun hn => c54 (bne_iff_ne.2 hn))) | exact beq_iff_eq.2 (Decidable.not_not.1 (fun hn => c54 (bne_iff_ne.2 hn))) | exact decide_eq_false (bne_iff_ne.1 c54) | exact beq_eq_false_iff_ne.2 (bne_iff_ne.1 c54) | exact bne_iff_ne.1 c54))
           (try (have c54b2 : (t325 == t329 && (t326 == t330 && (t327 == t331))) = true := by first | (simpa using c54) | exact decide_eq_true (Decidable.not_not.1 (fun hn => c54 (bne_iff_ne.2 hn))) | exact beq_iff_eq.2 (Decidable.not_not.1 (fun hn => c54 (bne_iff_ne.2 hn))) | exact decide_eq_false (bne_iff_ne.1 c54) | exact beq_eq_false_iff_ne.2 (bne_iff_ne.1 c54) | exact bne_iff_ne.1 c54))
           clear c54
           by_cases c55 : (t328 == t332) = true
           · rw [if_pos c55] at H
             have c55b0 : (t328 == t332) = true := c55
             (try (have c55b1 : decide (t328 = t332) = true := by first | (simpa using c55) | exact decide_eq_true (Decidable.not_not.1 (fun hn => c55 (bne_iff_ne.2 hn))) | exact beq_iff_eq.2 (Decidable.not_not.1 (fun hn => c55 (bne_iff_ne.2 hn))) | exact decide_eq_false (bne_iff_ne.1 c55) | exact beq_eq_false_iff_ne.2 (bne_iff_ne.1 c55) | exact bne_iff_ne.1 c55))
             (try (have c55b2 : (t328 == t332) = true := by first | (simpa using c55) | exact decide_eq_true (Decidable.not_not.1 (fun hn => c55 (bne_iff_ne.2 hn))) | exact beq_iff_eq.2 (Decidable.not_not.1 (fun hn => c55 (bne_iff_ne.2 hn))) | exact decide_eq_false (bne_iff_ne.1 c55) | exact beq_eq_false_iff_ne.2 (bne_iff_ne.1 c55) | exact bne_iff_ne.1 c55))
             clear c55
             by_cases c56 : t337 = 0
             · rw [if_pos c56] at H
               have c56b0 : (t337 == 0) = true := beq_iff_eq.mpr c56
               have c56b1 : (t337 != 0) = false := bne_eq_false_iff_eq.mpr c56
               clear c56
               replace H := Option.bind_eq_some_iff.mp H
               obtain ⟨t339, A570, H⟩ := H
               try dsimp only at H
               have A57 := Aside0.mk A570
               clear A570
               replace H := Option.bind_eq_some_iff.mp H
               obtain ⟨t340, A580, H⟩ := H
               try dsimp only at H
               have A58 := Aside0.mk A580
               clear A580
               by_cases c59 : (t339 == t340) = true
               · rw [if_pos c59] at H
                 have c59b0 : (t339 == t340) = true := c59
                 (try (have c59b1 : decide (t339 = t340) = true := by first | (simpa using c59) | exact decide_eq_true (Decidable.not_not.1 (fun hn => c59 (bne_iff_ne.2 hn))) | exact beq_iff_eq.2 (Decidable.not_not.1 (fun hn => c59 (bne_iff_ne.2 hn))) | exact decide_eq_false (bne_iff_ne.1 c59) | exact beq_eq_false_iff_ne.2 (bne_iff_ne.1 c59) | exact bne_iff_ne.1 c59))
                 (try (have c59b2 : (t339 == t340) = true := by first | (simpa using c59) | exact decide_eq_true (Decidable.not_not.1 (fun hn => c59 (bne_iff_ne.2 hn))) | exact beq_iff_eq.2 (Decidable.not_not.1 (fun hn => c59 (bne_iff_ne.2 hn))) | exact decide_eq_false (bne_iff_ne.1 c59) | exact beq_eq_false_iff_ne.2 (bne_iff_ne.1 c59) | exact bne_iff_ne.1 c59))
                 clear c59
                 replace H := Option.bind_eq_some_iff.mp H
                 obtain ⟨t341, A600, H⟩ := H
                 try dsimp only at H
                 have A60 := Aside0.mk A600
                 clear A600
                 obtain rfl := Option.some.inj H
                 have hnb61 := NB308_309.out
                 have hnc61 := NB309_308.out
                 have hnb62 := NB308_317.out
                 have hnc62 := NB317_308.out
                 have hnb63 := NB308_322.out
                 have hnc63 := NB322_308.out
                 obtain ⟨hcz64_0, hcz64_1, hcz64_2⟩ := zc3 BK308
                 obtain ⟨hfz64_0, hfz64_1, hfz64_2⟩ := zf3 BK308
                 try go_wp2_with (first | ((with_reducible refine gate_callee (f := 20) rfl ?_); refine goesL_ (some 51) rfl rfl Tryd.func20 (by kernel_rfl) rfl #[.agg #[.bool a0_0, .int .u64 a0_1, .int .u64 a0_2]] rfl (by (try simp only [List.map_toArray, List.map_cons, List.map_nil]); first | done | rfl | (simp only [List.length_drop, List.length_take]; rfl)) ?_; (with_reducible refine (address_Previous.calls a0_0 a0_1 a0_2 t325 t326 t327 t328 _ A51.out).mono ?_); rintro e w65 ⟨rfl, hb⟩; refine ⟨_, rfl, ?_⟩; replace BK308 := Aside0.mk (blk_below (g := gb308) (o := .cells #[.bool a0_0, .int .u64 a0_1, .int .u64 a0_2] 25 (0, 0)) (zK BK308) hb); replace BK309 := Aside0.mk (blk_below (g := gb309) (o := .cells #[.bool a1_0, .int .u64 a1_1, .int .u64 a1_2] 25 (0, 0)) (zK BK309) hb); replace BK317 := Aside0.mk (blk_below (g := gb317) (o := .cells #[.bool t313, .int .u64 t314, .int .u64 t315] 25 (0, 0)) (zK BK317) hb); replace BK322 := Aside0.mk (blk_below (g := gb322) (o := .cells #[.bool t318, .int .u64 t319, .int .u64 t320] 25 (0, 0)) (zK BK322) hb); replace HB := Aside0.mk (below_step (zB HB) hb); (try clear hb); have hnb66 := NB317_309.out; have hnc66 := NB309_317.out; have hnb67 := NB317_322.out; have hnc67 := NB322_317.out; obtain ⟨hcz68_0, hcz68_1, hcz68_2⟩ := zc3 BK317; obtain ⟨hfz68_0, hfz68_1, hfz68_2⟩ := zf3 BK317; obtain ⟨hcz69_0, hcz69_1, hcz69_2⟩ := zc3 BK308; obtain ⟨hfz69_0, hfz69_1, hfz69_2⟩ := zf3 BK308) | ((with_reducible refine gate_callee (f := 21) rfl ?_); refine goesL_ (some 56) rfl rfl Tryd.func21 (by kernel_rfl) rfl #[.agg #[.bool a0_0, .int .u64 a0_1, .int .u64 a0_2]] rfl (by (try simp only [List.map_toArray, List.map_cons, List.map_nil]); first | done | rfl | (simp only [List.length_drop, List.length_take]; rfl)) ?_; (with_reducible refine (intrusionref06_Previous.calls kj22 a0_0 a0_1 a0_2 t329 t330 t331 t332 _ A52.out).mono ?_); rintro e w70 ⟨rfl, hb⟩; refine ⟨_, rfl, ?_⟩; replace BK308 := Aside0.mk (blk_below (g := gb308) (o := .cells #[.bool a0_0, .int .u64 a0_1, .int .u64 a0_2] 25 (0, 0)) (by refine zL ?_; refine blk_far ?_ NB308_317.out _; refine zL ?_; refine blk_far ?_ NB308_317.out _; refine zL ?_; refine blk_far ?_ NB308_317.out _; refine zL ?_; exact BK308.out) hb); replace BK309 := Aside0.mk (blk_below (g := gb309) (o := .cells #[.bool a1_0, .int .u64 a1_1, .int .u64 a1_2] 25 (0, 0)) (by refine zL ?_; refine blk_far ?_ NB309_317.out _; refine zL ?_; refine blk_far ?_ NB309_317.out _; refine zL ?_; refine blk_far ?_ NB309_317.out _; refine zL ?_; exact BK309.out) hb); replace BK317 := Aside0.mk (blk_below (g := gb317) (o := .cells #[.bool t325, .int .u64 t326, .int .u64 t327] 25 (0, 0)) (by refine zL ?_; refine blk_put (cs := #[.bool t325, .int .u64 t326, .int .u64 t315]) ?_ 2 _ rfl; refine zL ?_; refine blk_put (cs := #[.bool t325, .int .u64 t314, .int .u64 t315]) ?_ 1 _ rfl; refine zL ?_; refine blk_put (cs := #[.bool t313, .int .u64 t314, .int .u64 t315]) ?_ 0 _ rfl; refine zL ?_; exact BK317.out) hb); replace BK322 := Aside0.mk (blk_below (g := gb322) (o := .cells #[.bool t318, .int .u64 t319, .int .u64 t320] 25 (0, 0)) (by refine zL ?_; refine blk_far ?_ NB322_317.out _; refine zL ?_; refine blk_far ?_ NB322_317.out _; refine zL ?_; refine blk_far ?_ NB322_317.out _; refine zL ?_; exact BK322.out) hb); replace HB := Aside0.mk (below_step (zB HB) hb); (try clear hb); have hnb71 := NB322_309.out; have hnc71 := NB309_322.out; obtain ⟨hcz72_0, hcz72_1, hcz72_2⟩ := zc3 BK322; obtain ⟨hfz72_0, hfz72_1, hfz72_2⟩ := zf3 BK322; obtain ⟨hcz73_0, hcz73_1, hcz73_2⟩ := zc3 BK309; obtain ⟨hfz73_0, hfz73_1, hfz73_2⟩ := zf3 BK309) | ((with_reducible refine gate_callee (f := 22) rfl ?_); refine goesL_ (some 62) rfl rfl Tryd.func22 (by kernel_rfl) rfl #[.agg #[.bool a1_0, .int .u64 a1_1, .int .u64 a1_2], .int .i64 a2] rfl (by (try simp only [List.map_toArray, List.map_cons, List.map_nil]); first | done | rfl | (simp only [List.length_drop, List.length_take]; rfl)) ?_; (with_reducible refine (intrusionref06_MakePrefix.calls kj22 a1_0 a1_1 a1_2 a2 t333 t334 t335 t336 t337 _ A53.out).mono ?_); rintro e w74 ⟨rfl, hb⟩; refine ⟨_, rfl, ?_⟩; replace BK308 := Aside0.mk (blk_below (g := gb308) (o := .cells #[.bool a0_0, .int .u64 a0_1, .int .u64 a0_2] 25 (0, 0)) (by refine zL ?_; refine blk_far ?_ NB308_322.out _; refine zL ?_; refine blk_far ?_ NB308_322.out _; refine zL ?_; refine blk_far ?_ NB308_322.out _; refine zL ?_; exact BK308.out) hb); replace BK309 := Aside0.mk (blk_below (g := gb309) (o := .cells #[.bool a1_0, .int .u64 a1_1, .int .u64 a1_2] 25 (0, 0)) (by refine zL ?_; refine blk_far ?_ NB309_322.out _; refine zL ?_; refine blk_far ?_ NB309_322.out _; refine zL ?_; refine blk_far ?_ NB309_322.out _; refine zL ?_; exact BK309.out) hb); replace BK317 := Aside0.mk (blk_below (g := gb317) (o := .cells #[.bool t325, .int .u64 t326, .int .u64 t327] 25 (0, 0)) (by refine zL ?_; refine blk_far ?_ NB317_322.out _; refine zL ?_; refine blk_far ?_ NB317_322.out _; refine zL ?_; refine blk_far ?_ NB317_322.out _; refine zL ?_; exact BK317.out) hb); replace BK322 := Aside0.mk (blk_below (g := gb322) (o := .cells #[.bool t329, .int .u64 t330, .int .u64 t331] 25 (0, 0)) (by refine zL ?_; refine blk_put (cs := #[.bool t329, .int .u64 t330, .int .u64 t320]) ?_ 2 _ rfl; refine zL ?_; refine blk_put (cs := #[.bool t329, .int .u64 t319, .int .u64 t320]) ?_ 1 _ rfl; refine zL ?_; refine blk_put (cs := #[.bool t318, .int .u64 t319, .int .u64 t320]) ?_ 0 _ rfl; refine zL ?_; exact BK322.out) hb); replace HB := Aside0.mk (below_step (zB HB) hb); (try clear hb)) | ((with_reducible refine gate_dst (N := 11) rfl ?_); refine zx 11 #[.bool false, .int .u64 0, .int .u64 0, .int .i64 0] 30 ?_; intro gb338 hg w75 hbox hb; have BK338 := Aside0.mk (hbox); have GW338 := Aside0.mk ((by rw [hg]; exact (below_size (zB HB)) : w.heap.size ≤ gb338)); have GE338 := Aside0.mk ((by rw [hg]; exact (below_size (zB HB)) : w.heap.size ≤ gb338)); replace HB := Aside0.mk (below_step (zB HB) hb); have NB308_338 := Aside0.mk ((by rw [hg]; exact Nat.ne_of_lt (blk_lt (g := gb308) (o := .cells #[.bool a0_0, .int .u64 a0_1, .int .u64 a0_2] 25 (0, 0)) (zK BK308)) : gb308 ≠ gb338)); have NB338_308 := Aside0.mk ((by rw [hg]; exact Nat.ne_of_gt (blk_lt (g := gb308) (o := .cells #[.bool a0_0, .int .u64 a0_1, .int .u64 a0_2] 25 (0, 0)) (zK BK308)) : gb338 ≠ gb308)); replace BK308 := Aside0.mk (blk_below (g := gb308) (o := .cells #[.bool a0_0, .int .u64 a0_1, .int .u64 a0_2] 25 (0, 0)) (zK BK308) hb); have NB309_338 := Aside0.mk ((by rw [hg]; exact Nat.ne_of_lt (blk_lt (g := gb309) (o := .cells #[.bool a1_0, .int .u64 a1_1, .int .u64 a1_2] 25 (0, 0)) (zK BK309)) : gb309 ≠ gb338)); have NB338_309 := Aside0.mk ((by rw [hg]; exact Nat.ne_of_gt (blk_lt (g := gb309) (o := .cells #[.bool a1_0, .int .u64 a1_1, .int .u64 a1_2] 25 (0, 0)) (zK BK309)) : gb338 ≠ gb309)); replace BK309 := Aside0.mk (blk_below (g := gb309) (o := .cells #[.bool a1_0, .int .u64 a1_1, .int .u64 a1_2] 25 (0, 0)) (zK BK309) hb); have NB317_338 := Aside0.mk ((by rw [hg]; exact Nat.ne_of_lt (blk_lt (g := gb317) (o := .cells #[.bool t325, .int .u64 t326, .int .u64 t327] 25 (0, 0)) (zK BK317)) : gb317 ≠ gb338)); have NB338_317 := Aside0.mk ((by rw [hg]; exact Nat.ne_of_gt (blk_lt (g := gb317) (o := .cells #[.bool t325, .int .u64 t326, .int .u64 t327] 25 (0, 0)) (zK BK317)) : gb338 ≠ gb317)); replace BK317 := Aside0.mk (blk_below (g := gb317) (o := .cells #[.bool t325, .int .u64 t326, .int .u64 t327] 25 (0, 0)) (zK BK317) hb); have NB322_338 := Aside0.mk ((by rw [hg]; exact Nat.ne_of_lt (blk_lt (g := gb322) (o := .cells #[.bool t329, .int .u64 t330, .int .u64 t331] 25 (0, 0)) (zK BK322)) : gb322 ≠ gb338)); have NB338_322 := Aside0.mk ((by rw [hg]; exact Nat.ne_of_gt (blk_lt (g := gb322) (o := .cells #[.bool t329, .int .u64 t330, .int .u64 t331] 25 (0, 0)) (zK BK322)) : gb338 ≠ gb322)); replace BK322 := Aside0.mk (blk_below (g := gb322) (o := .cells #[.bool t329, .int .u64 t330, .int .u64 t331] 25 (0, 0)) (zK BK322) hb); clear hb hbox hg; have hnb76 := NB338_308.out; have hnc76 := NB308_338.out; have hnb77 := NB338_309.out; have hnc77 := NB309_338.out; have hnb78 := NB338_317.out; have hnc78 := NB317_338.out; have hnb79 := NB338_322.out; have hnc79 := NB322_338.out; obtain ⟨hcz80_0, hcz80_1, hcz80_2, hcz80_3⟩ := zc4 BK338; obtain ⟨hfz80_0, hfz80_1, hfz80_2, hfz80_3⟩ := zf4 BK338))
                 have n0_ : Aside0 (((((w75.setCell ⟨gb338, 0, none⟩ (.bool t333)).setCell ⟨gb338, 1, none⟩ (.int .u64 t334)).setCell ⟨gb338, 2, none⟩ (.int .u64 t335)).setCell ⟨gb338, 3, none⟩ (.int .i64 t336)).heap[gb308]? = some (.cells #[.bool a0_0, .int .u64 a0_1, .int .u64 a0_2] 25 (0, 0))) := ⟨by refine zL ?_; refine blk_far ?_ NB308_338.out _; refine zL ?_; refine blk_far ?_ NB308_338.out _; refine zL ?_; refine blk_far ?_ NB308_338.out _; refine zL ?_; refine blk_far ?_ NB308_338.out _; refine zL ?_; exact BK308.out⟩
                 have n1_ : Aside0 (((((w75.setCell ⟨gb338, 0, none⟩ (.bool t333)).setCell ⟨gb338, 1, none⟩ (.int .u64 t334)).setCell ⟨gb338, 2, none⟩ (.int .u64 t335)).setCell ⟨gb338, 3, none⟩ (.int .i64 t336)).heap[gb309]? = some (.cells #[.bool a1_0, .int .u64 a1_1, .int .u64 a1_2] 25 (0, 0))) := ⟨by refine zL ?_; refine blk_far ?_ NB309_338.out _; refine zL ?_; refine blk_far ?_ NB309_338.out _; refine zL ?_; refine blk_far ?_ NB309_338.out _; refine zL ?_; refine blk_far ?_ NB309_338.out _; refine zL ?_; exact BK309.out⟩
                 have n2_ : Aside0 (((((w75.setCell ⟨gb338, 0, none⟩ (.bool t333)).setCell ⟨gb338, 1, none⟩ (.int .u64 t334)).setCell ⟨gb338, 2, none⟩ (.int .u64 t335)).setCell ⟨gb338, 3, none⟩ (.int .i64 t336)).heap[gb317]? = some (.cells #[.bool t325, .int .u64 t326, .int .u64 t327] 25 (0, 0))) := ⟨by refine zL ?_; refine blk_far ?_ NB317_338.out _; refine zL ?_; refine blk_far ?_ NB317_338.out _; refine zL ?_; refine blk_far ?_ NB317_338.out _; refine zL ?_; refine blk_far ?_ NB317_338.out _; refine zL ?_; exact BK317.out⟩
                 have n3_ : Aside0 (((((w75.setCell ⟨gb338, 0, none⟩ (.bool t333)).setCell ⟨gb338, 1, none⟩ (.int .u64 t334)).setCell ⟨gb338, 2, none⟩ (.int .u64 t335)).setCell ⟨gb338, 3, none⟩ (.int .i64 t336)).heap[gb322]? = some (.cells #[.bool t329, .int .u64 t330, .int .u64 t331] 25 (0, 0))) := ⟨by refine zL ?_; refine blk_far ?_ NB322_338.out _; refine zL ?_; refine blk_far ?_ NB322_338.out _; refine zL ?_; refine blk_far ?_ NB322_338.out _; refine zL ?_; refine blk_far ?_ NB322_338.out _; refine zL ?_; exact BK322.out⟩
                 have n4_ : Aside0 (((((w75.setCell ⟨gb338, 0, none⟩ (.bool t333)).setCell ⟨gb338, 1, none⟩ (.int .u64 t334)).setCell ⟨gb338, 2, none⟩ (.int .u64 t335)).setCell ⟨gb338, 3, none⟩ (.int .i64 t336)).heap[gb338]? = some (.cells #[.bool t333, .int .u64 t334, .int .u64 t335, .int .i64 t336] 30 (0, 0))) := ⟨by refine zL ?_; refine blk_put (cs := #[.bool t333, .int .u64 t334, .int .u64 t335, .int .i64 0]) ?_ 3 _ rfl; refine zL ?_; refine blk_put (cs := #[.bool t333, .int .u64 t334, .int .u64 0, .int .i64 0]) ?_ 2 _ rfl; refine zL ?_; refine blk_put (cs := #[.bool t333, .int .u64 0, .int .u64 0, .int .i64 0]) ?_ 1 _ rfl; refine zL ?_; refine blk_put (cs := #[.bool false, .int .u64 0, .int .u64 0, .int .i64 0]) ?_ 0 _ rfl; refine zL ?_; exact BK338.out⟩
                 have n5_ : Aside0 (Below w.heap.size w ((((w75.setCell ⟨gb338, 0, none⟩ (.bool t333)).setCell ⟨gb338, 1, none⟩ (.int .u64 t334)).setCell ⟨gb338, 2, none⟩ (.int .u64 t335)).setCell ⟨gb338, 3, none⟩ (.int .i64 t336))) := ⟨zB HB⟩
                 (try clear BK308)
                 (try clear BK309)
                 (try clear BK317)
                 (try clear BK322)
                 (try clear BK338)
                 (try clear HB)
                 generalize ((((w75.setCell ⟨gb338, 0, none⟩ (.bool t333)).setCell ⟨gb338, 1, none⟩ (.int .u64 t334)).setCell ⟨gb338, 2, none⟩ (.int .u64 t335)).setCell ⟨gb338, 3, none⟩ (.int .i64 t336)) = w81 at n0_ n1_ n2_ n3_ n4_ n5_ ⊢
                 have BK308 := n0_
                 have BK309 := n1_
                 have BK317 := n2_
                 have BK322 := n3_
                 have BK338 := n4_
                 have HB := n5_
                 clear n0_ n1_ n2_ n3_ n4_ n5_
                 replace BK308 := Aside0.mk (blk_drew BK308.out)
                 replace BK309 := Aside0.mk (blk_drew BK309.out)
                 replace BK317 := Aside0.mk (blk_drew BK317.out)
                 replace BK322 := Aside0.mk (blk_drew BK322.out)
                 replace BK338 := Aside0.mk (blk_drew BK338.out)
                 replace HB := Aside0.mk (below_drew1 HB.out)
                 refine start_ (n := 25) (S := fun w' => w'.cell? ⟨gb317, 0, none⟩ = some (.bool t325) ∧ w'.cell? ⟨gb317, 1, none⟩ = some (.int .u64 t326) ∧ w'.cell? ⟨gb317, 2, none⟩ = some (.int .u64 t327) ∧ w'.cell? ⟨gb322, 0, none⟩ = some (.bool t329) ∧ w'.cell? ⟨gb322, 1, none⟩ = some (.int .u64 t330) ∧ w'.cell? ⟨gb322, 2, none⟩ = some (.int .u64 t331) ∧ w'.cell? ⟨gb338, 0, none⟩ = some (.bool t333) ∧ w'.cell? ⟨gb338, 1, none⟩ = some (.int .u64 t334) ∧ w'.cell? ⟨gb338, 2, none⟩ = some (.int .u64 t335) ∧ w'.cell? ⟨gb338, 3, none⟩ = some (.int .i64 t336) ∧ w'.cell? ⟨gb308, 0, none⟩ = some (.bool a0_0) ∧ w'.cell? ⟨gb308, 1, none⟩ = some (.int .u64 a0_1) ∧ w'.cell? ⟨gb308, 2, none⟩ = some (.int .u64 a0_2)) (ds := []) #[false, false, false, false, false, false, false, false, false, false, false, false, false, false, false, false, false, false, false, false, false, false, false, false, false] (by kernel_rfl) rfl rfl ⟨zc BK317 0, zc BK317 1, zc BK317 2, zc BK322 0, zc BK322 1, zc BK322 2, zc BK338 0, zc BK338 1, zc BK338 2, zc BK338 3, zc BK308 0, zc BK308 1, zc BK308 2⟩ (fun hHeld => ?_); refine with_tabW intrusionlaw06_AddressOrders.tab10 intrusionlaw06_AddressOrders.bits10 (fun HT_ HW_ => ?_)
                 generalize w81.drew = w82 at BK308 BK309 BK317 BK322 BK338 HB hHeld ⊢
                 refine zt 0 65 HT_ HW_ hHeld ?_; refine zt 1 66 HT_ HW_ hHeld ?_; refine zp 2 67 HT_ ?_; refine zp 3 68 HT_ ?_; refine zp 4 69 HT_ ?_; refine zp 5 70 HT_ ?_; refine zp 6 71 HT_ ?_; refine zp 7 72 HT_ ?_; refine zp 8 73 HT_ ?_; refine zp 9 74 HT_ ?_; refine zp 10 75 HT_ ?_; refine zp 11 76 HT_ ?_; refine zt 12 77 HT_ HW_ hHeld ?_; refine zt 13 78 HT_ HW_ hHeld ?_; refine zt 15 80 HT_ HW_ hHeld ?_; refine zt 16 81 HT_ HW_ hHeld ?_; refine zo 14 79 HT_ (fun K hK => ?_)
                 refine zg Tryd.func23 #[.agg #[.bool t333, .int .u64 t334, .int .u64 t335, .int .i64 t336], .agg #[.bool a0_0, .int .u64 a0_1, .int .u64 a0_2]] ?_
                 with_reducible refine (address_Contains.calls t333 t334 t335 t336 a0_0 a0_1 a0_2 t339 _ A57.out).mono ?_
                 rintro e w83 ⟨rfl, hb⟩
                 refine ⟨_, rfl, ?_⟩
                 replace BK308 := Aside0.mk (blk_below (g := gb308) (o := .cells #[.bool a0_0, .int .u64 a0_1, .int .u64 a0_2] 25 (0, 0)) (zK BK308) hb)
                 replace BK309 := Aside0.mk (blk_below (g := gb309) (o := .cells #[.bool a1_0, .int .u64 a1_1, .int .u64 a1_2] 25 (0, 0)) (zK BK309) hb)
                 replace BK317 := Aside0.mk (blk_below (g := gb317) (o := .cells #[.bool t325, .int .u64 t326, .int .u64 t327] 25 (0, 0)) (zK BK317) hb)
                 replace BK322 := Aside0.mk (blk_below (g := gb322) (o := .cells #[.bool t329, .int .u64 t330, .int .u64 t331] 25 (0, 0)) (zK BK322) hb)
                 replace BK338 := Aside0.mk (blk_below (g := gb338) (o := .cells #[.bool t333, .int .u64 t334, .int .u64 t335, .int .i64 t336] 30 (0, 0)) (zK BK338) hb)
                 replace HB := Aside0.mk (below_step (zB HB) hb)
                 (try clear hb)
                 refine hK.out _ _ ⟨zc BK317 0, zc BK317 1, zc BK317 2, zc BK322 0, zc BK322 1, zc BK322 2, zc BK338 0, zc BK338 1, zc BK338 2, zc BK338 3, zc BK308 0, zc BK308 1, zc BK308 2⟩ (fun hHeld => ?_)
                 clear hK K
                 refine zn 79 ?_; refine zo 17 82 HT_ (fun K hK => ?_)
                 refine zg Tryd.func24 #[.agg #[.bool t333, .int .u64 t334, .int .u64 t335, .int .i64 t336], .agg #[.bool a0_0, .int .u64 a0_1, .int .u64 a0_2]] ?_
                 with_reducible refine (intrusionref06_Contains.calls kj22 t333 t334 t335 t336 a0_0 a0_1 a0_2 t340 _ A58.out).mono ?_
                 rintro e w84 ⟨rfl, hb⟩
                 refine ⟨_, rfl, ?_⟩
                 replace BK308 := Aside0.mk (blk_below (g := gb308) (o := .cells #[.bool a0_0, .int .u64 a0_1, .int .u64 a0_2] 25 (0, 0)) (zK BK308) hb)
                 replace BK309 := Aside0.mk (blk_below (g := gb309) (o := .cells #[.bool a1_0, .int .u64 a1_1, .int .u64 a1_2] 25 (0, 0)) (zK BK309) hb)
                 replace BK317 := Aside0.mk (blk_below (g := gb317) (o := .cells #[.bool t325, .int .u64 t326, .int .u64 t327] 25 (0, 0)) (zK BK317) hb)
                 replace BK322 := Aside0.mk (blk_below (g := gb322) (o := .cells #[.bool t329, .int .u64 t330, .int .u64 t331] 25 (0, 0)) (zK BK322) hb)
                 replace BK338 := Aside0.mk (blk_below (g := gb338) (o := .cells #[.bool t333, .int .u64 t334, .int .u64 t335, .int .i64 t336] 30 (0, 0)) (zK BK338) hb)
                 replace HB := Aside0.mk (below_step (zB HB) hb)
                 (try clear hb)
                 refine hK.out _ _ ⟨zc BK317 0, zc BK317 1, zc BK317 2, zc BK322 0, zc BK322 1, zc BK322 2, zc BK338 0, zc BK338 1, zc BK338 2, zc BK338 3, zc BK308 0, zc BK308 1, zc BK308 2⟩ (fun hHeld => ?_)
                 clear hK K
                 refine zn 82 ?_; refine zp 18 83 HT_ ?_; refine zp 19 84 HT_ ?_; refine zp 20 85 HT_ ?_; refine zp 21 86 HT_ ?_; refine zo 22 87 HT_ (fun K hK => ?_)
                 refine zg Tryd.func10 #[] ?_
                 with_reducible refine (intrusionlaw06_lives.calls  t341 _ A60.out (WOK.below hW_ (zB HB))).mono ?_
                 rintro e w85 ⟨rfl, hb⟩
                 refine ⟨_, rfl, ?_⟩
                 replace BK308 := Aside0.mk (blk_below (g := gb308) (o := .cells #[.bool a0_0, .int .u64 a0_1, .int .u64 a0_2] 25 (0, 0)) (zK BK308) hb)
                 replace BK309 := Aside0.mk (blk_below (g := gb309) (o := .cells #[.bool a1_0, .int .u64 a1_1, .int .u64 a1_2] 25 (0, 0)) (zK BK309) hb)
                 replace BK317 := Aside0.mk (blk_below (g := gb317) (o := .cells #[.bool t325, .int .u64 t326, .int .u64 t327] 25 (0, 0)) (zK BK317) hb)
                 replace BK322 := Aside0.mk (blk_below (g := gb322) (o := .cells #[.bool t329, .int .u64 t330, .int .u64 t331] 25 (0, 0)) (zK BK322) hb)
                 replace BK338 := Aside0.mk (blk_below (g := gb338) (o := .cells #[.bool t333, .int .u64 t334, .int .u64 t335, .int .i64 t336] 30 (0, 0)) (zK BK338) hb)
                 replace HB := Aside0.mk (below_step (zB HB) hb)
                 (try clear hb)
                 refine hK.out _ _ ⟨zc BK317 0, zc BK317 1, zc BK317 2, zc BK322 0, zc BK322 1, zc BK322 2, zc BK338 0, zc BK338 1, zc BK338 2, zc BK338 3, zc BK308 0, zc BK308 1, zc BK308 2⟩ (fun hHeld => ?_)
                 clear hK K
                 refine zn 87 ?_; refine zp 23 88 HT_ ?_; refine zp 24 6 HT_ ?_; refine zd HT_ ?_
                 try go_wp2
                 go_ret
                 exact ⟨by first | rfl | (simp [errW_none, errW_some] <;> rfl) | (simp [*, errW_none, errW_some] <;> rfl), by repeat (first | (with_reducible first | exact HB.out | apply below_alloc | apply pw_below_drewN | apply below_drew1 | refine below_set ?_ GE308.out | refine below_set ?_ GE309.out | refine below_set ?_ GE317.out | refine below_set ?_ GE322.out | refine below_set ?_ GE338.out) | exact HB.out)⟩
               · rw [if_neg c59] at H
                 have c59b0 : (t339 == t340) = false := by simpa using c59
                 (try (have c59b1 : decide (t339 = t340) = false := by first | (simpa using c59) | exact decide_eq_true (Decidable.not_not.1 (fun hn => c59 (bne_iff_ne.2 hn))) | exact beq_iff_eq.2 (Decidable.not_not.1 (fun hn => c59 (bne_iff_ne.2 hn))) | exact decide_eq_false (bne_iff_ne.1 c59) | exact beq_eq_false_iff_ne.2 (bne_iff_ne.1 c59) | exact bne_iff_ne.1 c59))
                 (try (have c59b2 : (t339 == t340) = false := by first | (simpa using c59) | exact decide_eq_true (Decidable.not_not.1 (fun hn => c59 (bne_iff_ne.2 hn))) | exact beq_iff_eq.2 (Decidable.not_not.1 (fun hn => c59 (bne_iff_ne.2 hn))) | exact decide_eq_false (bne_iff_ne.1 c59) | exact beq_eq_false_iff_ne.2 (bne_iff_ne.1 c59) | exact bne_iff_ne.1 c59))
                 (try (have c59b3 : ¬ (t339 = t340) := by first | (simpa using c59) | exact decide_eq_true (Decidable.not_not.1 (fun hn => c59 (bne_iff_ne.2 hn))) | exact beq_iff_eq.2 (Decidable.not_not.1 (fun hn => c59 (bne_iff_ne.2 hn))) | exact decide_eq_false (bne_iff_ne.1 c59) | exact beq_eq_false_iff_ne.2 (bne_iff_ne.1 c59) | exact bne_iff_ne.1 c59))
                 clear c59
                 obtain rfl := Option.some.inj H
                 have hnb86 := NB308_309.out
                 have hnc86 := NB309_308.out
                 have hnb87 := NB308_317.out
                 have hnc87 := NB317_308.out
                 have hnb88 := NB308_322.out
                 have hnc88 := NB322_308.out
                 obtain ⟨hcz89_0, hcz89_1, hcz89_2⟩ := zc3 BK308
                 obtain ⟨hfz89_0, hfz89_1, hfz89_2⟩ := zf3 BK308
                 try go_wp2_with (first | ((with_reducible refine gate_callee (f := 20) rfl ?_); refine goesL_ (some 51) rfl rfl Tryd.func20 (by kernel_rfl) rfl #[.agg #[.bool a0_0, .int .u64 a0_1, .int .u64 a0_2]] rfl (by (try simp only [List.map_toArray, List.map_cons, List.map_nil]); first | done | rfl | (simp only [List.length_drop, List.length_take]; rfl)) ?_; (with_reducible refine (address_Previous.calls a0_0 a0_1 a0_2 t325 t326 t327 t328 _ A51.out).mono ?_); rintro e w90 ⟨rfl, hb⟩; refine ⟨_, rfl, ?_⟩; replace BK308 := Aside0.mk (blk_below (g := gb308) (o := .cells #[.bool a0_0, .int .u64 a0_1, .int .u64 a0_2] 25 (0, 0)) (zK BK308) hb); replace BK309 := Aside0.mk (blk_below (g := gb309) (o := .cells #[.bool a1_0, .int .u64 a1_1, .int .u64 a1_2] 25 (0, 0)) (zK BK309) hb); replace BK317 := Aside0.mk (blk_below (g := gb317) (o := .cells #[.bool t313, .int .u64 t314, .int .u64 t315] 25 (0, 0)) (zK BK317) hb); replace BK322 := Aside0.mk (blk_below (g := gb322) (o := .cells #[.bool t318, .int .u64 t319, .int .u64 t320] 25 (0, 0)) (zK BK322) hb); replace HB := Aside0.mk (below_step (zB HB) hb); (try clear hb); have hnb91 := NB317_309.out; have hnc91 := NB309_317.out; have hnb92 := NB317_322.out; have hnc92 := NB322_317.out; obtain ⟨hcz93_0, hcz93_1, hcz93_2⟩ := zc3 BK317; obtain ⟨hfz93_0, hfz93_1, hfz93_2⟩ := zf3 BK317; obtain ⟨hcz94_0, hcz94_1, hcz94_2⟩ := zc3 BK308; obtain ⟨hfz94_0, hfz94_1, hfz94_2⟩ := zf3 BK308) | ((with_reducible refine gate_callee (f := 21) rfl ?_); refine goesL_ (some 56) rfl rfl Tryd.func21 (by kernel_rfl) rfl #[.agg #[.bool a0_0, .int .u64 a0_1, .int .u64 a0_2]] rfl (by (try simp only [List.map_toArray, List.map_cons, List.map_nil]); first | done | rfl | (simp only [List.length_drop, List.length_take]; rfl)) ?_; (with_reducible refine (intrusionref06_Previous.calls kj22 a0_0 a0_1 a0_2 t329 t330 t331 t332 _ A52.out).mono ?_); rintro e w95 ⟨rfl, hb⟩; refine ⟨_, rfl, ?_⟩; replace BK308 := Aside0.mk (blk_below (g := gb308) (o := .cells #[.bool a0_0, .int .u64 a0_1, .int .u64 a0_2] 25 (0, 0)) (by refine zL ?_; refine blk_far ?_ NB308_317.out _; refine zL ?_; refine blk_far ?_ NB308_317.out _; refine zL ?_; refine blk_far ?_ NB308_317.out _; refine zL ?_; exact BK308.out) hb); replace BK309 := Aside0.mk (blk_below (g := gb309) (o := .cells #[.bool a1_0, .int .u64 a1_1, .int .u64 a1_2] 25 (0, 0)) (by refine zL ?_; refine blk_far ?_ NB309_317.out _; refine zL ?_; refine blk_far ?_ NB309_317.out _; refine zL ?_; refine blk_far ?_ NB309_317.out _; refine zL ?_; exact BK309.out) hb); replace BK317 := Aside0.mk (blk_below (g := gb317) (o := .cells #[.bool t325, .int .u64 t326, .int .u64 t327] 25 (0, 0)) (by refine zL ?_; refine blk_put (cs := #[.bool t325, .int .u64 t326, .int .u64 t315]) ?_ 2 _ rfl; refine zL ?_; refine blk_put (cs := #[.bool t325, .int .u64 t314, .int .u64 t315]) ?_ 1 _ rfl; refine zL ?_; refine blk_put (cs := #[.bool t313, .int .u64 t314, .int .u64 t315]) ?_ 0 _ rfl; refine zL ?_; exact BK317.out) hb); replace BK322 := Aside0.mk (blk_below (g := gb322) (o := .cells #[.bool t318, .int .u64 t319, .int .u64 t320] 25 (0, 0)) (by refine zL ?_; refine blk_far ?_ NB322_317.out _; refine zL ?_; refine blk_far ?_ NB322_317.out _; refine zL ?_; refine blk_far ?_ NB322_317.out _; refine zL ?_; exact BK322.out) hb); replace HB := Aside0.mk (below_step (zB HB) hb); (try clear hb); have hnb96 := NB322_309.out; have hnc96 := NB309_322.out; obtain ⟨hcz97_0, hcz97_1, hcz97_2⟩ := zc3 BK322; obtain ⟨hfz97_0, hfz97_1, hfz97_2⟩ := zf3 BK322; obtain ⟨hcz98_0, hcz98_1, hcz98_2⟩ := zc3 BK309; obtain ⟨hfz98_0, hfz98_1, hfz98_2⟩ := zf3 BK309) | ((with_reducible refine gate_callee (f := 22) rfl ?_); refine goesL_ (some 62) rfl rfl Tryd.func22 (by kernel_rfl) rfl #[.agg #[.bool a1_0, .int .u64 a1_1, .int .u64 a1_2], .int .i64 a2] rfl (by (try simp only [List.map_toArray, List.map_cons, List.map_nil]); first | done | rfl | (simp only [List.length_drop, List.length_take]; rfl)) ?_; (with_reducible refine (intrusionref06_MakePrefix.calls kj22 a1_0 a1_1 a1_2 a2 t333 t334 t335 t336 t337 _ A53.out).mono ?_); rintro e w99 ⟨rfl, hb⟩; refine ⟨_, rfl, ?_⟩; replace BK308 := Aside0.mk (blk_below (g := gb308) (o := .cells #[.bool a0_0, .int .u64 a0_1, .int .u64 a0_2] 25 (0, 0)) (by refine zL ?_; refine blk_far ?_ NB308_322.out _; refine zL ?_; refine blk_far ?_ NB308_322.out _; refine zL ?_; refine blk_far ?_ NB308_322.out _; refine zL ?_; exact BK308.out) hb); replace BK309 := Aside0.mk (blk_below (g := gb309) (o := .cells #[.bool a1_0, .int .u64 a1_1, .int .u64 a1_2] 25 (0, 0)) (by refine zL ?_; refine blk_far ?_ NB309_322.out _; refine zL ?_; refine blk_far ?_ NB309_322.out _; refine zL ?_; refine blk_far ?_ NB309_322.out _; refine zL ?_; exact BK309.out) hb); replace BK317 := Aside0.mk (blk_below (g := gb317) (o := .cells #[.bool t325, .int .u64 t326, .int .u64 t327] 25 (0, 0)) (by refine zL ?_; refine blk_far ?_ NB317_322.out _; refine zL ?_; refine blk_far ?_ NB317_322.out _; refine zL ?_; refine blk_far ?_ NB317_322.out _; refine zL ?_; exact BK317.out) hb); replace BK322 := Aside0.mk (blk_below (g := gb322) (o := .cells #[.bool t329, .int .u64 t330, .int .u64 t331] 25 (0, 0)) (by refine zL ?_; refine blk_put (cs := #[.bool t329, .int .u64 t330, .int .u64 t320]) ?_ 2 _ rfl; refine zL ?_; refine blk_put (cs := #[.bool t329, .int .u64 t319, .int .u64 t320]) ?_ 1 _ rfl; refine zL ?_; refine blk_put (cs := #[.bool t318, .int .u64 t319, .int .u64 t320]) ?_ 0 _ rfl; refine zL ?_; exact BK322.out) hb); replace HB := Aside0.mk (below_step (zB HB) hb); (try clear hb)) | ((with_reducible refine gate_dst (N := 11) rfl ?_); refine zx 11 #[.bool false, .int .u64 0, .int .u64 0, .int .i64 0] 30 ?_; intro gb338 hg w100 hbox hb; have BK338 := Aside0.mk (hbox); have GW338 := Aside0.mk ((by rw [hg]; exact (below_size (zB HB)) : w.heap.size ≤ gb338)); have GE338 := Aside0.mk ((by rw [hg]; exact (below_size (zB HB)) : w.heap.size ≤ gb338)); replace HB := Aside0.mk (below_step (zB HB) hb); have NB308_338 := Aside0.mk ((by rw [hg]; exact Nat.ne_of_lt (blk_lt (g := gb308) (o := .cells #[.bool a0_0, .int .u64 a0_1, .int .u64 a0_2] 25 (0, 0)) (zK BK308)) : gb308 ≠ gb338)); have NB338_308 := Aside0.mk ((by rw [hg]; exact Nat.ne_of_gt (blk_lt (g := gb308) (o := .cells #[.bool a0_0, .int .u64 a0_1, .int .u64 a0_2] 25 (0, 0)) (zK BK308)) : gb338 ≠ gb308)); replace BK308 := Aside0.mk (blk_below (g := gb308) (o := .cells #[.bool a0_0, .int .u64 a0_1, .int .u64 a0_2] 25 (0, 0)) (zK BK308) hb); have NB309_338 := Aside0.mk ((by rw [hg]; exact Nat.ne_of_lt (blk_lt (g := gb309) (o := .cells #[.bool a1_0, .int .u64 a1_1, .int .u64 a1_2] 25 (0, 0)) (zK BK309)) : gb309 ≠ gb338)); have NB338_309 := Aside0.mk ((by rw [hg]; exact Nat.ne_of_gt (blk_lt (g := gb309) (o := .cells #[.bool a1_0, .int .u64 a1_1, .int .u64 a1_2] 25 (0, 0)) (zK BK309)) : gb338 ≠ gb309)); replace BK309 := Aside0.mk (blk_below (g := gb309) (o := .cells #[.bool a1_0, .int .u64 a1_1, .int .u64 a1_2] 25 (0, 0)) (zK BK309) hb); have NB317_338 := Aside0.mk ((by rw [hg]; exact Nat.ne_of_lt (blk_lt (g := gb317) (o := .cells #[.bool t325, .int .u64 t326, .int .u64 t327] 25 (0, 0)) (zK BK317)) : gb317 ≠ gb338)); have NB338_317 := Aside0.mk ((by rw [hg]; exact Nat.ne_of_gt (blk_lt (g := gb317) (o := .cells #[.bool t325, .int .u64 t326, .int .u64 t327] 25 (0, 0)) (zK BK317)) : gb338 ≠ gb317)); replace BK317 := Aside0.mk (blk_below (g := gb317) (o := .cells #[.bool t325, .int .u64 t326, .int .u64 t327] 25 (0, 0)) (zK BK317) hb); have NB322_338 := Aside0.mk ((by rw [hg]; exact Nat.ne_of_lt (blk_lt (g := gb322) (o := .cells #[.bool t329, .int .u64 t330, .int .u64 t331] 25 (0, 0)) (zK BK322)) : gb322 ≠ gb338)); have NB338_322 := Aside0.mk ((by rw [hg]; exact Nat.ne_of_gt (blk_lt (g := gb322) (o := .cells #[.bool t329, .int .u64 t330, .int .u64 t331] 25 (0, 0)) (zK BK322)) : gb338 ≠ gb322)); replace BK322 := Aside0.mk (blk_below (g := gb322) (o := .cells #[.bool t329, .int .u64 t330, .int .u64 t331] 25 (0, 0)) (zK BK322) hb); clear hb hbox hg; have hnb101 := NB338_308.out; have hnc101 := NB308_338.out; have hnb102 := NB338_309.out; have hnc102 := NB309_338.out; have hnb103 := NB338_317.out; have hnc103 := NB317_338.out; have hnb104 := NB338_322.out; have hnc104 := NB322_338.out; obtain ⟨hcz105_0, hcz105_1, hcz105_2, hcz105_3⟩ := zc4 BK338; obtain ⟨hfz105_0, hfz105_1, hfz105_2, hfz105_3⟩ := zf4 BK338))
                 have n0_ : Aside0 (((((w100.setCell ⟨gb338, 0, none⟩ (.bool t333)).setCell ⟨gb338, 1, none⟩ (.int .u64 t334)).setCell ⟨gb338, 2, none⟩ (.int .u64 t335)).setCell ⟨gb338, 3, none⟩ (.int .i64 t336)).heap[gb308]? = some (.cells #[.bool a0_0, .int .u64 a0_1, .int .u64 a0_2] 25 (0, 0))) := ⟨by refine zL ?_; refine blk_far ?_ NB308_338.out _; refine zL ?_; refine blk_far ?_ NB308_338.out _; refine zL ?_; refine blk_far ?_ NB308_338.out _; refine zL ?_; refine blk_far ?_ NB308_338.out _; refine zL ?_; exact BK308.out⟩
                 have n1_ : Aside0 (((((w100.setCell ⟨gb338, 0, none⟩ (.bool t333)).setCell ⟨gb338, 1, none⟩ (.int .u64 t334)).setCell ⟨gb338, 2, none⟩ (.int .u64 t335)).setCell ⟨gb338, 3, none⟩ (.int .i64 t336)).heap[gb309]? = some (.cells #[.bool a1_0, .int .u64 a1_1, .int .u64 a1_2] 25 (0, 0))) := ⟨by refine zL ?_; refine blk_far ?_ NB309_338.out _; refine zL ?_; refine blk_far ?_ NB309_338.out _; refine zL ?_; refine blk_far ?_ NB309_338.out _; refine zL ?_; refine blk_far ?_ NB309_338.out _; refine zL ?_; exact BK309.out⟩
                 have n2_ : Aside0 (((((w100.setCell ⟨gb338, 0, none⟩ (.bool t333)).setCell ⟨gb338, 1, none⟩ (.int .u64 t334)).setCell ⟨gb338, 2, none⟩ (.int .u64 t335)).setCell ⟨gb338, 3, none⟩ (.int .i64 t336)).heap[gb317]? = some (.cells #[.bool t325, .int .u64 t326, .int .u64 t327] 25 (0, 0))) := ⟨by refine zL ?_; refine blk_far ?_ NB317_338.out _; refine zL ?_; refine blk_far ?_ NB317_338.out _; refine zL ?_; refine blk_far ?_ NB317_338.out _; refine zL ?_; refine blk_far ?_ NB317_338.out _; refine zL ?_; exact BK317.out⟩
                 have n3_ : Aside0 (((((w100.setCell ⟨gb338, 0, none⟩ (.bool t333)).setCell ⟨gb338, 1, none⟩ (.int .u64 t334)).setCell ⟨gb338, 2, none⟩ (.int .u64 t335)).setCell ⟨gb338, 3, none⟩ (.int .i64 t336)).heap[gb322]? = some (.cells #[.bool t329, .int .u64 t330, .int .u64 t331] 25 (0, 0))) := ⟨by refine zL ?_; refine blk_far ?_ NB322_338.out _; refine zL ?_; refine blk_far ?_ NB322_338.out _; refine zL ?_; refine blk_far ?_ NB322_338.out _; refine zL ?_; refine blk_far ?_ NB322_338.out _; refine zL ?_; exact BK322.out⟩
                 have n4_ : Aside0 (((((w100.setCell ⟨gb338, 0, none⟩ (.bool t333)).setCell ⟨gb338, 1, none⟩ (.int .u64 t334)).setCell ⟨gb338, 2, none⟩ (.int .u64 t335)).setCell ⟨gb338, 3, none⟩ (.int .i64 t336)).heap[gb338]? = some (.cells #[.bool t333, .int .u64 t334, .int .u64 t335, .int .i64 t336] 30 (0, 0))) := ⟨by refine zL ?_; refine blk_put (cs := #[.bool t333, .int .u64 t334, .int .u64 t335, .int .i64 0]) ?_ 3 _ rfl; refine zL ?_; refine blk_put (cs := #[.bool t333, .int .u64 t334, .int .u64 0, .int .i64 0]) ?_ 2 _ rfl; refine zL ?_; refine blk_put (cs := #[.bool t333, .int .u64 0, .int .u64 0, .int .i64 0]) ?_ 1 _ rfl; refine zL ?_; refine blk_put (cs := #[.bool false, .int .u64 0, .int .u64 0, .int .i64 0]) ?_ 0 _ rfl; refine zL ?_; exact BK338.out⟩
                 have n5_ : Aside0 (Below w.heap.size w ((((w100.setCell ⟨gb338, 0, none⟩ (.bool t333)).setCell ⟨gb338, 1, none⟩ (.int .u64 t334)).setCell ⟨gb338, 2, none⟩ (.int .u64 t335)).setCell ⟨gb338, 3, none⟩ (.int .i64 t336))) := ⟨zB HB⟩
                 (try clear BK308)
                 (try clear BK309)
                 (try clear BK317)
                 (try clear BK322)
                 (try clear BK338)
                 (try clear HB)
                 generalize ((((w100.setCell ⟨gb338, 0, none⟩ (.bool t333)).setCell ⟨gb338, 1, none⟩ (.int .u64 t334)).setCell ⟨gb338, 2, none⟩ (.int .u64 t335)).setCell ⟨gb338, 3, none⟩ (.int .i64 t336)) = w106 at n0_ n1_ n2_ n3_ n4_ n5_ ⊢
                 have BK308 := n0_
                 have BK309 := n1_
                 have BK317 := n2_
                 have BK322 := n3_
                 have BK338 := n4_
                 have HB := n5_
                 clear n0_ n1_ n2_ n3_ n4_ n5_
                 replace BK308 := Aside0.mk (blk_drew BK308.out)
                 replace BK309 := Aside0.mk (blk_drew BK309.out)
                 replace BK317 := Aside0.mk (blk_drew BK317.out)
                 replace BK322 := Aside0.mk (blk_drew BK322.out)
                 replace BK338 := Aside0.mk (blk_drew BK338.out)
                 replace HB := Aside0.mk (below_drew1 HB.out)
                 refine start_ (n := 25) (S := fun w' => w'.cell? ⟨gb317, 0, none⟩ = some (.bool t325) ∧ w'.cell? ⟨gb317, 1, none⟩ = some (.int .u64 t326) ∧ w'.cell? ⟨gb317, 2, none⟩ = some (.int .u64 t327) ∧ w'.cell? ⟨gb322, 0, none⟩ = some (.bool t329) ∧ w'.cell? ⟨gb322, 1, none⟩ = some (.int .u64 t330) ∧ w'.cell? ⟨gb322, 2, none⟩ = some (.int .u64 t331) ∧ w'.cell? ⟨gb338, 0, none⟩ = some (.bool t333) ∧ w'.cell? ⟨gb338, 1, none⟩ = some (.int .u64 t334) ∧ w'.cell? ⟨gb338, 2, none⟩ = some (.int .u64 t335) ∧ w'.cell? ⟨gb338, 3, none⟩ = some (.int .i64 t336) ∧ w'.cell? ⟨gb308, 0, none⟩ = some (.bool a0_0) ∧ w'.cell? ⟨gb308, 1, none⟩ = some (.int .u64 a0_1) ∧ w'.cell? ⟨gb308, 2, none⟩ = some (.int .u64 a0_2)) (ds := []) #[false, false, false, false, false, false, false, false, false, false, false, false, false, false, false, false, false, false, false, false, false, false, false, false, false] (by kernel_rfl) rfl rfl ⟨zc BK317 0, zc BK317 1, zc BK317 2, zc BK322 0, zc BK322 1, zc BK322 2, zc BK338 0, zc BK338 1, zc BK338 2, zc BK338 3, zc BK308 0, zc BK308 1, zc BK308 2⟩ (fun hHeld => ?_); refine with_tabW intrusionlaw06_AddressOrders.tab10 intrusionlaw06_AddressOrders.bits10 (fun HT_ HW_ => ?_)
                 generalize w106.drew = w107 at BK308 BK309 BK317 BK322 BK338 HB hHeld ⊢
                 refine zt 0 65 HT_ HW_ hHeld ?_; refine zt 1 66 HT_ HW_ hHeld ?_; refine zp 2 67 HT_ ?_; refine zp 3 68 HT_ ?_; refine zp 4 69 HT_ ?_; refine zp 5 70 HT_ ?_; refine zp 6 71 HT_ ?_; refine zp 7 72 HT_ ?_; refine zp 8 73 HT_ ?_; refine zp 9 74 HT_ ?_; refine zp 10 75 HT_ ?_; refine zp 11 76 HT_ ?_; refine zt 12 77 HT_ HW_ hHeld ?_; refine zt 13 78 HT_ HW_ hHeld ?_; refine zt 15 80 HT_ HW_ hHeld ?_; refine zt 16 81 HT_ HW_ hHeld ?_; refine zo 14 79 HT_ (fun K hK => ?_)
                 refine zg Tryd.func23 #[.agg #[.bool t333, .int .u64 t334, .int .u64 t335, .int .i64 t336], .agg #[.bool a0_0, .int .u64 a0_1, .int .u64 a0_2]] ?_
                 with_reducible refine (address_Contains.calls t333 t334 t335 t336 a0_0 a0_1 a0_2 t339 _ A57.out).mono ?_
                 rintro e w108 ⟨rfl, hb⟩
                 refine ⟨_, rfl, ?_⟩
                 replace BK308 := Aside0.mk (blk_below (g := gb308) (o := .cells #[.bool a0_0, .int .u64 a0_1, .int .u64 a0_2] 25 (0, 0)) (zK BK308) hb)
                 replace BK309 := Aside0.mk (blk_below (g := gb309) (o := .cells #[.bool a1_0, .int .u64 a1_1, .int .u64 a1_2] 25 (0, 0)) (zK BK309) hb)
                 replace BK317 := Aside0.mk (blk_below (g := gb317) (o := .cells #[.bool t325, .int .u64 t326, .int .u64 t327] 25 (0, 0)) (zK BK317) hb)
                 replace BK322 := Aside0.mk (blk_below (g := gb322) (o := .cells #[.bool t329, .int .u64 t330, .int .u64 t331] 25 (0, 0)) (zK BK322) hb)
                 replace BK338 := Aside0.mk (blk_below (g := gb338) (o := .cells #[.bool t333, .int .u64 t334, .int .u64 t335, .int .i64 t336] 30 (0, 0)) (zK BK338) hb)
                 replace HB := Aside0.mk (below_step (zB HB) hb)
                 (try clear hb)
                 refine hK.out _ _ ⟨zc BK317 0, zc BK317 1, zc BK317 2, zc BK322 0, zc BK322 1, zc BK322 2, zc BK338 0, zc BK338 1, zc BK338 2, zc BK338 3, zc BK308 0, zc BK308 1, zc BK308 2⟩ (fun hHeld => ?_)
                 clear hK K
                 refine zn 79 ?_; refine zo 17 82 HT_ (fun K hK => ?_)
                 refine zg Tryd.func24 #[.agg #[.bool t333, .int .u64 t334, .int .u64 t335, .int .i64 t336], .agg #[.bool a0_0, .int .u64 a0_1, .int .u64 a0_2]] ?_
                 with_reducible refine (intrusionref06_Contains.calls kj22 t333 t334 t335 t336 a0_0 a0_1 a0_2 t340 _ A58.out).mono ?_
                 rintro e w109 ⟨rfl, hb⟩
                 refine ⟨_, rfl, ?_⟩
                 replace BK308 := Aside0.mk (blk_below (g := gb308) (o := .cells #[.bool a0_0, .int .u64 a0_1, .int .u64 a0_2] 25 (0, 0)) (zK BK308) hb)
                 replace BK309 := Aside0.mk (blk_below (g := gb309) (o := .cells #[.bool a1_0, .int .u64 a1_1, .int .u64 a1_2] 25 (0, 0)) (zK BK309) hb)
                 replace BK317 := Aside0.mk (blk_below (g := gb317) (o := .cells #[.bool t325, .int .u64 t326, .int .u64 t327] 25 (0, 0)) (zK BK317) hb)
                 replace BK322 := Aside0.mk (blk_below (g := gb322) (o := .cells #[.bool t329, .int .u64 t330, .int .u64 t331] 25 (0, 0)) (zK BK322) hb)
                 replace BK338 := Aside0.mk (blk_below (g := gb338) (o := .cells #[.bool t333, .int .u64 t334, .int .u64 t335, .int .i64 t336] 30 (0, 0)) (zK BK338) hb)
                 replace HB := Aside0.mk (below_step (zB HB) hb)
                 (try clear hb)
                 refine hK.out _ _ ⟨zc BK317 0, zc BK317 1, zc BK317 2, zc BK322 0, zc BK322 1, zc BK322 2, zc BK338 0, zc BK338 1, zc BK338 2, zc BK338 3, zc BK308 0, zc BK308 1, zc BK308 2⟩ (fun hHeld => ?_)
                 clear hK K
                 refine zn 82 ?_; refine zp 18 83 HT_ ?_; refine zp 19 84 HT_ ?_; refine zp 20 85 HT_ ?_; refine zp 21 86 HT_ ?_; refine zu 22 87 HT_ ?_; refine zp 23 88 HT_ ?_; refine zp 24 6 HT_ ?_; refine zd HT_ ?_
                 try go_wp2
                 go_ret
                 exact ⟨by first | rfl | (simp [errW_none, errW_some] <;> rfl) | (simp [*, errW_none, errW_some] <;> rfl), by repeat (first | (with_reducible first | exact HB.out | apply below_alloc | apply pw_below_drewN | apply below_drew1 | refine below_set ?_ GE308.out | refine below_set ?_ GE309.out | refine below_set ?_ GE317.out | refine below_set ?_ GE322.out | refine below_set ?_ GE338.out) | exact HB.out)⟩
             · rw [if_neg c56] at H
               have c56b0 : (t337 == 0) = false := beq_eq_false_iff_ne.mpr c56
               have c56b1 : (t337 != 0) = true := bne_iff_ne.mpr c56
               replace H := Option.bind_eq_some_iff.mp H
               obtain ⟨t342, A1100, H⟩ := H
               try dsimp only at H
               have A110 := Aside0.mk A1100
               clear A1100
               obtain rfl := Option.some.inj H
               have hnb111 := NB308_309.out
               have hnc111 := NB309_308.out
               have hnb112 := NB308_317.out
               have hnc112 := NB317_308.out
               have hnb113 := NB308_322.out
               have hnc113 := NB322_308.out
               obtain ⟨hcz114_0, hcz114_1, hcz114_2⟩ := zc3 BK308
               obtain ⟨hfz114_0, hfz114_1, hfz114_2⟩ := zf3 BK308
               try go_wp2_with (first | ((with_reducible refine gate_callee (f := 20) rfl ?_); refine goesL_ (some 51) rfl rfl Tryd.func20 (by kernel_rfl) rfl #[.agg #[.bool a0_0, .int .u64 a0_1, .int .u64 a0_2]] rfl (by (try simp only [List.map_toArray, List.map_cons, List.map_nil]); first | done | rfl | (simp only [List.length_drop, List.length_take]; rfl)) ?_; (with_reducible refine (address_Previous.calls a0_0 a0_1 a0_2 t325 t326 t327 t328 _ A51.out).mono ?_); rintro e w115 ⟨rfl, hb⟩; refine ⟨_, rfl, ?_⟩; replace BK308 := Aside0.mk (blk_below (g := gb308) (o := .cells #[.bool a0_0, .int .u64 a0_1, .int .u64 a0_2] 25 (0, 0)) (zK BK308) hb); replace BK309 := Aside0.mk (blk_below (g := gb309) (o := .cells #[.bool a1_0, .int .u64 a1_1, .int .u64 a1_2] 25 (0, 0)) (zK BK309) hb); replace BK317 := Aside0.mk (blk_below (g := gb317) (o := .cells #[.bool t313, .int .u64 t314, .int .u64 t315] 25 (0, 0)) (zK BK317) hb); replace BK322 := Aside0.mk (blk_below (g := gb322) (o := .cells #[.bool t318, .int .u64 t319, .int .u64 t320] 25 (0, 0)) (zK BK322) hb); replace HB := Aside0.mk (below_step (zB HB) hb); (try clear hb); have hnb116 := NB317_309.out; have hnc116 := NB309_317.out; have hnb117 := NB317_322.out; have hnc117 := NB322_317.out; obtain ⟨hcz118_0, hcz118_1, hcz118_2⟩ := zc3 BK317; obtain ⟨hfz118_0, hfz118_1, hfz118_2⟩ := zf3 BK317; obtain ⟨hcz119_0, hcz119_1, hcz119_2⟩ := zc3 BK308; obtain ⟨hfz119_0, hfz119_1, hfz119_2⟩ := zf3 BK308) | ((with_reducible refine gate_callee (f := 21) rfl ?_); refine goesL_ (some 56) rfl rfl Tryd.func21 (by kernel_rfl) rfl #[.agg #[.bool a0_0, .int .u64 a0_1, .int .u64 a0_2]] rfl (by (try simp only [List.map_toArray, List.map_cons, List.map_nil]); first | done | rfl | (simp only [List.length_drop, List.length_take]; rfl)) ?_; (with_reducible refine (intrusionref06_Previous.calls kj22 a0_0 a0_1 a0_2 t329 t330 t331 t332 _ A52.out).mono ?_); rintro e w120 ⟨rfl, hb⟩; refine ⟨_, rfl, ?_⟩; replace BK308 := Aside0.mk (blk_below (g := gb308) (o := .cells #[.bool a0_0, .int .u64 a0_1, .int .u64 a0_2] 25 (0, 0)) (by refine zL ?_; refine blk_far ?_ NB308_317.out _; refine zL ?_; refine blk_far ?_ NB308_317.out _; refine zL ?_; refine blk_far ?_ NB308_317.out _; refine zL ?_; exact BK308.out) hb); replace BK309 := Aside0.mk (blk_below (g := gb309) (o := .cells #[.bool a1_0, .int .u64 a1_1, .int .u64 a1_2] 25 (0, 0)) (by refine zL ?_; refine blk_far ?_ NB309_317.out _; refine zL ?_; refine blk_far ?_ NB309_317.out _; refine zL ?_; refine blk_far ?_ NB309_317.out _; refine zL ?_; exact BK309.out) hb); replace BK317 := Aside0.mk (blk_below (g := gb317) (o := .cells #[.bool t325, .int .u64 t326, .int .u64 t327] 25 (0, 0)) (by refine zL ?_; refine blk_put (cs := #[.bool t325, .int .u64 t326, .int .u64 t315]) ?_ 2 _ rfl; refine zL ?_; refine blk_put (cs := #[.bool t325, .int .u64 t314, .int .u64 t315]) ?_ 1 _ rfl; refine zL ?_; refine blk_put (cs := #[.bool t313, .int .u64 t314, .int .u64 t315]) ?_ 0 _ rfl; refine zL ?_; exact BK317.out) hb); replace BK322 := Aside0.mk (blk_below (g := gb322) (o := .cells #[.bool t318, .int .u64 t319, .int .u64 t320] 25 (0, 0)) (by refine zL ?_; refine blk_far ?_ NB322_317.out _; refine zL ?_; refine blk_far ?_ NB322_317.out _; refine zL ?_; refine blk_far ?_ NB322_317.out _; refine zL ?_; exact BK322.out) hb); replace HB := Aside0.mk (below_step (zB HB) hb); (try clear hb); have hnb121 := NB322_309.out; have hnc121 := NB309_322.out; obtain ⟨hcz122_0, hcz122_1, hcz122_2⟩ := zc3 BK322; obtain ⟨hfz122_0, hfz122_1, hfz122_2⟩ := zf3 BK322; obtain ⟨hcz123_0, hcz123_1, hcz123_2⟩ := zc3 BK309; obtain ⟨hfz123_0, hfz123_1, hfz123_2⟩ := zf3 BK309) | ((with_reducible refine gate_callee (f := 22) rfl ?_); refine goesL_ (some 62) rfl rfl Tryd.func22 (by kernel_rfl) rfl #[.agg #[.bool a1_0, .int .u64 a1_1, .int .u64 a1_2], .int .i64 a2] rfl (by (try simp only [List.map_toArray, List.map_cons, List.map_nil]); first | done | rfl | (simp only [List.length_drop, List.length_take]; rfl)) ?_; (with_reducible refine (intrusionref06_MakePrefix.calls kj22 a1_0 a1_1 a1_2 a2 t333 t334 t335 t336 t337 _ A53.out).mono ?_); rintro e w124 ⟨rfl, hb⟩; refine ⟨_, rfl, ?_⟩; replace BK308 := Aside0.mk (blk_below (g := gb308) (o := .cells #[.bool a0_0, .int .u64 a0_1, .int .u64 a0_2] 25 (0, 0)) (by refine zL ?_; refine blk_far ?_ NB308_322.out _; refine zL ?_; refine blk_far ?_ NB308_322.out _; refine zL ?_; refine blk_far ?_ NB308_322.out _; refine zL ?_; exact BK308.out) hb); replace BK309 := Aside0.mk (blk_below (g := gb309) (o := .cells #[.bool a1_0, .int .u64 a1_1, .int .u64 a1_2] 25 (0, 0)) (by refine zL ?_; refine blk_far ?_ NB309_322.out _; refine zL ?_; refine blk_far ?_ NB309_322.out _; refine zL ?_; refine blk_far ?_ NB309_322.out _; refine zL ?_; exact BK309.out) hb); replace BK317 := Aside0.mk (blk_below (g := gb317) (o := .cells #[.bool t325, .int .u64 t326, .int .u64 t327] 25 (0, 0)) (by refine zL ?_; refine blk_far ?_ NB317_322.out _; refine zL ?_; refine blk_far ?_ NB317_322.out _; refine zL ?_; refine blk_far ?_ NB317_322.out _; refine zL ?_; exact BK317.out) hb); replace BK322 := Aside0.mk (blk_below (g := gb322) (o := .cells #[.bool t329, .int .u64 t330, .int .u64 t331] 25 (0, 0)) (by refine zL ?_; refine blk_put (cs := #[.bool t329, .int .u64 t330, .int .u64 t320]) ?_ 2 _ rfl; refine zL ?_; refine blk_put (cs := #[.bool t329, .int .u64 t319, .int .u64 t320]) ?_ 1 _ rfl; refine zL ?_; refine blk_put (cs := #[.bool t318, .int .u64 t319, .int .u64 t320]) ?_ 0 _ rfl; refine zL ?_; exact BK322.out) hb); replace HB := Aside0.mk (below_step (zB HB) hb); (try clear hb)) | ((with_reducible refine gate_dst (N := 11) rfl ?_); refine zx 11 #[.bool false, .int .u64 0, .int .u64 0, .int .i64 0] 30 ?_; intro gb338 hg w125 hbox hb; have BK338 := Aside0.mk (hbox); have GW338 := Aside0.mk ((by rw [hg]; exact (below_size (zB HB)) : w.heap.size ≤ gb338)); have GE338 := Aside0.mk ((by rw [hg]; exact (below_size (zB HB)) : w.heap.size ≤ gb338)); replace HB := Aside0.mk (below_step (zB HB) hb); have NB308_338 := Aside0.mk ((by rw [hg]; exact Nat.ne_of_lt (blk_lt (g := gb308) (o := .cells #[.bool a0_0, .int .u64 a0_1, .int .u64 a0_2] 25 (0, 0)) (zK BK308)) : gb308 ≠ gb338)); have NB338_308 := Aside0.mk ((by rw [hg]; exact Nat.ne_of_gt (blk_lt (g := gb308) (o := .cells #[.bool a0_0, .int .u64 a0_1, .int .u64 a0_2] 25 (0, 0)) (zK BK308)) : gb338 ≠ gb308)); replace BK308 := Aside0.mk (blk_below (g := gb308) (o := .cells #[.bool a0_0, .int .u64 a0_1, .int .u64 a0_2] 25 (0, 0)) (zK BK308) hb); have NB309_338 := Aside0.mk ((by rw [hg]; exact Nat.ne_of_lt (blk_lt (g := gb309) (o := .cells #[.bool a1_0, .int .u64 a1_1, .int .u64 a1_2] 25 (0, 0)) (zK BK309)) : gb309 ≠ gb338)); have NB338_309 := Aside0.mk ((by rw [hg]; exact Nat.ne_of_gt (blk_lt (g := gb309) (o := .cells #[.bool a1_0, .int .u64 a1_1, .int .u64 a1_2] 25 (0, 0)) (zK BK309)) : gb338 ≠ gb309)); replace BK309 := Aside0.mk (blk_below (g := gb309) (o := .cells #[.bool a1_0, .int .u64 a1_1, .int .u64 a1_2] 25 (0, 0)) (zK BK309) hb); have NB317_338 := Aside0.mk ((by rw [hg]; exact Nat.ne_of_lt (blk_lt (g := gb317) (o := .cells #[.bool t325, .int .u64 t326, .int .u64 t327] 25 (0, 0)) (zK BK317)) : gb317 ≠ gb338)); have NB338_317 := Aside0.mk ((by rw [hg]; exact Nat.ne_of_gt (blk_lt (g := gb317) (o := .cells #[.bool t325, .int .u64 t326, .int .u64 t327] 25 (0, 0)) (zK BK317)) : gb338 ≠ gb317)); replace BK317 := Aside0.mk (blk_below (g := gb317) (o := .cells #[.bool t325, .int .u64 t326, .int .u64 t327] 25 (0, 0)) (zK BK317) hb); have NB322_338 := Aside0.mk ((by rw [hg]; exact Nat.ne_of_lt (blk_lt (g := gb322) (o := .cells #[.bool t329, .int .u64 t330, .int .u64 t331] 25 (0, 0)) (zK BK322)) : gb322 ≠ gb338)); have NB338_322 := Aside0.mk ((by rw [hg]; exact Nat.ne_of_gt (blk_lt (g := gb322) (o := .cells #[.bool t329, .int .u64 t330, .int .u64 t331] 25 (0, 0)) (zK BK322)) : gb338 ≠ gb322)); replace BK322 := Aside0.mk (blk_below (g := gb322) (o := .cells #[.bool t329, .int .u64 t330, .int .u64 t331] 25 (0, 0)) (zK BK322) hb); clear hb hbox hg; have hnb126 := NB338_308.out; have hnc126 := NB308_338.out; have hnb127 := NB338_309.out; have hnc127 := NB309_338.out; have hnb128 := NB338_317.out; have hnc128 := NB317_338.out; have hnb129 := NB338_322.out; have hnc129 := NB322_338.out; obtain ⟨hcz130_0, hcz130_1, hcz130_2, hcz130_3⟩ := zc4 BK338; obtain ⟨hfz130_0, hfz130_1, hfz130_2, hfz130_3⟩ := zf4 BK338))
               have n0_ : Aside0 (((((w125.setCell ⟨gb338, 0, none⟩ (.bool t333)).setCell ⟨gb338, 1, none⟩ (.int .u64 t334)).setCell ⟨gb338, 2, none⟩ (.int .u64 t335)).setCell ⟨gb338, 3, none⟩ (.int .i64 t336)).heap[gb308]? = some (.cells #[.bool a0_0, .int .u64 a0_1, .int .u64 a0_2] 25 (0, 0))) := ⟨by refine zL ?_; refine blk_far ?_ NB308_338.out _; refine zL ?_; refine blk_far ?_ NB308_338.out _; refine zL ?_; refine blk_far ?_ NB308_338.out _; refine zL ?_; refine blk_far ?_ NB308_338.out _; refine zL ?_; exact BK308.out⟩
               have n1_ : Aside0 (((((w125.setCell ⟨gb338, 0, none⟩ (.bool t333)).setCell ⟨gb338, 1, none⟩ (.int .u64 t334)).setCell ⟨gb338, 2, none⟩ (.int .u64 t335)).setCell ⟨gb338, 3, none⟩ (.int .i64 t336)).heap[gb309]? = some (.cells #[.bool a1_0, .int .u64 a1_1, .int .u64 a1_2] 25 (0, 0))) := ⟨by refine zL ?_; refine blk_far ?_ NB309_338.out _; refine zL ?_; refine blk_far ?_ NB309_338.out _; refine zL ?_; refine blk_far ?_ NB309_338.out _; refine zL ?_; refine blk_far ?_ NB309_338.out _; refine zL ?_; exact BK309.out⟩
               have n2_ : Aside0 (((((w125.setCell ⟨gb338, 0, none⟩ (.bool t333)).setCell ⟨gb338, 1, none⟩ (.int .u64 t334)).setCell ⟨gb338, 2, none⟩ (.int .u64 t335)).setCell ⟨gb338, 3, none⟩ (.int .i64 t336)).heap[gb317]? = some (.cells #[.bool t325, .int .u64 t326, .int .u64 t327] 25 (0, 0))) := ⟨by refine zL ?_; refine blk_far ?_ NB317_338.out _; refine zL ?_; refine blk_far ?_ NB317_338.out _; refine zL ?_; refine blk_far ?_ NB317_338.out _; refine zL ?_; refine blk_far ?_ NB317_338.out _; refine zL ?_; exact BK317.out⟩
               have n3_ : Aside0 (((((w125.setCell ⟨gb338, 0, none⟩ (.bool t333)).setCell ⟨gb338, 1, none⟩ (.int .u64 t334)).setCell ⟨gb338, 2, none⟩ (.int .u64 t335)).setCell ⟨gb338, 3, none⟩ (.int .i64 t336)).heap[gb322]? = some (.cells #[.bool t329, .int .u64 t330, .int .u64 t331] 25 (0, 0))) := ⟨by refine zL ?_; refine blk_far ?_ NB322_338.out _; refine zL ?_; refine blk_far ?_ NB322_338.out _; refine zL ?_; refine blk_far ?_ NB322_338.out _; refine zL ?_; refine blk_far ?_ NB322_338.out _; refine zL ?_; exact BK322.out⟩
               have n4_ : Aside0 (((((w125.setCell ⟨gb338, 0, none⟩ (.bool t333)).setCell ⟨gb338, 1, none⟩ (.int .u64 t334)).setCell ⟨gb338, 2, none⟩ (.int .u64 t335)).setCell ⟨gb338, 3, none⟩ (.int .i64 t336)).heap[gb338]? = some (.cells #[.bool t333, .int .u64 t334, .int .u64 t335, .int .i64 t336] 30 (0, 0))) := ⟨by refine zL ?_; refine blk_put (cs := #[.bool t333, .int .u64 t334, .int .u64 t335, .int .i64 0]) ?_ 3 _ rfl; refine zL ?_; refine blk_put (cs := #[.bool t333, .int .u64 t334, .int .u64 0, .int .i64 0]) ?_ 2 _ rfl; refine zL ?_; refine blk_put (cs := #[.bool t333, .int .u64 0, .int .u64 0, .int .i64 0]) ?_ 1 _ rfl; refine zL ?_; refine blk_put (cs := #[.bool false, .int .u64 0, .int .u64 0, .int .i64 0]) ?_ 0 _ rfl; refine zL ?_; exact BK338.out⟩
               have n5_ : Aside0 (Below w.heap.size w ((((w125.setCell ⟨gb338, 0, none⟩ (.bool t333)).setCell ⟨gb338, 1, none⟩ (.int .u64 t334)).setCell ⟨gb338, 2, none⟩ (.int .u64 t335)).setCell ⟨gb338, 3, none⟩ (.int .i64 t336))) := ⟨zB HB⟩
               (try clear BK308)
               (try clear BK309)
               (try clear BK317)
               (try clear BK322)
               (try clear BK338)
               (try clear HB)
               generalize ((((w125.setCell ⟨gb338, 0, none⟩ (.bool t333)).setCell ⟨gb338, 1, none⟩ (.int .u64 t334)).setCell ⟨gb338, 2, none⟩ (.int .u64 t335)).setCell ⟨gb338, 3, none⟩ (.int .i64 t336)) = w131 at n0_ n1_ n2_ n3_ n4_ n5_ ⊢
               have BK308 := n0_
               have BK309 := n1_
               have BK317 := n2_
               have BK322 := n3_
               have BK338 := n4_
               have HB := n5_
               clear n0_ n1_ n2_ n3_ n4_ n5_
               replace BK308 := Aside0.mk (blk_drew BK308.out)
               replace BK309 := Aside0.mk (blk_drew BK309.out)
               replace BK317 := Aside0.mk (blk_drew BK317.out)
               replace BK322 := Aside0.mk (blk_drew BK322.out)
               replace BK338 := Aside0.mk (blk_drew BK338.out)
               replace HB := Aside0.mk (below_drew1 HB.out)
               refine start_ (n := 25) (S := fun w' => w'.cell? ⟨gb317, 0, none⟩ = some (.bool t325) ∧ w'.cell? ⟨gb317, 1, none⟩ = some (.int .u64 t326) ∧ w'.cell? ⟨gb317, 2, none⟩ = some (.int .u64 t327) ∧ w'.cell? ⟨gb322, 0, none⟩ = some (.bool t329) ∧ w'.cell? ⟨gb322, 1, none⟩ = some (.int .u64 t330) ∧ w'.cell? ⟨gb322, 2, none⟩ = some (.int .u64 t331)) (ds := []) #[false, false, false, false, false, false, false, false, false, false, false, false, false, false, false, false, false, false, false, false, false, false, false, false, false] (by kernel_rfl) rfl rfl ⟨zc BK317 0, zc BK317 1, zc BK317 2, zc BK322 0, zc BK322 1, zc BK322 2⟩ (fun hHeld => ?_); refine with_tabW intrusionlaw06_AddressOrders.tab10 intrusionlaw06_AddressOrders.bits10 (fun HT_ HW_ => ?_)
               generalize w131.drew = w132 at BK308 BK309 BK317 BK322 BK338 HB hHeld ⊢
               refine zt 0 65 HT_ HW_ hHeld ?_; refine zt 1 66 HT_ HW_ hHeld ?_; refine zp 2 67 HT_ ?_; refine zp 3 68 HT_ ?_; refine zp 4 69 HT_ ?_; refine zp 5 70 HT_ ?_; refine zp 6 71 HT_ ?_; refine zp 7 72 HT_ ?_; refine zp 8 73 HT_ ?_; refine zp 9 74 HT_ ?_; refine zp 10 75 HT_ ?_; refine zp 11 76 HT_ ?_; refine zu 12 77 HT_ ?_; refine zu 13 78 HT_ ?_; refine zu 14 79 HT_ ?_; refine zu 15 80 HT_ ?_; refine zu 16 81 HT_ ?_; refine zu 17 82 HT_ ?_; refine zu 18 83 HT_ ?_; refine zp 19 84 HT_ ?_; refine zp 20 85 HT_ ?_; refine zp 21 86 HT_ ?_; refine zo 22 87 HT_ (fun K hK => ?_)
               refine zg Tryd.func10 #[] ?_
               with_reducible refine (intrusionlaw06_lives.calls  t342 _ A110.out (WOK.below hW_ (zB HB))).mono ?_
               rintro e w133 ⟨rfl, hb⟩
               refine ⟨_, rfl, ?_⟩
               replace BK308 := Aside0.mk (blk_below (g := gb308) (o := .cells #[.bool a0_0, .int .u64 a0_1, .int .u64 a0_2] 25 (0, 0)) (zK BK308) hb)
               replace BK309 := Aside0.mk (blk_below (g := gb309) (o := .cells #[.bool a1_0, .int .u64 a1_1, .int .u64 a1_2] 25 (0, 0)) (zK BK309) hb)
               replace BK317 := Aside0.mk (blk_below (g := gb317) (o := .cells #[.bool t325, .int .u64 t326, .int .u64 t327] 25 (0, 0)) (zK BK317) hb)
               replace BK322 := Aside0.mk (blk_below (g := gb322) (o := .cells #[.bool t329, .int .u64 t330, .int .u64 t331] 25 (0, 0)) (zK BK322) hb)
               replace BK338 := Aside0.mk (blk_below (g := gb338) (o := .cells #[.bool t333, .int .u64 t334, .int .u64 t335, .int .i64 t336] 30 (0, 0)) (zK BK338) hb)
               replace HB := Aside0.mk (below_step (zB HB) hb)
               (try clear hb)
               refine hK.out _ _ ⟨zc BK317 0, zc BK317 1, zc BK317 2, zc BK322 0, zc BK322 1, zc BK322 2⟩ (fun hHeld => ?_)
               clear hK K
               refine zn 87 ?_; refine zp 23 88 HT_ ?_; refine zp 24 6 HT_ ?_; refine zd HT_ ?_
               try go_wp2
               go_ret
               exact ⟨by first | rfl | (simp [errW_none, errW_some] <;> rfl) | (simp [*, errW_none, errW_some] <;> rfl), by repeat (first | (with_reducible first | exact HB.out | apply below_alloc | apply pw_below_drewN | apply below_drew1 | refine below_set ?_ GE308.out | refine below_set ?_ GE309.out | refine below_set ?_ GE317.out | refine below_set ?_ GE322.out | refine below_set ?_ GE338.out) | exact HB.out)⟩
           · rw [if_neg c55] at H
             have c55b0 : (t328 == t332) = false := by simpa using c55
             (try (have c55b1 : decide (t328 = t332) = false := by first | (simpa using c55) | exact decide_eq_true (Decidable.not_not.1 (fun hn => c55 (bne_iff_ne.2 hn))) | exact beq_iff_eq.2 (Decidable.not_not.1 (fun hn => c55 (bne_iff_ne.2 hn))) | exact decide_eq_false (bne_iff_ne.1 c55) | exact beq_eq_false_iff_ne.2 (bne_iff_ne.1 c55) | exact bne_iff_ne.1 c55))
             (try (have c55b2 : (t328 == t332) = false := by first | (simpa using c55) | exact decide_eq_true (Decidable.not_not.1 (fun hn => c55 (bne_iff_ne.2 hn))) | exact beq_iff_eq.2 (Decidable.not_not.1 (fun hn => c55 (bne_iff_ne.2 hn))) | exact decide_eq_false (bne_iff_ne.1 c55) | exact beq_eq_false_iff_ne.2 (bne_iff_ne.1 c55) | exact bne_iff_ne.1 c55))
             (try (have c55b3 : ¬ (t328 = t332) := by first | (simpa using c55) | exact decide_eq_true (Decidable.not_not.1 (fun hn => c55 (bne_iff_ne.2 hn))) | exact beq_iff_eq.2 (Decidable.not_not.1 (fun hn => c55 (bne_iff_ne.2 hn))) | exact decide_eq_false (bne_iff_ne.1 c55) | exact beq_eq_false_iff_ne.2 (bne_iff_ne.1 c55) | exact bne_iff_ne.1 c55))
             clear c55
             obtain rfl := Option.some.inj H
             have hnb134 := NB308_309.out
             have hnc134 := NB309_308.out
             have hnb135 := NB308_317.out
             have hnc135 := NB317_308.out
             have hnb136 := NB308_322.out
             have hnc136 := NB322_308.out
             obtain ⟨hcz137_0, hcz137_1, hcz137_2⟩ := zc3 BK308
             obtain ⟨hfz137_0, hfz137_1, hfz137_2⟩ := zf3 BK308
             try go_wp2_with (first | ((with_reducible refine gate_callee (f := 20) rfl ?_); refine goesL_ (some 51) rfl rfl Tryd.func20 (by kernel_rfl) rfl #[.agg #[.bool a0_0, .int .u64 a0_1, .int .u64 a0_2]] rfl (by (try simp only [List.map_toArray, List.map_cons, List.map_nil]); first | done | rfl | (simp only [List.length_drop, List.length_take]; rfl)) ?_; (with_reducible refine (address_Previous.calls a0_0 a0_1 a0_2 t325 t326 t327 t328 _ A51.out).mono ?_); rintro e w138 ⟨rfl, hb⟩; refine ⟨_, rfl, ?_⟩; replace BK308 := Aside0.mk (blk_below (g := gb308) (o := .cells #[.bool a0_0, .int .u64 a0_1, .int .u64 a0_2] 25 (0, 0)) (zK BK308) hb); replace BK309 := Aside0.mk (blk_below (g := gb309) (o := .cells #[.bool a1_0, .int .u64 a1_1, .int .u64 a1_2] 25 (0, 0)) (zK BK309) hb); replace BK317 := Aside0.mk (blk_below (g := gb317) (o := .cells #[.bool t313, .int .u64 t314, .int .u64 t315] 25 (0, 0)) (zK BK317) hb); replace BK322 := Aside0.mk (blk_below (g := gb322) (o := .cells #[.bool t318, .int .u64 t319, .int .u64 t320] 25 (0, 0)) (zK BK322) hb); replace HB := Aside0.mk (below_step (zB HB) hb); (try clear hb); have hnb139 := NB317_309.out; have hnc139 := NB309_317.out; have hnb140 := NB317_322.out; have hnc140 := NB322_317.out; obtain ⟨hcz141_0, hcz141_1, hcz141_2⟩ := zc3 BK317; obtain ⟨hfz141_0, hfz141_1, hfz141_2⟩ := zf3 BK317; obtain ⟨hcz142_0, hcz142_1, hcz142_2⟩ := zc3 BK308; obtain ⟨hfz142_0, hfz142_1, hfz142_2⟩ := zf3 BK308) | ((with_reducible refine gate_callee (f := 21) rfl ?_); refine goesL_ (some 56) rfl rfl Tryd.func21 (by kernel_rfl) rfl #[.agg #[.bool a0_0, .int .u64 a0_1, .int .u64 a0_2]] rfl (by (try simp only [List.map_toArray, List.map_cons, List.map_nil]); first | done | rfl | (simp only [List.length_drop, List.length_take]; rfl)) ?_; (with_reducible refine (intrusionref06_Previous.calls kj22 a0_0 a0_1 a0_2 t329 t330 t331 t332 _ A52.out).mono ?_); rintro e w143 ⟨rfl, hb⟩; refine ⟨_, rfl, ?_⟩; replace BK308 := Aside0.mk (blk_below (g := gb308) (o := .cells #[.bool a0_0, .int .u64 a0_1, .int .u64 a0_2] 25 (0, 0)) (by refine zL ?_; refine blk_far ?_ NB308_317.out _; refine zL ?_; refine blk_far ?_ NB308_317.out _; refine zL ?_; refine blk_far ?_ NB308_317.out _; refine zL ?_; exact BK308.out) hb); replace BK309 := Aside0.mk (blk_below (g := gb309) (o := .cells #[.bool a1_0, .int .u64 a1_1, .int .u64 a1_2] 25 (0, 0)) (by refine zL ?_; refine blk_far ?_ NB309_317.out _; refine zL ?_; refine blk_far ?_ NB309_317.out _; refine zL ?_; refine blk_far ?_ NB309_317.out _; refine zL ?_; exact BK309.out) hb); replace BK317 := Aside0.mk (blk_below (g := gb317) (o := .cells #[.bool t325, .int .u64 t326, .int .u64 t327] 25 (0, 0)) (by refine zL ?_; refine blk_put (cs := #[.bool t325, .int .u64 t326, .int .u64 t315]) ?_ 2 _ rfl; refine zL ?_; refine blk_put (cs := #[.bool t325, .int .u64 t314, .int .u64 t315]) ?_ 1 _ rfl; refine zL ?_; refine blk_put (cs := #[.bool t313, .int .u64 t314, .int .u64 t315]) ?_ 0 _ rfl; refine zL ?_; exact BK317.out) hb); replace BK322 := Aside0.mk (blk_below (g := gb322) (o := .cells #[.bool t318, .int .u64 t319, .int .u64 t320] 25 (0, 0)) (by refine zL ?_; refine blk_far ?_ NB322_317.out _; refine zL ?_; refine blk_far ?_ NB322_317.out _; refine zL ?_; refine blk_far ?_ NB322_317.out _; refine zL ?_; exact BK322.out) hb); replace HB := Aside0.mk (below_step (zB HB) hb); (try clear hb); have hnb144 := NB322_309.out; have hnc144 := NB309_322.out; obtain ⟨hcz145_0, hcz145_1, hcz145_2⟩ := zc3 BK322; obtain ⟨hfz145_0, hfz145_1, hfz145_2⟩ := zf3 BK322; obtain ⟨hcz146_0, hcz146_1, hcz146_2⟩ := zc3 BK309; obtain ⟨hfz146_0, hfz146_1, hfz146_2⟩ := zf3 BK309) | ((with_reducible refine gate_callee (f := 22) rfl ?_); refine goesL_ (some 62) rfl rfl Tryd.func22 (by kernel_rfl) rfl #[.agg #[.bool a1_0, .int .u64 a1_1, .int .u64 a1_2], .int .i64 a2] rfl (by (try simp only [List.map_toArray, List.map_cons, List.map_nil]); first | done | rfl | (simp only [List.length_drop, List.length_take]; rfl)) ?_; (with_reducible refine (intrusionref06_MakePrefix.calls kj22 a1_0 a1_1 a1_2 a2 t333 t334 t335 t336 t337 _ A53.out).mono ?_); rintro e w147 ⟨rfl, hb⟩; refine ⟨_, rfl, ?_⟩; replace BK308 := Aside0.mk (blk_below (g := gb308) (o := .cells #[.bool a0_0, .int .u64 a0_1, .int .u64 a0_2] 25 (0, 0)) (by refine zL ?_; refine blk_far ?_ NB308_322.out _; refine zL ?_; refine blk_far ?_ NB308_322.out _; refine zL ?_; refine blk_far ?_ NB308_322.out _; refine zL ?_; exact BK308.out) hb); replace BK309 := Aside0.mk (blk_below (g := gb309) (o := .cells #[.bool a1_0, .int .u64 a1_1, .int .u64 a1_2] 25 (0, 0)) (by refine zL ?_; refine blk_far ?_ NB309_322.out _; refine zL ?_; refine blk_far ?_ NB309_322.out _; refine zL ?_; refine blk_far ?_ NB309_322.out _; refine zL ?_; exact BK309.out) hb); replace BK317 := Aside0.mk (blk_below (g := gb317) (o := .cells #[.bool t325, .int .u64 t326, .int .u64 t327] 25 (0, 0)) (by refine zL ?_; refine blk_far ?_ NB317_322.out _; refine zL ?_; refine blk_far ?_ NB317_322.out _; refine zL ?_; refine blk_far ?_ NB317_322.out _; refine zL ?_; exact BK317.out) hb); replace BK322 := Aside0.mk (blk_below (g := gb322) (o := .cells #[.bool t329, .int .u64 t330, .int .u64 t331] 25 (0, 0)) (by refine zL ?_; refine blk_put (cs := #[.bool t329, .int .u64 t330, .int .u64 t320]) ?_ 2 _ rfl; refine zL ?_; refine blk_put (cs := #[.bool t329, .int .u64 t319, .int .u64 t320]) ?_ 1 _ rfl; refine zL ?_; refine blk_put (cs := #[.bool t318, .int .u64 t319, .int .u64 t320]) ?_ 0 _ rfl; refine zL ?_; exact BK322.out) hb); replace HB := Aside0.mk (below_step (zB HB) hb); (try clear hb)) | ((with_reducible refine gate_dst (N := 11) rfl ?_); refine zx 11 #[.bool false, .int .u64 0, .int .u64 0, .int .i64 0] 30 ?_; intro gb338 hg w148 hbox hb; have BK338 := Aside0.mk (hbox); have GW338 := Aside0.mk ((by rw [hg]; exact (below_size (zB HB)) : w.heap.size ≤ gb338)); have GE338 := Aside0.mk ((by rw [hg]; exact (below_size (zB HB)) : w.heap.size ≤ gb338)); replace HB := Aside0.mk (below_step (zB HB) hb); have NB308_338 := Aside0.mk ((by rw [hg]; exact Nat.ne_of_lt (blk_lt (g := gb308) (o := .cells #[.bool a0_0, .int .u64 a0_1, .int .u64 a0_2] 25 (0, 0)) (zK BK308)) : gb308 ≠ gb338)); have NB338_308 := Aside0.mk ((by rw [hg]; exact Nat.ne_of_gt (blk_lt (g := gb308) (o := .cells #[.bool a0_0, .int .u64 a0_1, .int .u64 a0_2] 25 (0, 0)) (zK BK308)) : gb338 ≠ gb308)); replace BK308 := Aside0.mk (blk_below (g := gb308) (o := .cells #[.bool a0_0, .int .u64 a0_1, .int .u64 a0_2] 25 (0, 0)) (zK BK308) hb); have NB309_338 := Aside0.mk ((by rw [hg]; exact Nat.ne_of_lt (blk_lt (g := gb309) (o := .cells #[.bool a1_0, .int .u64 a1_1, .int .u64 a1_2] 25 (0, 0)) (zK BK309)) : gb309 ≠ gb338)); have NB338_309 := Aside0.mk ((by rw [hg]; exact Nat.ne_of_gt (blk_lt (g := gb309) (o := .cells #[.bool a1_0, .int .u64 a1_1, .int .u64 a1_2] 25 (0, 0)) (zK BK309)) : gb338 ≠ gb309)); replace BK309 := Aside0.mk (blk_below (g := gb309) (o := .cells #[.bool a1_0, .int .u64 a1_1, .int .u64 a1_2] 25 (0, 0)) (zK BK309) hb); have NB317_338 := Aside0.mk ((by rw [hg]; exact Nat.ne_of_lt (blk_lt (g := gb317) (o := .cells #[.bool t325, .int .u64 t326, .int .u64 t327] 25 (0, 0)) (zK BK317)) : gb317 ≠ gb338)); have NB338_317 := Aside0.mk ((by rw [hg]; exact Nat.ne_of_gt (blk_lt (g := gb317) (o := .cells #[.bool t325, .int .u64 t326, .int .u64 t327] 25 (0, 0)) (zK BK317)) : gb338 ≠ gb317)); replace BK317 := Aside0.mk (blk_below (g := gb317) (o := .cells #[.bool t325, .int .u64 t326, .int .u64 t327] 25 (0, 0)) (zK BK317) hb); have NB322_338 := Aside0.mk ((by rw [hg]; exact Nat.ne_of_lt (blk_lt (g := gb322) (o := .cells #[.bool t329, .int .u64 t330, .int .u64 t331] 25 (0, 0)) (zK BK322)) : gb322 ≠ gb338)); have NB338_322 := Aside0.mk ((by rw [hg]; exact Nat.ne_of_gt (blk_lt (g := gb322) (o := .cells #[.bool t329, .int .u64 t330, .int .u64 t331] 25 (0, 0)) (zK BK322)) : gb338 ≠ gb322)); replace BK322 := Aside0.mk (blk_below (g := gb322) (o := .cells #[.bool t329, .int .u64 t330, .int .u64 t331] 25 (0, 0)) (zK BK322) hb); clear hb hbox hg; have hnb149 := NB338_308.out; have hnc149 := NB308_338.out; have hnb150 := NB338_309.out; have hnc150 := NB309_338.out; have hnb151 := NB338_317.out; have hnc151 := NB317_338.out; have hnb152 := NB338_322.out; have hnc152 := NB322_338.out; obtain ⟨hcz153_0, hcz153_1, hcz153_2, hcz153_3⟩ := zc4 BK338; obtain ⟨hfz153_0, hfz153_1, hfz153_2, hfz153_3⟩ := zf4 BK338))
             have n0_ : Aside0 (((((w148.setCell ⟨gb338, 0, none⟩ (.bool t333)).setCell ⟨gb338, 1, none⟩ (.int .u64 t334)).setCell ⟨gb338, 2, none⟩ (.int .u64 t335)).setCell ⟨gb338, 3, none⟩ (.int .i64 t336)).heap[gb308]? = some (.cells #[.bool a0_0, .int .u64 a0_1, .int .u64 a0_2] 25 (0, 0))) := ⟨by refine zL ?_; refine blk_far ?_ NB308_338.out _; refine zL ?_; refine blk_far ?_ NB308_338.out _; refine zL ?_; refine blk_far ?_ NB308_338.out _; refine zL ?_; refine blk_far ?_ NB308_338.out _; refine zL ?_; exact BK308.out⟩
             have n1_ : Aside0 (((((w148.setCell ⟨gb338, 0, none⟩ (.bool t333)).setCell ⟨gb338, 1, none⟩ (.int .u64 t334)).setCell ⟨gb338, 2, none⟩ (.int .u64 t335)).setCell ⟨gb338, 3, none⟩ (.int .i64 t336)).heap[gb309]? = some (.cells #[.bool a1_0, .int .u64 a1_1, .int .u64 a1_2] 25 (0, 0))) := ⟨by refine zL ?_; refine blk_far ?_ NB309_338.out _; refine zL ?_; refine blk_far ?_ NB309_338.out _; refine zL ?_; refine blk_far ?_ NB309_338.out _; refine zL ?_; refine blk_far ?_ NB309_338.out _; refine zL ?_; exact BK309.out⟩
             have n2_ : Aside0 (((((w148.setCell ⟨gb338, 0, none⟩ (.bool t333)).setCell ⟨gb338, 1, none⟩ (.int .u64 t334)).setCell ⟨gb338, 2, none⟩ (.int .u64 t335)).setCell ⟨gb338, 3, none⟩ (.int .i64 t336)).heap[gb317]? = some (.cells #[.bool t325, .int .u64 t326, .int .u64 t327] 25 (0, 0))) := ⟨by refine zL ?_; refine blk_far ?_ NB317_338.out _; refine zL ?_; refine blk_far ?_ NB317_338.out _; refine zL ?_; refine blk_far ?_ NB317_338.out _; refine zL ?_; refine blk_far ?_ NB317_338.out _; refine zL ?_; exact BK317.out⟩
             have n3_ : Aside0 (((((w148.setCell ⟨gb338, 0, none⟩ (.bool t333)).setCell ⟨gb338, 1, none⟩ (.int .u64 t334)).setCell ⟨gb338, 2, none⟩ (.int .u64 t335)).setCell ⟨gb338, 3, none⟩ (.int .i64 t336)).heap[gb322]? = some (.cells #[.bool t329, .int .u64 t330, .int .u64 t331] 25 (0, 0))) := ⟨by refine zL ?_; refine blk_far ?_ NB322_338.out _; refine zL ?_; refine blk_far ?_ NB322_338.out _; refine zL ?_; refine blk_far ?_ NB322_338.out _; refine zL ?_; refine blk_far ?_ NB322_338.out _; refine zL ?_; exact BK322.out⟩
             have n4_ : Aside0 (((((w148.setCell ⟨gb338, 0, none⟩ (.bool t333)).setCell ⟨gb338, 1, none⟩ (.int .u64 t334)).setCell ⟨gb338, 2, none⟩ (.int .u64 t335)).setCell ⟨gb338, 3, none⟩ (.int .i64 t336)).heap[gb338]? = some (.cells #[.bool t333, .int .u64 t334, .int .u64 t335, .int .i64 t336] 30 (0, 0))) := ⟨by refine zL ?_; refine blk_put (cs := #[.bool t333, .int .u64 t334, .int .u64 t335, .int .i64 0]) ?_ 3 _ rfl; refine zL ?_; refine blk_put (cs := #[.bool t333, .int .u64 t334, .int .u64 0, .int .i64 0]) ?_ 2 _ rfl; refine zL ?_; refine blk_put (cs := #[.bool t333, .int .u64 0, .int .u64 0, .int .i64 0]) ?_ 1 _ rfl; refine zL ?_; refine blk_put (cs := #[.bool false, .int .u64 0, .int .u64 0, .int .i64 0]) ?_ 0 _ rfl; refine zL ?_; exact BK338.out⟩
             have n5_ : Aside0 (Below w.heap.size w ((((w148.setCell ⟨gb338, 0, none⟩ (.bool t333)).setCell ⟨gb338, 1, none⟩ (.int .u64 t334)).setCell ⟨gb338, 2, none⟩ (.int .u64 t335)).setCell ⟨gb338, 3, none⟩ (.int .i64 t336))) := ⟨zB HB⟩
             (try clear BK308)
             (try clear BK309)
             (try clear BK317)
             (try clear BK322)
             (try clear BK338)
             (try clear HB)
             generalize ((((w148.setCell ⟨gb338, 0, none⟩ (.bool t333)).setCell ⟨gb338, 1, none⟩ (.int .u64 t334)).setCell ⟨gb338, 2, none⟩ (.int .u64 t335)).setCell ⟨gb338, 3, none⟩ (.int .i64 t336)) = w154 at n0_ n1_ n2_ n3_ n4_ n5_ ⊢
             have BK308 := n0_
             have BK309 := n1_
             have BK317 := n2_
             have BK322 := n3_
             have BK338 := n4_
             have HB := n5_
             clear n0_ n1_ n2_ n3_ n4_ n5_
             replace BK308 := Aside0.mk (blk_drew BK308.out)
             replace BK309 := Aside0.mk (blk_drew BK309.out)
             replace BK317 := Aside0.mk (blk_drew BK317.out)
             replace BK322 := Aside0.mk (blk_drew BK322.out)
             replace BK338 := Aside0.mk (blk_drew BK338.out)
             replace HB := Aside0.mk (below_drew1 HB.out)
             refine start_ (n := 25) (S := fun w' => w'.cell? ⟨gb317, 0, none⟩ = some (.bool t325) ∧ w'.cell? ⟨gb317, 1, none⟩ = some (.int .u64 t326) ∧ w'.cell? ⟨gb317, 2, none⟩ = some (.int .u64 t327) ∧ w'.cell? ⟨gb322, 0, none⟩ = some (.bool t329) ∧ w'.cell? ⟨gb322, 1, none⟩ = some (.int .u64 t330) ∧ w'.cell? ⟨gb322, 2, none⟩ = some (.int .u64 t331)) (ds := []) #[false, false, false, false, false, false, false, false, false, false, false, false, false, false, false, false, false, false, false, false, false, false, false, false, false] (by kernel_rfl) rfl rfl ⟨zc BK317 0, zc BK317 1, zc BK317 2, zc BK322 0, zc BK322 1, zc BK322 2⟩ (fun hHeld => ?_); refine with_tabW intrusionlaw06_AddressOrders.tab10 intrusionlaw06_AddressOrders.bits10 (fun HT_ HW_ => ?_)
             generalize w154.drew = w155 at BK308 BK309 BK317 BK322 BK338 HB hHeld ⊢
             refine zt 0 65 HT_ HW_ hHeld ?_; refine zt 1 66 HT_ HW_ hHeld ?_; refine zp 2 67 HT_ ?_; refine zp 3 68 HT_ ?_; refine zp 4 69 HT_ ?_; refine zp 5 70 HT_ ?_; refine zp 6 71 HT_ ?_; refine zp 7 72 HT_ ?_; refine zp 8 73 HT_ ?_; refine zu 9 74 HT_ ?_; refine zu 10 75 HT_ ?_; refine zu 11 76 HT_ ?_; refine zu 12 77 HT_ ?_; refine zu 13 78 HT_ ?_; refine zu 14 79 HT_ ?_; refine zu 15 80 HT_ ?_; refine zu 16 81 HT_ ?_; refine zu 17 82 HT_ ?_; refine zu 18 83 HT_ ?_; refine zu 19 84 HT_ ?_; refine zp 20 85 HT_ ?_; refine zp 21 86 HT_ ?_; refine zu 22 87 HT_ ?_; refine zp 23 88 HT_ ?_; refine zp 24 6 HT_ ?_; refine zd HT_ ?_
             try go_wp2
             go_ret
             exact ⟨by first | rfl | (simp [errW_none, errW_some] <;> rfl) | (simp [*, errW_none, errW_some] <;> rfl), by repeat (first | (with_reducible first | exact HB.out | apply below_alloc | apply pw_below_drewN | apply below_drew1 | refine below_set ?_ GE308.out | refine below_set ?_ GE309.out | refine below_set ?_ GE317.out | refine below_set ?_ GE322.out | refine below_set ?_ GE338.out) | exact HB.out)⟩
         · rw [if_neg c54] at H
           have c54b0 : (t325 == t329 && (t326 == t330 && (t327 == t331))) = false := by simpa using c54
           (try (have c54b1 : decide (t325 = t329 && (t326 == t330 && (t327 == t331))) = false := by first | (simpa using c54) | exact decide_eq_true (Decidable.not_not.1 (fun hn => c54 (bne_iff_ne.2 hn))) | exact beq_iff_eq.2 (Decidable.not_not.1 (fun hn => c54 (bne_iff_ne.2 hn))) | exact decide_eq_false (bne_iff_ne.1 c54) | exact beq_eq_false_iff_ne.2 (bne_iff_ne.1 c54) | exact bne_iff_ne.1 c54))
           (try (have c54b2 : (t325 == t329 && (t326 == t330 && (t327 == t331))) = false := by first | (simpa using c54) | exact decide_eq_true (Decidable.not_not.1 (fun hn => c54 (bne_iff_ne.2 hn))) | exact beq_iff_eq.2 (Decidable.not_not.1 (fun hn => c54 (bne_iff_ne.2 hn))) | exact decide_eq_false (bne_iff_ne.1 c54) | exact beq_eq_false_iff_ne.2 (bne_iff_ne.1 c54) | exact bne_iff_ne.1 c54))
           (try (have c54b3 : ¬ (t325 = t329 && (t326 == t330 && (t327 == t331))) := by first | (simpa using c54) | exact decide_eq_true (Decidable.not_not.1 (fun hn => c54 (bne_iff_ne.2 hn))) | exact beq_iff_eq.2 (Decidable.not_not.1 (fun hn => c54 (bne_iff_ne.2 hn))) | exact decide_eq_false (bne_iff_ne.1 c54) | exact beq_eq_false_iff_ne.2 (bne_iff_ne.1 c54) | exact bne_iff_ne.1 c54))
           clear c54
           obtain rfl := Option.some.inj H
           have hnb156 := NB308_309.out
           have hnc156 := NB309_308.out
           have hnb157 := NB308_317.out
           have hnc157 := NB317_308.out
           have hnb158 := NB308_322.out
           have hnc158 := NB322_308.out
           obtain ⟨hcz159_0, hcz159_1, hcz159_2⟩ := zc3 BK308
           obtain ⟨hfz159_0, hfz159_1, hfz159_2⟩ := zf3 BK308
           try go_wp2_with (first | ((with_reducible refine gate_callee (f := 20) rfl ?_); refine goesL_ (some 51) rfl rfl Tryd.func20 (by kernel_rfl) rfl #[.agg #[.bool a0_0, .int .u64 a0_1, .int .u64 a0_2]] rfl (by (try simp only [List.map_toArray, List.map_cons, List.map_nil]); first | done | rfl | (simp only [List.length_drop, List.length_take]; rfl)) ?_; (with_reducible refine (address_Previous.calls a0_0 a0_1 a0_2 t325 t326 t327 t328 _ A51.out).mono ?_); rintro e w160 ⟨rfl, hb⟩; refine ⟨_, rfl, ?_⟩; replace BK308 := Aside0.mk (blk_below (g := gb308) (o := .cells #[.bool a0_0, .int .u64 a0_1, .int .u64 a0_2] 25 (0, 0)) (zK BK308) hb); replace BK309 := Aside0.mk (blk_below (g := gb309) (o := .cells #[.bool a1_0, .int .u64 a1_1, .int .u64 a1_2] 25 (0, 0)) (zK BK309) hb); replace BK317 := Aside0.mk (blk_below (g := gb317) (o := .cells #[.bool t313, .int .u64 t314, .int .u64 t315] 25 (0, 0)) (zK BK317) hb); replace BK322 := Aside0.mk (blk_below (g := gb322) (o := .cells #[.bool t318, .int .u64 t319, .int .u64 t320] 25 (0, 0)) (zK BK322) hb); replace HB := Aside0.mk (below_step (zB HB) hb); (try clear hb); have hnb161 := NB317_309.out; have hnc161 := NB309_317.out; have hnb162 := NB317_322.out; have hnc162 := NB322_317.out; obtain ⟨hcz163_0, hcz163_1, hcz163_2⟩ := zc3 BK317; obtain ⟨hfz163_0, hfz163_1, hfz163_2⟩ := zf3 BK317; obtain ⟨hcz164_0, hcz164_1, hcz164_2⟩ := zc3 BK308; obtain ⟨hfz164_0, hfz164_1, hfz164_2⟩ := zf3 BK308) | ((with_reducible refine gate_callee (f := 21) rfl ?_); refine goesL_ (some 56) rfl rfl Tryd.func21 (by kernel_rfl) rfl #[.agg #[.bool a0_0, .int .u64 a0_1, .int .u64 a0_2]] rfl (by (try simp only [List.map_toArray, List.map_cons, List.map_nil]); first | done | rfl | (simp only [List.length_drop, List.length_take]; rfl)) ?_; (with_reducible refine (intrusionref06_Previous.calls kj22 a0_0 a0_1 a0_2 t329 t330 t331 t332 _ A52.out).mono ?_); rintro e w165 ⟨rfl, hb⟩; refine ⟨_, rfl, ?_⟩; replace BK308 := Aside0.mk (blk_below (g := gb308) (o := .cells #[.bool a0_0, .int .u64 a0_1, .int .u64 a0_2] 25 (0, 0)) (by refine zL ?_; refine blk_far ?_ NB308_317.out _; refine zL ?_; refine blk_far ?_ NB308_317.out _; refine zL ?_; refine blk_far ?_ NB308_317.out _; refine zL ?_; exact BK308.out) hb); replace BK309 := Aside0.mk (blk_below (g := gb309) (o := .cells #[.bool a1_0, .int .u64 a1_1, .int .u64 a1_2] 25 (0, 0)) (by refine zL ?_; refine blk_far ?_ NB309_317.out _; refine zL ?_; refine blk_far ?_ NB309_317.out _; refine zL ?_; refine blk_far ?_ NB309_317.out _; refine zL ?_; exact BK309.out) hb); replace BK317 := Aside0.mk (blk_below (g := gb317) (o := .cells #[.bool t325, .int .u64 t326, .int .u64 t327] 25 (0, 0)) (by refine zL ?_; refine blk_put (cs := #[.bool t325, .int .u64 t326, .int .u64 t315]) ?_ 2 _ rfl; refine zL ?_; refine blk_put (cs := #[.bool t325, .int .u64 t314, .int .u64 t315]) ?_ 1 _ rfl; refine zL ?_; refine blk_put (cs := #[.bool t313, .int .u64 t314, .int .u64 t315]) ?_ 0 _ rfl; refine zL ?_; exact BK317.out) hb); replace BK322 := Aside0.mk (blk_below (g := gb322) (o := .cells #[.bool t318, .int .u64 t319, .int .u64 t320] 25 (0, 0)) (by refine zL ?_; refine blk_far ?_ NB322_317.out _; refine zL ?_; refine blk_far ?_ NB322_317.out _; refine zL ?_; refine blk_far ?_ NB322_317.out _; refine zL ?_; exact BK322.out) hb); replace HB := Aside0.mk (below_step (zB HB) hb); (try clear hb); have hnb166 := NB322_309.out; have hnc166 := NB309_322.out; obtain ⟨hcz167_0, hcz167_1, hcz167_2⟩ := zc3 BK322; obtain ⟨hfz167_0, hfz167_1, hfz167_2⟩ := zf3 BK322; obtain ⟨hcz168_0, hcz168_1, hcz168_2⟩ := zc3 BK309; obtain ⟨hfz168_0, hfz168_1, hfz168_2⟩ := zf3 BK309) | ((with_reducible refine gate_callee (f := 22) rfl ?_); refine goesL_ (some 62) rfl rfl Tryd.func22 (by kernel_rfl) rfl #[.agg #[.bool a1_0, .int .u64 a1_1, .int .u64 a1_2], .int .i64 a2] rfl (by (try simp only [List.map_toArray, List.map_cons, List.map_nil]); first | done | rfl | (simp only [List.length_drop, List.length_take]; rfl)) ?_; (with_reducible refine (intrusionref06_MakePrefix.calls kj22 a1_0 a1_1 a1_2 a2 t333 t334 t335 t336 t337 _ A53.out).mono ?_); rintro e w169 ⟨rfl, hb⟩; refine ⟨_, rfl, ?_⟩; replace BK308 := Aside0.mk (blk_below (g := gb308) (o := .cells #[.bool a0_0, .int .u64 a0_1, .int .u64 a0_2] 25 (0, 0)) (by refine zL ?_; refine blk_far ?_ NB308_322.out _; refine zL ?_; refine blk_far ?_ NB308_322.out _; refine zL ?_; refine blk_far ?_ NB308_322.out _; refine zL ?_; exact BK308.out) hb); replace BK309 := Aside0.mk (blk_below (g := gb309) (o := .cells #[.bool a1_0, .int .u64 a1_1, .int .u64 a1_2] 25 (0, 0)) (by refine zL ?_; refine blk_far ?_ NB309_322.out _; refine zL ?_; refine blk_far ?_ NB309_322.out _; refine zL ?_; refine blk_far ?_ NB309_322.out _; refine zL ?_; exact BK309.out) hb); replace BK317 := Aside0.mk (blk_below (g := gb317) (o := .cells #[.bool t325, .int .u64 t326, .int .u64 t327] 25 (0, 0)) (by refine zL ?_; refine blk_far ?_ NB317_322.out _; refine zL ?_; refine blk_far ?_ NB317_322.out _; refine zL ?_; refine blk_far ?_ NB317_322.out _; refine zL ?_; exact BK317.out) hb); replace BK322 := Aside0.mk (blk_below (g := gb322) (o := .cells #[.bool t329, .int .u64 t330, .int .u64 t331] 25 (0, 0)) (by refine zL ?_; refine blk_put (cs := #[.bool t329, .int .u64 t330, .int .u64 t320]) ?_ 2 _ rfl; refine zL ?_; refine blk_put (cs := #[.bool t329, .int .u64 t319, .int .u64 t320]) ?_ 1 _ rfl; refine zL ?_; refine blk_put (cs := #[.bool t318, .int .u64 t319, .int .u64 t320]) ?_ 0 _ rfl; refine zL ?_; exact BK322.out) hb); replace HB := Aside0.mk (below_step (zB HB) hb); (try clear hb)) | ((with_reducible refine gate_dst (N := 11) rfl ?_); refine zx 11 #[.bool false, .int .u64 0, .int .u64 0, .int .i64 0] 30 ?_; intro gb338 hg w170 hbox hb; have BK338 := Aside0.mk (hbox); have GW338 := Aside0.mk ((by rw [hg]; exact (below_size (zB HB)) : w.heap.size ≤ gb338)); have GE338 := Aside0.mk ((by rw [hg]; exact (below_size (zB HB)) : w.heap.size ≤ gb338)); replace HB := Aside0.mk (below_step (zB HB) hb); have NB308_338 := Aside0.mk ((by rw [hg]; exact Nat.ne_of_lt (blk_lt (g := gb308) (o := .cells #[.bool a0_0, .int .u64 a0_1, .int .u64 a0_2] 25 (0, 0)) (zK BK308)) : gb308 ≠ gb338)); have NB338_308 := Aside0.mk ((by rw [hg]; exact Nat.ne_of_gt (blk_lt (g := gb308) (o := .cells #[.bool a0_0, .int .u64 a0_1, .int .u64 a0_2] 25 (0, 0)) (zK BK308)) : gb338 ≠ gb308)); replace BK308 := Aside0.mk (blk_below (g := gb308) (o := .cells #[.bool a0_0, .int .u64 a0_1, .int .u64 a0_2] 25 (0, 0)) (zK BK308) hb); have NB309_338 := Aside0.mk ((by rw [hg]; exact Nat.ne_of_lt (blk_lt (g := gb309) (o := .cells #[.bool a1_0, .int .u64 a1_1, .int .u64 a1_2] 25 (0, 0)) (zK BK309)) : gb309 ≠ gb338)); have NB338_309 := Aside0.mk ((by rw [hg]; exact Nat.ne_of_gt (blk_lt (g := gb309) (o := .cells #[.bool a1_0, .int .u64 a1_1, .int .u64 a1_2] 25 (0, 0)) (zK BK309)) : gb338 ≠ gb309)); replace BK309 := Aside0.mk (blk_below (g := gb309) (o := .cells #[.bool a1_0, .int .u64 a1_1, .int .u64 a1_2] 25 (0, 0)) (zK BK309) hb); have NB317_338 := Aside0.mk ((by rw [hg]; exact Nat.ne_of_lt (blk_lt (g := gb317) (o := .cells #[.bool t325, .int .u64 t326, .int .u64 t327] 25 (0, 0)) (zK BK317)) : gb317 ≠ gb338)); have NB338_317 := Aside0.mk ((by rw [hg]; exact Nat.ne_of_gt (blk_lt (g := gb317) (o := .cells #[.bool t325, .int .u64 t326, .int .u64 t327] 25 (0, 0)) (zK BK317)) : gb338 ≠ gb317)); replace BK317 := Aside0.mk (blk_below (g := gb317) (o := .cells #[.bool t325, .int .u64 t326, .int .u64 t327] 25 (0, 0)) (zK BK317) hb); have NB322_338 := Aside0.mk ((by rw [hg]; exact Nat.ne_of_lt (blk_lt (g := gb322) (o := .cells #[.bool t329, .int .u64 t330, .int .u64 t331] 25 (0, 0)) (zK BK322)) : gb322 ≠ gb338)); have NB338_322 := Aside0.mk ((by rw [hg]; exact Nat.ne_of_gt (blk_lt (g := gb322) (o := .cells #[.bool t329, .int .u64 t330, .int .u64 t331] 25 (0, 0)) (zK BK322)) : gb338 ≠ gb322)); replace BK322 := Aside0.mk (blk_below (g := gb322) (o := .cells #[.bool t329, .int .u64 t330, .int .u64 t331] 25 (0, 0)) (zK BK322) hb); clear hb hbox hg; have hnb171 := NB338_308.out; have hnc171 := NB308_338.out; have hnb172 := NB338_309.out; have hnc172 := NB309_338.out; have hnb173 := NB338_317.out; have hnc173 := NB317_338.out; have hnb174 := NB338_322.out; have hnc174 := NB322_338.out; obtain ⟨hcz175_0, hcz175_1, hcz175_2, hcz175_3⟩ := zc4 BK338; obtain ⟨hfz175_0, hfz175_1, hfz175_2, hfz175_3⟩ := zf4 BK338))
           have n0_ : Aside0 (((((w170.setCell ⟨gb338, 0, none⟩ (.bool t333)).setCell ⟨gb338, 1, none⟩ (.int .u64 t334)).setCell ⟨gb338, 2, none⟩ (.int .u64 t335)).setCell ⟨gb338, 3, none⟩ (.int .i64 t336)).heap[gb308]? = some (.cells #[.bool a0_0, .int .u64 a0_1, .int .u64 a0_2] 25 (0, 0))) := ⟨by refine zL ?_; refine blk_far ?_ NB308_338.out _; refine zL ?_; refine blk_far ?_ NB308_338.out _; refine zL ?_; refine blk_far ?_ NB308_338.out _; refine zL ?_; refine blk_far ?_ NB308_338.out _; refine zL ?_; exact BK308.out⟩
           have n1_ : Aside0 (((((w170.setCell ⟨gb338, 0, none⟩ (.bool t333)).setCell ⟨gb338, 1, none⟩ (.int .u64 t334)).setCell ⟨gb338, 2, none⟩ (.int .u64 t335)).setCell ⟨gb338, 3, none⟩ (.int .i64 t336)).heap[gb309]? = some (.cells #[.bool a1_0, .int .u64 a1_1, .int .u64 a1_2] 25 (0, 0))) := ⟨by refine zL ?_; refine blk_far ?_ NB309_338.out _; refine zL ?_; refine blk_far ?_ NB309_338.out _; refine zL ?_; refine blk_far ?_ NB309_338.out _; refine zL ?_; refine blk_far ?_ NB309_338.out _; refine zL ?_; exact BK309.out⟩
           have n2_ : Aside0 (((((w170.setCell ⟨gb338, 0, none⟩ (.bool t333)).setCell ⟨gb338, 1, none⟩ (.int .u64 t334)).setCell ⟨gb338, 2, none⟩ (.int .u64 t335)).setCell ⟨gb338, 3, none⟩ (.int .i64 t336)).heap[gb317]? = some (.cells #[.bool t325, .int .u64 t326, .int .u64 t327] 25 (0, 0))) := ⟨by refine zL ?_; refine blk_far ?_ NB317_338.out _; refine zL ?_; refine blk_far ?_ NB317_338.out _; refine zL ?_; refine blk_far ?_ NB317_338.out _; refine zL ?_; refine blk_far ?_ NB317_338.out _; refine zL ?_; exact BK317.out⟩
           have n3_ : Aside0 (((((w170.setCell ⟨gb338, 0, none⟩ (.bool t333)).setCell ⟨gb338, 1, none⟩ (.int .u64 t334)).setCell ⟨gb338, 2, none⟩ (.int .u64 t335)).setCell ⟨gb338, 3, none⟩ (.int .i64 t336)).heap[gb322]? = some (.cells #[.bool t329, .int .u64 t330, .int .u64 t331] 25 (0, 0))) := ⟨by refine zL ?_; refine blk_far ?_ NB322_338.out _; refine zL ?_; refine blk_far ?_ NB322_338.out _; refine zL ?_; refine blk_far ?_ NB322_338.out _; refine zL ?_; refine blk_far ?_ NB322_338.out _; refine zL ?_; exact BK322.out⟩
           have n4_ : Aside0 (((((w170.setCell ⟨gb338, 0, none⟩ (.bool t333)).setCell ⟨gb338, 1, none⟩ (.int .u64 t334)).setCell ⟨gb338, 2, none⟩ (.int .u64 t335)).setCell ⟨gb338, 3, none⟩ (.int .i64 t336)).heap[gb338]? = some (.cells #[.bool t333, .int .u64 t334, .int .u64 t335, .int .i64 t336] 30 (0, 0))) := ⟨by refine zL ?_; refine blk_put (cs := #[.bool t333, .int .u64 t334, .int .u64 t335, .int .i64 0]) ?_ 3 _ rfl; refine zL ?_; refine blk_put (cs := #[.bool t333, .int .u64 t334, .int .u64 0, .int .i64 0]) ?_ 2 _ rfl; refine zL ?_; refine blk_put (cs := #[.bool t333, .int .u64 0, .int .u64 0, .int .i64 0]) ?_ 1 _ rfl; refine zL ?_; refine blk_put (cs := #[.bool false, .int .u64 0, .int .u64 0, .int .i64 0]) ?_ 0 _ rfl; refine zL ?_; exact BK338.out⟩
           have n5_ : Aside0 (Below w.heap.size w ((((w170.setCell ⟨gb338, 0, none⟩ (.bool t333)).setCell ⟨gb338, 1, none⟩ (.int .u64 t334)).setCell ⟨gb338, 2, none⟩ (.int .u64 t335)).setCell ⟨gb338, 3, none⟩ (.int .i64 t336))) := ⟨zB HB⟩
           (try clear BK308)
           (try clear BK309)
           (try clear BK317)
           (try clear BK322)
           (try clear BK338)
           (try clear HB)
           generalize ((((w170.setCell ⟨gb338, 0, none⟩ (.bool t333)).setCell ⟨gb338, 1, none⟩ (.int .u64 t334)).setCell ⟨gb338, 2, none⟩ (.int .u64 t335)).setCell ⟨gb338, 3, none⟩ (.int .i64 t336)) = w176 at n0_ n1_ n2_ n3_ n4_ n5_ ⊢
           have BK308 := n0_
           have BK309 := n1_
           have BK317 := n2_
           have BK322 := n3_
           have BK338 := n4_
           have HB := n5_
           clear n0_ n1_ n2_ n3_ n4_ n5_
           replace BK308 := Aside0.mk (blk_drew BK308.out)
           replace BK309 := Aside0.mk (blk_drew BK309.out)
           replace BK317 := Aside0.mk (blk_drew BK317.out)
           replace BK322 := Aside0.mk (blk_drew BK322.out)
           replace BK338 := Aside0.mk (blk_drew BK338.out)
           replace HB := Aside0.mk (below_drew1 HB.out)
           refine start_ (n := 25) (S := fun w' => w'.cell? ⟨gb317, 0, none⟩ = some (.bool t325) ∧ w'.cell? ⟨gb317, 1, none⟩ = some (.int .u64 t326) ∧ w'.cell? ⟨gb317, 2, none⟩ = some (.int .u64 t327) ∧ w'.cell? ⟨gb322, 0, none⟩ = some (.bool t329) ∧ w'.cell? ⟨gb322, 1, none⟩ = some (.int .u64 t330) ∧ w'.cell? ⟨gb322, 2, none⟩ = some (.int .u64 t331)) (ds := []) #[false, false, false, false, false, false, false, false, false, false, false, false, false, false, false, false, false, false, false, false, false, false, false, false, false] (by kernel_rfl) rfl rfl ⟨zc BK317 0, zc BK317 1, zc BK317 2, zc BK322 0, zc BK322 1, zc BK322 2⟩ (fun hHeld => ?_); refine with_tabW intrusionlaw06_AddressOrders.tab10 intrusionlaw06_AddressOrders.bits10 (fun HT_ HW_ => ?_)
           generalize w176.drew = w177 at BK308 BK309 BK317 BK322 BK338 HB hHeld ⊢
           refine zt 0 65 HT_ HW_ hHeld ?_; refine zt 1 66 HT_ HW_ hHeld ?_; refine zp 2 67 HT_ ?_; refine zp 3 68 HT_ ?_; refine zu 4 69 HT_ ?_; refine zu 5 70 HT_ ?_; refine zu 6 71 HT_ ?_; refine zp 7 72 HT_ ?_; refine zp 8 73 HT_ ?_; refine zu 9 74 HT_ ?_; refine zu 10 75 HT_ ?_; refine zu 11 76 HT_ ?_; refine zu 12 77 HT_ ?_; refine zu 13 78 HT_ ?_; refine zu 14 79 HT_ ?_; refine zu 15 80 HT_ ?_; refine zu 16 81 HT_ ?_; refine zu 17 82 HT_ ?_; refine zu 18 83 HT_ ?_; refine zu 19 84 HT_ ?_; refine zp 20 85 HT_ ?_; refine zp 21 86 HT_ ?_; refine zu 22 87 HT_ ?_; refine zp 23 88 HT_ ?_; refine zp 24 6 HT_ ?_; refine zd HT_ ?_
           try go_wp2
           go_ret
           exact ⟨by first | rfl | (simp [errW_none, errW_some] <;> rfl) | (simp [*, errW_none, errW_some] <;> rfl), by repeat (first | (with_reducible first | exact HB.out | apply below_alloc | apply pw_below_drewN | apply below_drew1 | refine below_set ?_ GE308.out | refine below_set ?_ GE309.out | refine below_set ?_ GE317.out | refine below_set ?_ GE322.out | refine below_set ?_ GE338.out) | exact HB.out)⟩
end Go.Proofs.YtlgfinnldhjgeaaDoor.Q
end

section
set_option linter.unusedVariables false
namespace Go.Proofs.YtlgfinnldhjgeaaDoor.Read
open Go.RowKit Go.Deep Go.WideShapes Go.Proofs.YtlgfinnldhjgeaaDoorW.PrintWords
def Reads {α : Type} (P : Program) (W : World) (d : Kd α) (Q : α → Prop) (t : TypeId) : Prop :=
  ∀ (H : Type) (enc : TypeId × Value → H) (fuel : Nat) (cs : List Value) (x : DataW H × List MemPlace), DataW.trod enc P W 0 (fun _ => true) true fuel t cs = some x → ∃ y, d.K W y cs ∧ Q y
section
variable {P : Program} {W : World}
theorem reads_int {k : IntKind} {t : TypeId} (ht : P.underlying t = some (.int k)) : Reads P W (Kd.int k) (fun n => (Lit.int k n).wf = true) t := by
  intro H enc fuel cs x h
  obtain ⟨n, rfl, _, hw⟩ := DataW.trod_int ht h
  exact ⟨n, rfl, hw⟩
theorem reads_bool {t : TypeId} (ht : P.underlying t = some .bool) : Reads P W Kd.bool (fun _ => True) t := by
  intro H enc fuel cs x h
  obtain ⟨n, rfl, _⟩ := DataW.trod_bool ht h
  exact ⟨n, rfl, trivial⟩
theorem pair_mk {α β : Type} {a : Kd α} {b : Kd β} {x : α} {y : β} {cs : List Value} (s : Nat) (h0 : a.K W x (cs.take s)) (h1 : b.K W y (cs.drop s)) : (Kd.pair a b).K W (x, y) cs :=
  ⟨cs.take s, cs.drop s, (List.take_append_drop s cs).symm, h0, h1⟩
theorem field_at {α : Type} {d : Kd α} {Q : α → Prop} {fs : Array Field} {H : Type} {enc : TypeId × Value → H} {n : Nat} {cs : List Value} {xs : List (DataW H × List MemPlace)} (hl : xs.length = fs.size)
    (hf : ∀ (i : Nat) (f : Field), fs[i]? = some f → DataW.trod enc P W 0 (fun _ => true) true n f.type ((cs.drop f.offset).take (P.cellsOf f.type)) = xs[i]?)
    (i : Nat) {f : Field} (hi : fs[i]? = some f) {t off sz : Nat} (ht : f.type = t) (ho : f.offset = off) (hc : P.cellsOf t = sz) (hr : Reads P W d Q t) : ∃ y, d.K W y ((cs.drop off).take sz) ∧ Q y := by
  subst ht ho hc
  have h := hf i f hi
  have hlt : i < xs.length := by rw [hl]; exact (Array.getElem?_eq_some_iff.1 hi).1
  rw [List.getElem?_eq_getElem hlt] at h
  exact hr H enc n _ _ h
end
end Go.Proofs.YtlgfinnldhjgeaaDoor.Read
end

section
set_option linter.unusedVariables false
namespace Go.Proofs.YtlgfinnldhjgeaaDoor.Q
open Go.RowKit Go.Proofs.YtlgfinnldhjgeaaDoorW.PrintWords Go.Proofs.YtlgfinnldhjgeaaDoor.Read
def q25 (x : S25) : Prop := True ∧ (Lit.int .u64 x.f1).wf = true ∧ (Lit.int .u64 x.f2).wf = true
theorem reads_k25 (W : World) : Reads Tryd.prog W k25 q25 25 := by
  intro H enc fuel cs x h
  obtain ⟨xs, n, rfl, _, hcl, hxl, hf⟩ := DataW.trod_struct Tryd.underlying25 h
  have hc : cs.length = 3 := hcl.trans (by kernel_rfl)
  obtain ⟨y0, h0, g0⟩ := field_at hxl hf 0 rfl (t := 4) (off := 0) (sz := 1) rfl rfl (by kernel_rfl) (reads_bool Tryd.underlying4)
  obtain ⟨y1, h1, g1⟩ := field_at hxl hf 1 rfl (t := 23) (off := 1) (sz := 1) rfl rfl (by kernel_rfl) (reads_int Tryd.underlying23)
  obtain ⟨y2, h2, g2⟩ := field_at hxl hf 2 rfl (t := 23) (off := 2) (sz := 1) rfl rfl (by kernel_rfl) (reads_int Tryd.underlying23)
  refine ⟨⟨y0, y1, y2⟩, ?_, ⟨g0, g1, g2⟩⟩
  rw [show (cs.drop 0).take 1 = (cs.drop 0).take 1 from rfl] at h0
  rw [show (cs.drop 1).take 1 = (cs.drop 1).take 1 from rfl] at h1
  rw [show (cs.drop 2).take 1 = (cs.drop 2) from List.take_of_length_le (by rw [List.length_drop, hc]; decide)] at h2
  skip
  simp only [show 2 = 1 + 1 from rfl, ← List.drop_drop] at h2
  have e0 : cs.drop 0 = cs := rfl
  rw [e0] at h0
  exact pair_mk (a := Kd.bool) 1 h0 (pair_mk (a := (Kd.int .u64)) 1 h1 (h2))
end Go.Proofs.YtlgfinnldhjgeaaDoor.Q
end

section
set_option linter.unusedVariables false
set_option linter.unusedSimpArgs false
namespace Go.Proofs.YtlgfinnldhjgeaaDoor.Q
open Go.RowKit Go.Proofs.YtlgfinnldhjgeaaDoorW.PrintWords Go.Proofs.YtlgfinnldhjgeaaDoorW.PrintLast Go.Proofs.YtlgfinnldhjgeaaDoorW.PrintMore
abbrev Ad := S25
def AW (a : Ad) : Prop := 0 ≤ a.f1 ∧ a.f1 < 18446744073709551616 ∧ 0 ≤ a.f2 ∧ a.f2 < 18446744073709551616
def AF (a : Ad) : Prop := AW a ∧ (a.f0 = true ∨ (a.f1 = 0 ∧ a.f2 ≤ 4294967295))
theorem wf_u64 {n : Int} (h : (Lit.int .u64 n).wf = true) : 0 ≤ n ∧ n < 18446744073709551616 := by
  simp only [Lit.wf, Bool.and_eq_true, decide_eq_true_eq] at h
  have e1 : IntKind.u64.min = 0 := by decide
  have e2 : IntKind.u64.max = 18446744073709551615 := by decide
  rw [e1, e2] at h
  omega
theorem aw_of {a : Ad} (h : q25 a) : AW a := by
  obtain ⟨_, h1, h2⟩ := h
  have := wf_u64 h1
  have := wf_u64 h2
  exact ⟨by omega, by omega, by omega, by omega⟩
def fineB (a : Ad) : Bool := a.f0 || (decide (a.f1 = 0) && decide (a.f2 ≤ 4294967295))
theorem rfine_eq (a : Ad) : intrusionref06_Valid.f a.f0 a.f1 a.f2 = some (fineB a) := by
  unfold intrusionref06_Valid.f fineB
  cases a.f0
  · by_cases h : a.f1 = 0
    · simp [h]; omega
    · simp [h]
  · simp
theorem fine_iff {a : Ad} (ha : AW a) : fineB a = true ↔ AF a := by
  unfold fineB AF
  simp only [Bool.or_eq_true, Bool.and_eq_true, decide_eq_true_eq]
  exact ⟨fun h => ⟨ha, h⟩, fun h => h.2⟩
theorem cmp_f (a b : Ad) : address_Compare.f a.f0 a.f1 a.f2 b.f0 b.f1 b.f2 = some (cmpA a b) := rfl
theorem u64_id {n : Int} (h0 : 0 ≤ n) (h1 : n < 18446744073709551616) : IntKind.u64.wrap n = n := IntWalk.u64_in n ⟨h0, by omega⟩
instance decAd : DecidableEq Ad := fun a b => decidable_of_iff (a.f0 = b.f0 ∧ a.f1 = b.f1 ∧ a.f2 = b.f2) ⟨fun h => by cases a; cases b; simp at h; simp [h], fun h => by rw [h]; exact ⟨rfl, rfl, rfl⟩⟩
theorem u64_top : IntKind.u64.wrap 18446744073709551616 = 0 := by decide
def nextA (a : Ad) : Ad := ⟨a.f0, if IntKind.u64.wrap (a.f2 + 1) = 0 then IntKind.u64.wrap (a.f1 + 1) else a.f1, IntKind.u64.wrap (a.f2 + 1)⟩
def topA (f : Bool) : Ad := if f then ⟨true, 18446744073709551615, 18446744073709551615⟩ else ⟨false, 0, 4294967295⟩
theorem next_eq (a : Ad) (h : AF a) : address_Next.f a.f0 a.f1 a.f2 = some (if a = topA a.f0 then (false, 0, 0, false) else ((nextA a).f0, (nextA a).f1, (nextA a).f2, true)) := by
  obtain ⟨a0, a1, a2⟩ := a
  have e : address_last.f a0 = some ((topA a0).f0, (topA a0).f1, (topA a0).f2) := by cases a0 <;> rfl
  unfold address_Next.f
  rw [e]
  simp only [Option.bind_some]
  have e2 : (a0 == (topA a0).f0 && (a1 == (topA a0).f1 && (a2 == (topA a0).f2))) = decide ((⟨a0, a1, a2⟩ : Ad) = topA a0) := by
    rw [Bool.eq_iff_iff]
    simp only [Bool.and_eq_true, beq_iff_eq, decide_eq_true_eq]
    constructor
    · rintro ⟨h1, h2, h3⟩
      cases a0 <;> simp [topA] at * <;> simp [h2, h3]
    · intro h
      rw [← h]
      exact ⟨rfl, rfl, rfl⟩
  rw [e2]
  by_cases c : (⟨a0, a1, a2⟩ : Ad) = topA a0
  · rw [if_pos (decide_eq_true c), if_pos c]
  · rw [if_neg (by simpa using c), if_neg c]
    unfold nextA
    by_cases d : IntKind.u64.wrap (a2 + 1) = 0
    · simp [d]
    · simp [d]
theorem rcmp_eq (a b : Ad) : intrusionref06_Compare.f a.f0 a.f1 a.f2 b.f0 b.f1 b.f2 = some (cmpA a b) := rfl
theorem ends_eq (x y : Ad) : (x.f0 == y.f0 && (x.f1 == y.f1 && x.f2 == y.f2)) = decide (x = y) := by
  obtain ⟨x0, x1, x2⟩ := x
  obtain ⟨y0, y1, y2⟩ := y
  rw [Bool.eq_iff_iff]
  simp only [Bool.and_eq_true, beq_iff_eq, decide_eq_true_eq, Ad, S25.mk.injEq]
end Go.Proofs.YtlgfinnldhjgeaaDoor.Q
end

section
set_option linter.unusedVariables false
set_option linter.unusedSimpArgs false
namespace Go.Proofs.YtlgfinnldhjgeaaDoor.Q
open Go.RowKit Go.Proofs.YtlgfinnldhjgeaaDoorW.PrintWords Go.Proofs.YtlgfinnldhjgeaaDoorW.PrintLast Go.Proofs.YtlgfinnldhjgeaaDoorW.PrintMore
def address_Bounds.f (a0_0 : Bool) (a0_1 : Int) (a0_2 : Int) (a0_3 : Int) : Option (Bool × Int × Int × Bool × Int × Int) := (address_mask.f a0_0 a0_1 a0_2 a0_3).bind fun bt => some (a0_0, a0_1, a0_2, a0_0, Go.bits .or .u64 a0_1 bt.1, Go.bits .or .u64 a0_2 bt.2)
end Go.Proofs.YtlgfinnldhjgeaaDoor.Q
end

section
namespace Go.Proofs.YtlgfinnldhjgeaaDoor.Q
open Go.RowKit Go.Proofs.YtlgfinnldhjgeaaDoorW.PrintWords Go.Proofs.YtlgfinnldhjgeaaDoorW.PrintLast Go.Proofs.YtlgfinnldhjgeaaDoorW.PrintMore
attribute [local go_sem] max2_int min2_int max_two min_two max_three min_three max_four min_four
set_option linter.unusedVariables false
set_option linter.unusedSimpArgs false
def address_MakePrefix.f (a0_0 : Bool) (a0_1 : Int) (a0_2 : Int) (a1 : Int) : Option (Bool × Int × Int × Int × Int) := if a1 < 0 then (some (false, 0, 0, 0, 4)) else ((address_size.f a0_0 a0_1 a0_2).bind fun t372 => (if a1 > t372 then (some (false, 0, 0, 0, 4)) else ((address_mask.f a0_0 a0_1 a0_2 a1).bind fun bt373 => (some (a0_0, Go.bits .andNot .u64 a0_1 bt373.1, Go.bits .andNot .u64 a0_2 bt373.2, a1, 0)))))
end Go.Proofs.YtlgfinnldhjgeaaDoor.Q
end

section
namespace Go.Proofs.YtlgfinnldhjgeaaDoor.Q
open Go.RowKit Go.Proofs.YtlgfinnldhjgeaaDoorW.PrintWords Go.Proofs.YtlgfinnldhjgeaaDoorW.PrintLast Go.Proofs.YtlgfinnldhjgeaaDoorW.PrintMore
attribute [local go_sem] max2_int min2_int max_two min_two max_three min_three max_four min_four
set_option linter.unusedVariables false
set_option linter.unusedSimpArgs false
attribute [local go_sem high] eqA25
def intrusionref06_ValidPrefix.f (k : Nat) (a0_0 : Bool) (a0_1 : Int) (a0_2 : Int) (a0_3 : Int) : Option (Bool) := (intrusionref06_Valid.f a0_0 a0_1 a0_2).bind fun t248 => (if t248 = true then (if a0_3 ≥ 0 then ((intrusionref06_Width.f a0_0 a0_1 a0_2).bind fun t249 => (if a0_3 ≤ t249 then ((intrusionref06_with.f k a0_0 a0_1 a0_2 a0_3 false).bind fun bt250 => (some (bt250.1 == a0_0 && (bt250.2.1 == a0_1 && (bt250.2.2 == a0_2))))) else (some false))) else (some false)) else (some false))
theorem intrusionref06_ValidPrefix.mono : ∀ a0 a1 a2 a3 k, LeO (intrusionref06_ValidPrefix.f k a0 a1 a2 a3) (intrusionref06_ValidPrefix.f (k + 1) a0 a1 a2 a3) := by
  intro a0 a1 a2 a3 k
  unfold intrusionref06_ValidPrefix.f
  repeat' first
      | (with_reducible exact intrusionref06_with.mono _ _ _ _ _ _)
      | (with_reducible exact LeO.refl _)
      | (with_reducible exact LeO.none _)
      | (with_reducible refine LeO.ite ?_ ?_)
      | (with_reducible refine LeO.bind ?_ (fun _ => ?_))
      | exact intrusionref06_with.mono _ _ _ _ _ _
      | exact LeO.none _
      | refine LeO.ite ?_ ?_
      | refine LeO.bind ?_ (fun _ => ?_)
end Go.Proofs.YtlgfinnldhjgeaaDoor.Q
end

section
namespace Go.Proofs.YtlgfinnldhjgeaaDoor.Q
open Go.RowKit Go.Proofs.YtlgfinnldhjgeaaDoorW.PrintWords Go.Proofs.YtlgfinnldhjgeaaDoorW.PrintLast Go.Proofs.YtlgfinnldhjgeaaDoorW.PrintMore
attribute [local go_sem] max2_int min2_int max_two min_two max_three min_three max_four min_four
set_option linter.unusedVariables false
set_option linter.unusedSimpArgs false
def intrusionref06_Bounds.f (k : Nat) (a0_0 : Bool) (a0_1 : Int) (a0_2 : Int) (a0_3 : Int) : Option (Bool × Int × Int × Bool × Int × Int) := (intrusionref06_with.f k a0_0 a0_1 a0_2 a0_3 true).bind fun bt474 => (some (a0_0, a0_1, a0_2, bt474.1, bt474.2.1, bt474.2.2))
theorem intrusionref06_Bounds.mono : ∀ a0 a1 a2 a3 k, LeO (intrusionref06_Bounds.f k a0 a1 a2 a3) (intrusionref06_Bounds.f (k + 1) a0 a1 a2 a3) := by
  intro a0 a1 a2 a3 k
  unfold intrusionref06_Bounds.f
  repeat' first
      | (with_reducible exact intrusionref06_with.mono _ _ _ _ _ _)
      | (with_reducible exact LeO.refl _)
      | (with_reducible exact LeO.none _)
      | (with_reducible refine LeO.ite ?_ ?_)
      | (with_reducible refine LeO.bind ?_ (fun _ => ?_))
      | exact intrusionref06_with.mono _ _ _ _ _ _
      | exact LeO.none _
      | refine LeO.ite ?_ ?_
      | refine LeO.bind ?_ (fun _ => ?_)
end Go.Proofs.YtlgfinnldhjgeaaDoor.Q
end

section
set_option linter.unusedVariables false
set_option linter.unusedSimpArgs false
namespace Go.Proofs.YtlgfinnldhjgeaaDoor.Q
open Go.RowKit Go.Proofs.YtlgfinnldhjgeaaDoorW.PrintWords Go.Proofs.YtlgfinnldhjgeaaDoorW.PrintLast Go.Proofs.YtlgfinnldhjgeaaDoorW.PrintMore
theorem wid {x : Int} (h0 : -9223372036854775808 ≤ x) (h1 : x ≤ 9223372036854775807) : wrap64 x = x := by unfold wrap64; omega
theorem xor_one (q : Nat) : q ^^^ 1 = if q % 2 = 1 then q - 1 else q + 1 := by
  have a1 : (q ^^^ 1) / 2 = q / 2 := by
    have := @Nat.xor_div_two_pow q 1 1
    simpa using this
  have a2 : (q ^^^ 1) % 2 = 1 - q % 2 := by
    have := @Nat.xor_mod_two_pow q 1 1
    rw [show 2 ^ 1 = 2 from rfl] at this
    rw [this]
    rcases Nat.mod_two_eq_zero_or_one q with h | h <;> rw [h] <;> rfl
  by_cases h : q % 2 = 1
  · rw [if_pos h]; omega
  · rw [if_neg h]; omega
theorem xor_bit (n j : Nat) : n ^^^ 2 ^ j = if (n / 2 ^ j) % 2 = 1 then n - 2 ^ j else n + 2 ^ j := by
  have h1 : (n ^^^ 2 ^ j) % 2 ^ j = n % 2 ^ j := by rw [Nat.xor_mod_two_pow]; simp
  have h2 : (n ^^^ 2 ^ j) / 2 ^ j = (n / 2 ^ j) ^^^ 1 := by rw [Nat.xor_div_two_pow, Nat.div_self (Nat.pow_pos (by decide))]
  have d1 := Nat.div_add_mod (n ^^^ 2 ^ j) (2 ^ j)
  have d2 := Nat.div_add_mod n (2 ^ j)
  rw [h1, h2, xor_one] at d1
  by_cases h : (n / 2 ^ j) % 2 = 1
  · rw [if_pos h] at d1 ⊢
    have g : 0 < n / 2 ^ j := Nat.pos_of_ne_zero (fun e => by rw [e] at h; exact absurd h (by decide))
    generalize n / 2 ^ j = q at *
    generalize 2 ^ j = p at *
    rw [Nat.mul_sub, Nat.mul_one] at d1
    have : p ≤ p * q := Nat.le_mul_of_pos_right _ g
    omega
  · rw [if_neg h] at d1 ⊢
    rw [Nat.mul_add, Nat.mul_one] at d1
    omega
def setN (n k : Nat) (b : Bool) : Nat := n - n % 2 ^ k + (if b then 2 ^ k - 1 else 0)
def flipN (n j : Nat) (b : Bool) : Nat := if ((n / 2 ^ j) % 2 == 1) = b then n else n ^^^ 2 ^ j
theorem setN_flip (n j : Nat) (b : Bool) : setN (flipN n j b) j b = setN n (j + 1) b := by
  have hp : 0 < 2 ^ j := Nat.pow_pos (by decide)
  have d2 := Nat.div_add_mod n (2 ^ j)
  have hl := Nat.mod_lt n hp
  have e1 : n % 2 ^ (j + 1) = n % 2 ^ j + 2 ^ j * ((n / 2 ^ j) % 2) := by rw [Nat.pow_succ, Nat.mod_mul]
  have hle : n % 2 ^ (j + 1) ≤ n := Nat.mod_le _ _
  have f1 : ∀ q : Nat, (2 ^ j * q + n % 2 ^ j) % 2 ^ j = n % 2 ^ j := fun q => by rw [Nat.mul_add_mod]; exact Nat.mod_mod _ _
  unfold setN flipN
  rw [xor_bit, e1, Nat.pow_succ]
  have f2 := f1 (n / 2 ^ j - 1)
  have f3 := f1 (n / 2 ^ j + 1)
  generalize hq : n / 2 ^ j = q at *
  generalize hr : n % 2 ^ j = r at *
  generalize 2 ^ j = p at *
  rcases Nat.mod_two_eq_zero_or_one q with h | h
  · rw [h]
    cases b
    · simp [hr]
    · simp only [show ((0 : Nat) == 1) = false from rfl, Bool.false_eq_true, if_false, if_true, show ¬ (0 = 1) from by omega]
      rw [Nat.mul_add, Nat.mul_one] at f3
      rw [show p * q + p + r = n + p from by omega] at f3
      rw [f3]
      omega
  · rw [h]
    have hq1 : 0 < q := by omega
    have hpq : p ≤ p * q := Nat.le_mul_of_pos_right _ hq1
    cases b
    · simp only [show ((1 : Nat) == 1) = true from rfl, if_true, Bool.false_eq_true, if_false, reduceCtorEq]
      rw [Nat.mul_sub, Nat.mul_one] at f2
      rw [show p * q - p + r = n - p from by omega] at f2
      rw [f2]
      omega
    · simp only [show ((1 : Nat) == 1) = true from rfl, if_true]
      rw [hr]
      omega
theorem ofInt_toNat (x : Nat) (h : x < 18446744073709551616) : (BitVec.ofInt 64 (x : Int)).toNat = x := by
  rw [BitVec.toNat_ofInt]
  simp
  omega
theorem pow_le64 (n : Nat) (hn : n ≤ 64) : 2 ^ n ≤ 18446744073709551616 := Nat.le_trans (Nat.pow_le_pow_right (by decide) hn) (by decide)
theorem bits_and (x n : Nat) (hx : x < 18446744073709551616) (hn : n ≤ 64) : Go.bits .and .u64 (x : Int) ((2 ^ n - 1 : Nat) : Int) = ((x % 2 ^ n : Nat) : Int) := by
  have hp := pow_le64 n hn
  have hpos : 0 < 2 ^ n := Nat.pow_pos (by decide)
  unfold Go.bits
  show IntKind.u64.wrap ((((BitVec.ofInt 64 (x : Int)) &&& (BitVec.ofInt 64 ((2 ^ n - 1 : Nat) : Int))).toNat : Nat) : Int) = _
  rw [BitVec.toNat_and, ofInt_toNat x hx, ofInt_toNat _ (by omega), Nat.and_two_pow_sub_one_eq_mod]
  have := Nat.mod_le x (2 ^ n)
  exact u64_id (by omega) (by omega)
theorem shl_one (n : Nat) (hn : n < 64) : IntKind.u64.wrap ((shl .u64 1 (n : Int)) - 1) = ((2 ^ n - 1 : Nat) : Int) := by
  have hp : 2 ^ n ≤ 9223372036854775808 := Nat.le_trans (Nat.pow_le_pow_right (by decide) (show n ≤ 63 by omega)) (by decide)
  have hpos : 0 < 2 ^ n := Nat.pow_pos (by decide)
  have e : shl .u64 1 (n : Int) = ((2 ^ n : Nat) : Int) := by
    unfold shl
    rw [show min (n : Int).toNat IntKind.u64.bits = n from by show min n 64 = n; omega]
    rw [Int.one_mul, show (2 : Int) ^ n = ((2 ^ n : Nat) : Int) from by simp]
    exact u64_id (by omega) (by omega)
  rw [e]
  rw [u64_id (by omega) (by omega)]
  omega
def hiM (k : Nat) : Int := ((2 ^ (k - 64) - 1 : Nat) : Int)
def loM (k : Nat) : Int := ((2 ^ (min k 64) - 1 : Nat) : Int)
def szA (f : Bool) : Nat := if f then 128 else 32
theorem low_eq (n : Int) (h : n ≤ 1000) : address_low.f n = some (((2 ^ (min n.toNat 64) - 1 : Nat)) : Int) := by
  unfold address_low.f
  by_cases h1 : n ≥ 64
  · rw [if_pos h1, show min n.toNat 64 = 64 from by omega]
    rfl
  · rw [if_neg h1]
    by_cases h2 : n ≤ 0
    · rw [if_pos h2, show min n.toNat 64 = 0 from by omega]
      rfl
    · rw [if_neg h2, if_pos (by omega), show min n.toNat 64 = n.toNat from by omega]
      have := shl_one n.toNat (by omega)
      rw [show ((n.toNat : Nat) : Int) = n from by omega] at this
      rw [this]
theorem size_eq (a : Ad) : address_size.f a.f0 a.f1 a.f2 = some ((szA a.f0 : Nat) : Int) := by
  unfold address_size.f szA
  cases a.f0 <;> rfl
theorem mask_eq (a : Ad) (b : Int) (k : Nat) (hk : (k : Int) = (szA a.f0 : Int) - b) (h0 : 0 ≤ b) (h1 : b ≤ szA a.f0) : address_mask.f a.f0 a.f1 a.f2 b = some (hiM k, loM k) := by
  have hs : szA a.f0 ≤ 128 := by unfold szA; split <;> omega
  unfold address_mask.f
  rw [size_eq]
  simp only [Option.bind_some]
  rw [wid (x := (szA a.f0 : Int) - b) (by omega) (by omega), ← hk, wid (x := (k : Int) - 64) (by omega) (by omega), low_eq _ (by omega), low_eq _ (by omega)]
  simp only [Option.bind_some]
  unfold hiM loM
  rw [show min ((k : Int) - 64).toNat 64 = k - 64 from by omega, show min ((k : Nat) : Int).toNat 64 = min k 64 from by omega]
theorem setN_le {n k m : Nat} (b : Bool) (hn : n < 2 ^ m) (hk : k ≤ m) : setN n k b < 2 ^ m := by
  have hp : 0 < 2 ^ k := Nat.pow_pos (by decide)
  have d2 := Nat.div_add_mod n (2 ^ k)
  have hl := Nat.mod_lt n hp
  have e : 2 ^ m = 2 ^ k * 2 ^ (m - k) := by rw [← Nat.pow_add, show k + (m - k) = m from by omega]
  have h1 : n / 2 ^ k < 2 ^ (m - k) := Nat.div_lt_of_lt_mul (by rw [← e]; exact hn)
  have h2 : 2 ^ k * (n / 2 ^ k + 1) ≤ 2 ^ k * 2 ^ (m - k) := Nat.mul_le_mul_left _ h1
  rw [Nat.mul_add, Nat.mul_one, ← e] at h2
  unfold setN
  split <;> omega
theorem andNot_low (X M : BitVec 64) (n : Nat) (hn : n ≤ 64) (hM : M.toNat = 2 ^ n - 1) : (X &&& ~~~M).toNat = X.toNat - X.toNat % 2 ^ n := by
  have hpos : 0 < 2 ^ n := Nat.pow_pos (by decide)
  have hp := pow_le64 n hn
  have e : 18446744073709551616 = 2 ^ n * 2 ^ (64 - n) := by rw [← Nat.pow_add, show n + (64 - n) = 64 from by omega]
  have hq : 0 < 2 ^ (64 - n) := Nat.pow_pos (by decide)
  have hX := X.isLt
  rw [BitVec.toNat_and, BitVec.toNat_not, hM]
  have hC : 2 ^ 64 - 1 - (2 ^ n - 1) = 2 ^ n * (2 ^ (64 - n) - 1) := by
    rw [Nat.mul_sub, ← e, Nat.mul_one]
    omega
  rw [hC]
  generalize X.toNat = x at *
  have h1 : (x &&& (2 ^ n * (2 ^ (64 - n) - 1))) / 2 ^ n = x / 2 ^ n := by
    rw [Nat.and_div_two_pow, Nat.mul_div_cancel_left _ hpos, Nat.and_two_pow_sub_one_eq_mod]
    exact Nat.mod_eq_of_lt (Nat.div_lt_of_lt_mul (by rw [← e]; exact hX))
  have h2 : (x &&& (2 ^ n * (2 ^ (64 - n) - 1))) % 2 ^ n = 0 := by
    rw [Nat.and_mod_two_pow, Nat.mul_mod_right]
    simp
  have d1 := Nat.div_add_mod (x &&& (2 ^ n * (2 ^ (64 - n) - 1))) (2 ^ n)
  have d2 := Nat.div_add_mod x (2 ^ n)
  rw [h1, h2] at d1
  omega
theorem bits_andNot (x n : Nat) (hx : x < 18446744073709551616) (hn : n ≤ 64) : Go.bits .andNot .u64 (x : Int) ((2 ^ n - 1 : Nat) : Int) = ((setN x n false : Nat) : Int) := by
  have hp := pow_le64 n hn
  have hpos : 0 < 2 ^ n := Nat.pow_pos (by decide)
  unfold Go.bits
  show IntKind.u64.wrap ((((BitVec.ofInt 64 (x : Int)) &&& ~~~(BitVec.ofInt 64 ((2 ^ n - 1 : Nat) : Int))).toNat : Nat) : Int) = _
  rw [andNot_low _ _ n hn (ofInt_toNat _ (by omega)), ofInt_toNat x hx]
  unfold setN
  simp only [Bool.false_eq_true, if_false, Nat.add_zero]
  exact u64_id (by omega) (by omega)
theorem bits_xor (x j : Nat) (hx : x < 18446744073709551616) (hj : j < 64) : Go.bits .xor .u64 (x : Int) ((2 ^ j : Nat) : Int) = ((x ^^^ 2 ^ j : Nat) : Int) := by
  have hp : 2 ^ j < 18446744073709551616 := Nat.lt_of_le_of_lt (Nat.pow_le_pow_right (by decide) (show j ≤ 63 by omega)) (by decide)
  have hl : (x ^^^ 2 ^ j) < 2 ^ 64 := Nat.xor_lt_two_pow hx hp
  unfold Go.bits
  show IntKind.u64.wrap ((((BitVec.ofInt 64 (x : Int)) ^^^ (BitVec.ofInt 64 ((2 ^ j : Nat) : Int))).toNat : Nat) : Int) = _
  rw [BitVec.toNat_xor, ofInt_toNat x hx, ofInt_toNat _ hp]
  exact u64_id (by omega) (by omega)
theorem shl_pow (j : Nat) (hj : j < 64) : shl .u64 1 (j : Int) = ((2 ^ j : Nat) : Int) := by
  have hp : 2 ^ j < 18446744073709551616 := Nat.lt_of_le_of_lt (Nat.pow_le_pow_right (by decide) (show j ≤ 63 by omega)) (by decide)
  unfold shl
  rw [show min (j : Int).toNat IntKind.u64.bits = j from by show min j 64 = j; omega]
  rw [Int.one_mul, show (2 : Int) ^ j = ((2 ^ j : Nat) : Int) from by simp]
  exact u64_id (Int.natCast_nonneg _) (Int.ofNat_lt.2 hp)
theorem shr_bit (x j : Nat) (hx : x < 18446744073709551616) (hj : j < 64) : (Go.bits .and .u64 (shr .u64 (x : Int) (j : Int)) 1 == 1) = ((x / 2 ^ j) % 2 == 1) := by
  unfold shr
  rw [show min (j : Int).toNat IntKind.u64.bits = j from by show min j 64 = j; omega]
  rw [show (x : Int) / 2 ^ j = ((x / 2 ^ j : Nat) : Int) from by simp]
  have h := bits_and (x / 2 ^ j) 1 (Nat.lt_of_le_of_lt (Nat.div_le_self _ _) hx) (by decide)
  rw [show ((2 ^ 1 - 1 : Nat) : Int) = 1 from rfl] at h
  rw [h, show (2 : Nat) ^ 1 = 2 from rfl]
  rw [Bool.eq_iff_iff, beq_iff_eq, beq_iff_eq]
  omega
def nv (a : Ad) : Nat := a.f1.toNat * 18446744073709551616 + a.f2.toNat
def mkN (f : Bool) (n : Nat) : Ad := ⟨f, ((n / 18446744073709551616 : Nat) : Int), ((n % 18446744073709551616 : Nat) : Int)⟩
theorem mkN_nv {a : Ad} (h : AW a) : mkN a.f0 (nv a) = a := by
  obtain ⟨h1, h2, h3, h4⟩ := h
  obtain ⟨a0, a1, a2⟩ := a
  simp only at h1 h2 h3 h4
  unfold mkN nv
  simp only [Ad, S25.mk.injEq, true_and]
  exact ⟨by omega, by omega⟩
theorem nv_mkN (f : Bool) (n : Nat) : nv (mkN f n) = n := by unfold nv mkN; simp only [Int.toNat_natCast]; omega
theorem mkN_f0 (f : Bool) (n : Nat) : (mkN f n).f0 = f := rfl
theorem mkN_aw (f : Bool) {n : Nat} (h : n < 340282366920938463463374607431768211456) : AW (mkN f n) := by
  unfold AW mkN
  exact ⟨by simp; omega, by simp; omega, by simp; omega, by simp; omega⟩
theorem szA_cases (f : Bool) : szA f = 128 ∧ f = true ∨ szA f = 32 ∧ f = false := by cases f <;> simp [szA]
theorem AF.nvlt {a : Ad} (h : AF a) : nv a < 2 ^ szA a.f0 := by
  obtain ⟨⟨h1, h2, h3, h4⟩, h5⟩ := h
  unfold nv
  rcases szA_cases a.f0 with ⟨e, e2⟩ | ⟨e, e2⟩ <;> rw [e]
  · rw [show (2 : Nat) ^ 128 = 340282366920938463463374607431768211456 from by decide]; omega
  · rw [show (2 : Nat) ^ 32 = 4294967296 from by decide]
    rcases h5 with h5 | h5
    · rw [e2] at h5; cases h5
    · omega
theorem mkN_af {f : Bool} {n : Nat} (h : n < 2 ^ szA f) : AF (mkN f n) := by
  rcases szA_cases f with ⟨e, e2⟩ | ⟨e, e2⟩ <;> rw [e] at h
  · rw [show (2 : Nat) ^ 128 = 340282366920938463463374607431768211456 from by decide] at h
    exact ⟨mkN_aw f h, .inl e2⟩
  · rw [show (2 : Nat) ^ 32 = 4294967296 from by decide] at h
    exact ⟨mkN_aw f (by omega), .inr ⟨by unfold mkN; simp; omega, by unfold mkN; simp; omega⟩⟩
def subA (a : Ad) (k : Nat) (b : Bool) : Ad := mkN a.f0 (setN (nv a) k b)
theorem subA_f0 (a : Ad) (k : Nat) (b : Bool) : (subA a k b).f0 = a.f0 := rfl
theorem subA_af {a : Ad} (h : AF a) {k : Nat} (hk : k ≤ szA a.f0) (b : Bool) : AF (subA a k b) := mkN_af (setN_le b h.nvlt hk)
theorem setN_parts (x y k : Nat) (hy : y < 18446744073709551616) (hk : k ≤ 128) (b : Bool) : setN (x * 18446744073709551616 + y) k b / 18446744073709551616 = setN x (k - 64) b ∧ setN (x * 18446744073709551616 + y) k b % 18446744073709551616 = setN y (min k 64) b := by
  by_cases h : k ≤ 64
  · rw [show k - 64 = 0 from by omega, show min k 64 = k from by omega]
    have e : 18446744073709551616 = 2 ^ k * 2 ^ (64 - k) := by rw [← Nat.pow_add, show k + (64 - k) = 64 from by omega]
    have hm : (x * 18446744073709551616 + y) % 2 ^ k = y % 2 ^ k := by
      rw [e, show x * (2 ^ k * 2 ^ (64 - k)) + y = 2 ^ k * (x * 2 ^ (64 - k)) + y from by rw [Nat.mul_left_comm], Nat.mul_add_mod]
    have hl := setN_le (m := 64) b hy h
    unfold setN at hl ⊢
    rw [hm]
    have hle := Nat.mod_le y (2 ^ k)
    have e0 : x % 2 ^ 0 = 0 := by rw [Nat.pow_zero]; omega
    rw [e0, Nat.pow_zero]
    generalize y % 2 ^ k = r at *
    generalize 2 ^ k = p at *
    rw [show (2 : Nat) ^ 64 = 18446744073709551616 from by decide] at hl
    cases b
    · simp only [Bool.false_eq_true, if_false] at hl ⊢
      omega
    · simp only [if_true] at hl ⊢
      omega
  · rw [show min k 64 = 64 from by omega]
    have e : 2 ^ k = 18446744073709551616 * 2 ^ (k - 64) := by rw [show 18446744073709551616 = 2 ^ 64 from by decide, ← Nat.pow_add, show 64 + (k - 64) = k from by omega]
    have hm : (x * 18446744073709551616 + y) % 2 ^ k = y + 18446744073709551616 * (x % 2 ^ (k - 64)) := by
      rw [e, Nat.mod_mul]
      rw [show (x * 18446744073709551616 + y) % 18446744073709551616 = y from by omega, show (x * 18446744073709551616 + y) / 18446744073709551616 = x from by omega]
    have hp : 0 < 2 ^ (k - 64) := Nat.pow_pos (by decide)
    unfold setN
    rw [hm, e, show y % 2 ^ 64 = y from Nat.mod_eq_of_lt hy]
    have hle := Nat.mod_le x (2 ^ (k - 64))
    generalize x % 2 ^ (k - 64) = r at *
    generalize 2 ^ (k - 64) = p at *
    rw [show (2 : Nat) ^ 64 = 18446744073709551616 from by decide]
    cases b
    · simp only [Bool.false_eq_true, if_false]
      omega
    · simp only [if_true]
      omega
theorem subA_eq {a : Ad} (h : AW a) {k : Nat} (hk : k ≤ 128) (b : Bool) : subA a k b = ⟨a.f0, ((setN a.f1.toNat (k - 64) b : Nat) : Int), ((setN a.f2.toNat (min k 64) b : Nat) : Int)⟩ := by
  obtain ⟨h1, h2, h3, h4⟩ := h
  have := setN_parts a.f1.toNat a.f2.toNat k (by omega) hk b
  unfold subA mkN nv
  rw [this.1, this.2]
theorem maskOff {a : Ad} (h : AW a) {k : Nat} (hk : k ≤ 128) : Go.bits .andNot .u64 a.f1 (hiM k) = (subA a k false).f1 ∧ Go.bits .andNot .u64 a.f2 (loM k) = (subA a k false).f2 := by
  rw [subA_eq h hk]
  obtain ⟨h1, h2, h3, h4⟩ := h
  have e1 := bits_andNot a.f1.toNat (k - 64) (by omega) (by omega)
  have e2 := bits_andNot a.f2.toNat (min k 64) (by omega) (by omega)
  rw [show ((a.f1.toNat : Nat) : Int) = a.f1 from by omega] at e1
  rw [show ((a.f2.toNat : Nat) : Int) = a.f2 from by omega] at e2
  exact ⟨e1, e2⟩
end Go.Proofs.YtlgfinnldhjgeaaDoor.Q
end

section
set_option linter.unusedVariables false
set_option linter.unusedSimpArgs false
namespace Go.Proofs.YtlgfinnldhjgeaaDoor.Q
open Go.RowKit Go.Proofs.YtlgfinnldhjgeaaDoorW.PrintWords Go.Proofs.YtlgfinnldhjgeaaDoorW.PrintLast Go.Proofs.YtlgfinnldhjgeaaDoorW.PrintMore
theorem width_eq (a : Ad) : intrusionref06_Width.f a.f0 a.f1 a.f2 = some ((szA a.f0 : Nat) : Int) := by
  unfold intrusionref06_Width.f szA
  cases a.f0 <;> rfl
theorem szA_le (f : Bool) : szA f ≤ 128 := by unfold szA; split <;> omega
theorem u64_wr {x : Int} (h0 : 0 ≤ x) (h1 : x ≤ 1000) : IntKind.u64.wrap (wrap64 x) = x := by rw [wid (by omega) (by omega)]; exact u64_id h0 (by omega)
theorem nv_bit_hi (x y j : Nat) (hy : y < 18446744073709551616) : (x * 18446744073709551616 + y) / 2 ^ (64 + j) = x / 2 ^ j := by
  rw [Nat.pow_add, ← Nat.div_div_eq_div_mul, show (2 : Nat) ^ 64 = 18446744073709551616 from by decide, show (x * 18446744073709551616 + y) / 18446744073709551616 = x from by omega]
theorem nv_bit_lo (x y j : Nat) (hj : j < 64) (hy : y < 18446744073709551616) : ((x * 18446744073709551616 + y) / 2 ^ j) % 2 = (y / 2 ^ j) % 2 := by
  have e : 18446744073709551616 = 2 ^ j * (2 * 2 ^ (63 - j)) := by rw [show 2 * 2 ^ (63 - j) = 2 ^ (64 - j) from by rw [show 64 - j = (63 - j) + 1 from by omega, Nat.pow_succ, Nat.mul_comm], ← Nat.pow_add, show j + (64 - j) = 64 from by omega]
  rw [e, show x * (2 ^ j * (2 * 2 ^ (63 - j))) + y = y + 2 ^ j * (2 * (x * 2 ^ (63 - j))) from by rw [Nat.add_comm, Nat.mul_left_comm, Nat.mul_left_comm x 2], Nat.add_mul_div_left _ _ (Nat.pow_pos (by decide)), Nat.add_mul_mod_self_left]
theorem bit_eq {a : Ad} (h : AF a) (r i : Nat) (hr : i + (r + 1) = szA a.f0) : intrusionref06_Bit.f a.f0 a.f1 a.f2 (i : Int) = some ((nv a / 2 ^ r) % 2 == 1) := by
  obtain ⟨⟨h1, h2, h3, h4⟩, h5⟩ := h
  obtain ⟨a0, a1, a2⟩ := a
  simp only at h1 h2 h3 h4 h5 hr
  have e1 : ((a1.toNat : Nat) : Int) = a1 := by omega
  have e2 : ((a2.toNat : Nat) : Int) = a2 := by omega
  unfold intrusionref06_Bit.f nv
  cases a0
  · have hr : i + (r + 1) = 32 := hr
    simp only [Bool.false_eq_true, if_false]
    rw [u64_wr (by omega) (by omega), if_pos (by omega)]
    have := shr_bit a2.toNat r (by omega) (by omega)
    rw [e2] at this
    rw [show (31 - (i : Int)) = (r : Int) from by omega, this, nv_bit_lo _ _ _ (by omega) (by omega)]
  · have hr : i + (r + 1) = 128 := hr
    simp only [if_true]
    by_cases hi : (i : Int) < 64
    · rw [if_pos hi, u64_wr (by omega) (by omega), if_pos (by omega)]
      obtain ⟨j, rfl⟩ : ∃ j, r = 64 + j := ⟨r - 64, by omega⟩
      have := shr_bit a1.toNat j (by omega) (by omega)
      rw [e1] at this
      rw [show (63 - (i : Int)) = (j : Int) from by omega, this, nv_bit_hi _ _ _ (by omega)]
    · rw [if_neg hi, u64_wr (by omega) (by omega), if_pos (by omega)]
      have := shr_bit a2.toNat r (by omega) (by omega)
      rw [e2] at this
      rw [show (127 - (i : Int)) = (r : Int) from by omega, this, nv_bit_lo _ _ _ (by omega) (by omega)]
theorem xor_hi (x y j : Nat) (hy : y < 18446744073709551616) : (x * 18446744073709551616 + y) ^^^ 2 ^ (64 + j) = (x ^^^ 2 ^ j) * 18446744073709551616 + y := by
  have h1 : ((x * 18446744073709551616 + y) ^^^ 2 ^ (64 + j)) / 2 ^ 64 = x ^^^ 2 ^ j := by
    rw [Nat.xor_div_two_pow, Nat.pow_add, Nat.mul_div_cancel_left _ (Nat.pow_pos (by decide)), show (2 : Nat) ^ 64 = 18446744073709551616 from by decide, show (x * 18446744073709551616 + y) / 18446744073709551616 = x from by omega]
  have h2 : ((x * 18446744073709551616 + y) ^^^ 2 ^ (64 + j)) % 2 ^ 64 = y := by
    rw [Nat.xor_mod_two_pow, Nat.pow_add, Nat.mul_mod_right, Nat.xor_zero, show (2 : Nat) ^ 64 = 18446744073709551616 from by decide]
    omega
  have d1 := Nat.div_add_mod ((x * 18446744073709551616 + y) ^^^ 2 ^ (64 + j)) (2 ^ 64)
  rw [h1, h2] at d1
  rw [← d1, show (2 : Nat) ^ 64 = 18446744073709551616 from by decide, Nat.mul_comm]
theorem xor_lo (x y j : Nat) (hj : j < 64) (hy : y < 18446744073709551616) : (x * 18446744073709551616 + y) ^^^ 2 ^ j = x * 18446744073709551616 + (y ^^^ 2 ^ j) := by
  have hp : 2 ^ j < 2 ^ 64 := Nat.pow_lt_pow_right (by decide) hj
  have h1 : ((x * 18446744073709551616 + y) ^^^ 2 ^ j) / 2 ^ 64 = x := by
    rw [Nat.xor_div_two_pow, Nat.div_eq_of_lt hp, Nat.xor_zero, show (2 : Nat) ^ 64 = 18446744073709551616 from by decide]
    omega
  have h2 : ((x * 18446744073709551616 + y) ^^^ 2 ^ j) % 2 ^ 64 = y ^^^ 2 ^ j := by
    rw [Nat.xor_mod_two_pow, Nat.mod_eq_of_lt hp]
    rw [show (x * 18446744073709551616 + y) % 2 ^ 64 = y from by rw [show (2 : Nat) ^ 64 = 18446744073709551616 from by decide]; omega]
  have d1 := Nat.div_add_mod ((x * 18446744073709551616 + y) ^^^ 2 ^ j) (2 ^ 64)
  rw [h1, h2] at d1
  rw [← d1, show (2 : Nat) ^ 64 = 18446744073709551616 from by decide, Nat.mul_comm]
theorem r_up {i : Nat} (h : i < 1000) : wrap64 ((i : Int) + 1) = ((i + 1 : Nat) : Int) := by rw [wid (by omega) (by omega)]; omega
theorem flip_lo {f : Bool} {x y : Int} {r : Nat} (h1 : 0 ≤ x) (h2 : x < 18446744073709551616) (h3 : 0 ≤ y) (h4 : y < 18446744073709551616) (hr : r < 64) : mkN f ((x.toNat * 18446744073709551616 + y.toNat) ^^^ 2 ^ r) = ⟨f, x, Go.bits .xor .u64 y (shl .u64 1 (r : Int))⟩ := by
  have hl : (y.toNat ^^^ 2 ^ r) < 2 ^ 64 := Nat.xor_lt_two_pow (by omega) (Nat.pow_lt_pow_right (by decide) hr)
  rw [show (2 : Nat) ^ 64 = 18446744073709551616 from by decide] at hl
  have := bits_xor y.toNat r (by omega) hr
  rw [show ((y.toNat : Nat) : Int) = y from by omega] at this
  rw [shl_pow r hr, this]
  unfold mkN
  rw [xor_lo _ _ _ hr (by omega)]
  generalize y.toNat ^^^ 2 ^ r = z at *
  simp only [Ad, S25.mk.injEq, true_and]
  exact ⟨by omega, by omega⟩
theorem flip_hi {f : Bool} {x y : Int} {r : Nat} (h1 : 0 ≤ x) (h2 : x < 18446744073709551616) (h3 : 0 ≤ y) (h4 : y < 18446744073709551616) (hr : r < 64) : mkN f ((x.toNat * 18446744073709551616 + y.toNat) ^^^ 2 ^ (64 + r)) = ⟨f, Go.bits .xor .u64 x (shl .u64 1 (r : Int)), y⟩ := by
  have hl : (x.toNat ^^^ 2 ^ r) < 2 ^ 64 := Nat.xor_lt_two_pow (by omega) (Nat.pow_lt_pow_right (by decide) hr)
  rw [show (2 : Nat) ^ 64 = 18446744073709551616 from by decide] at hl
  have := bits_xor x.toNat r (by omega) hr
  rw [show ((x.toNat : Nat) : Int) = x from by omega] at this
  rw [shl_pow r hr, this]
  unfold mkN
  rw [xor_hi _ _ _ (by omega)]
  generalize x.toNat ^^^ 2 ^ r = z at *
  simp only [Ad, S25.mk.injEq, true_and]
  exact ⟨by omega, by omega⟩
theorem with_flip {b : Bool} {a : Ad} (h : AF a) {r i : Nat} (hr : i + (r + 1) = szA a.f0) (hb : ¬ ((nv a / 2 ^ r) % 2 == 1) = b) (k : Nat) : intrusionref06_with.l0 (k + 1) b (i : Int) a.f0 a.f1 a.f2 = intrusionref06_with.l0 k b ((i + 1 : Nat) : Int) (mkN a.f0 (nv a ^^^ 2 ^ r)).f0 (mkN a.f0 (nv a ^^^ 2 ^ r)).f1 (mkN a.f0 (nv a ^^^ 2 ^ r)).f2 := by
  have hW := szA_le a.f0
  have hi : (i : Int) < ((szA a.f0 : Nat) : Int) := by omega
  have hwi : wrap64 ((i : Int) + 1) = ((i + 1 : Nat) : Int) := r_up (by omega)
  rw [intrusionref06_with.l0, width_eq]
  rw [Option.bind_some]
  rw [if_pos hi, bit_eq h r i hr]
  rw [Option.bind_some]
  rw [if_neg (by rw [beq_iff_eq]; exact hb), hwi]
  clear hb hi hwi
  obtain ⟨⟨h1, h2, h3, h4⟩, h5⟩ := h
  obtain ⟨a0, a1, a2⟩ := a
  unfold nv
  dsimp only at h1 h2 h3 h4 h5 hr hW ⊢
  cases a0
  · have hr : i + (r + 1) = 32 := hr
    rw [if_neg Bool.false_ne_true, u64_wr (by omega) (by omega), if_pos (by omega), show (31 - (i : Int)) = (r : Int) from by omega, flip_lo h1 h2 h3 h4 (by omega)]
  · have hr : i + (r + 1) = 128 := hr
    rw [if_pos rfl]
    by_cases hi6 : (i : Int) < 64
    · rw [if_pos hi6, u64_wr (by omega) (by omega), if_pos (by omega)]
      obtain ⟨j, rfl⟩ : ∃ j, r = 64 + j := ⟨r - 64, by omega⟩
      rw [show (63 - (i : Int)) = (j : Int) from by omega, flip_hi h1 h2 h3 h4 (by omega)]
    · rw [if_neg hi6, u64_wr (by omega) (by omega), if_pos (by omega), show (127 - (i : Int)) = (r : Int) from by omega, flip_lo h1 h2 h3 h4 (by omega)]
theorem with_ev (b : Bool) : ∀ (r i : Nat) (a : Ad), AF a → i + r = szA a.f0 → Ev (fun k => intrusionref06_with.l0 k b (i : Int) a.f0 a.f1 a.f2) ((subA a r b).f0, (subA a r b).f1, (subA a r b).f2)
  | 0, i, a, h, hr => by
    refine Ev.step (f := fun _ => some (a.f0, a.f1, a.f2)) (fun k => ?_) ?_
    · rw [intrusionref06_with.l0, width_eq]
      rw [Option.bind_some]
      rw [if_neg (by omega)]
    · have e : subA a 0 b = a := by
        unfold subA setN
        rw [Nat.pow_zero, Nat.mod_one]
        cases b
        · simpa using mkN_nv h.1
        · simpa using mkN_nv h.1
      rw [e]
      exact Ev.now _
  | r + 1, i, a, h, hr => by
    have hW := szA_le a.f0
    have hi : (i : Int) < ((szA a.f0 : Nat) : Int) := by omega
    have hnl := h.nvlt
    by_cases hb : ((nv a / 2 ^ r) % 2 == 1) = b
    · have ih := with_ev b r (i + 1) a h (by omega)
      have e : subA a r b = subA a (r + 1) b := by
        unfold subA
        rw [← setN_flip, flipN, if_pos hb]
      rw [e] at ih
      refine Ev.step (fun k => ?_) ih
      rw [intrusionref06_with.l0, width_eq]
      rw [Option.bind_some]
      rw [if_pos hi, bit_eq h r i hr]
      rw [Option.bind_some]
      rw [if_pos (by rw [hb]; exact beq_self_eq_true b), show wrap64 ((i : Int) + 1) = ((i + 1 : Nat) : Int) from r_up (by omega)]
    · have hx : nv a ^^^ 2 ^ r < 2 ^ szA a.f0 := Nat.xor_lt_two_pow hnl (Nat.pow_lt_pow_right (by decide) (by omega))
      have ih := with_ev b r (i + 1) (mkN a.f0 (nv a ^^^ 2 ^ r)) (mkN_af hx) (by rw [mkN_f0]; omega)
      have e : subA (mkN a.f0 (nv a ^^^ 2 ^ r)) r b = subA a (r + 1) b := by
        unfold subA
        rw [nv_mkN, mkN_f0, ← setN_flip, flipN, if_neg hb]
      rw [e] at ih
      exact Ev.step (with_flip h hr hb) ih
def restN (a : Ad) (b : Int) : Nat := szA a.f0 - b.toNat
theorem withf_ev {a : Ad} (h : AF a) {b : Int} (h0 : 0 ≤ b) (h1 : b ≤ szA a.f0) (o : Bool) : Ev (fun k => intrusionref06_with.f k a.f0 a.f1 a.f2 b o) ((subA a (restN a b) o).f0, (subA a (restN a b) o).f1, (subA a (restN a b) o).f2) := by
  have := with_ev o (restN a b) b.toNat a h (by unfold restN; omega)
  rw [show ((b.toNat : Nat) : Int) = b from by omega] at this
  exact this
theorem mkp_eq {a : Ad} (h : AW a) {b : Int} (h0 : 0 ≤ b) (h1 : b ≤ szA a.f0) : address_MakePrefix.f a.f0 a.f1 a.f2 b = some (a.f0, (subA a (restN a b) false).f1, (subA a (restN a b) false).f2, b, 0) := by
  have hs := szA_le a.f0
  have := maskOff h (k := restN a b) (by unfold restN; omega)
  unfold address_MakePrefix.f
  rw [if_neg (by omega), size_eq]
  rw [Option.bind_some]
  rw [if_neg (by omega), mask_eq a b (restN a b) (by unfold restN; omega) h0 h1]
  rw [Option.bind_some]
  rw [this.1, this.2]
theorem mkp_out {a : Ad} {b : Int} (h : ¬ (0 ≤ b ∧ b ≤ szA a.f0)) : address_MakePrefix.f a.f0 a.f1 a.f2 b = some (false, 0, 0, 0, 4) := by
  unfold address_MakePrefix.f
  by_cases h0 : b < 0
  · rw [if_pos h0]
  · rw [if_neg h0, size_eq]
    rw [Option.bind_some]
    rw [if_pos (by omega)]
theorem rmkp_ev {a : Ad} (h : AF a) {b : Int} (h0 : 0 ≤ b) (h1 : b ≤ szA a.f0) : Ev (fun k => intrusionref06_MakePrefix.f k a.f0 a.f1 a.f2 b) (a.f0, (subA a (restN a b) false).f1, (subA a (restN a b) false).f2, b, 0) := by
  refine Ev.congr (g := fun k => intrusionref06_MakePrefix.f k a.f0 a.f1 a.f2 b) (f := fun k => (intrusionref06_with.f k a.f0 a.f1 a.f2 b false).bind fun t => some (t.1, t.2.1, t.2.2, b, 0)) (fun k => ?_) ?_
  · unfold intrusionref06_MakePrefix.f
    rw [if_neg (by omega), width_eq]
    rw [Option.bind_some]
    rw [if_neg (by omega)]
  · exact Ev.bind (withf_ev h h0 h1 false) (Ev.now _)
theorem rmkp_out {a : Ad} {b : Int} (h : ¬ (0 ≤ b ∧ b ≤ szA a.f0)) (k : Nat) : intrusionref06_MakePrefix.f k a.f0 a.f1 a.f2 b = some (false, 0, 0, 0, 4) := by
  unfold intrusionref06_MakePrefix.f
  by_cases h0 : b < 0
  · rw [if_pos h0]
  · rw [if_neg h0, width_eq]
    rw [Option.bind_some]
    rw [if_pos (by omega)]
theorem con_far {p x : Ad} {b : Int} (h : p.f0 ≠ x.f0) : address_Contains.f p.f0 p.f1 p.f2 b x.f0 x.f1 x.f2 = some false := by
  unfold address_Contains.f
  rw [if_pos (bne_iff_ne.2 h)]
theorem con_eq {p x : Ad} (hp : AW p) (hx : AW x) {b : Int} (h : p.f0 = x.f0) (h0 : 0 ≤ b) (h1 : b ≤ szA p.f0) : address_Contains.f p.f0 p.f1 p.f2 b x.f0 x.f1 x.f2 = some (decide (subA x (restN p b) false = subA p (restN p b) false)) := by
  have hs := szA_le p.f0
  have hk : restN p b ≤ 128 := by unfold restN; omega
  have e1 := maskOff hp hk
  have e2 := maskOff hx hk
  unfold address_Contains.f
  rw [if_neg (by rw [h]; simp), mask_eq x b (restN p b) (by unfold restN; rw [← h]; omega) h0 (by rw [← h]; exact h1)]
  rw [Option.bind_some]
  rw [e1.1, e1.2, e2.1, e2.2]
  by_cases c : (subA x (restN p b) false).f1 = (subA p (restN p b) false).f1
  · rw [if_pos c]
    congr 1
    rw [Bool.eq_iff_iff, beq_iff_eq, decide_eq_true_eq]
    constructor
    · intro c2
      have : ∀ u v : Ad, u.f0 = v.f0 → u.f1 = v.f1 → u.f2 = v.f2 → u = v := fun u v g0 g1 g2 => by cases u; cases v; simp at g0 g1 g2; simp [g0, g1, g2]
      exact this _ _ (by rw [subA_f0, subA_f0, h]) c c2
    · intro e; rw [e]
  · rw [if_neg c]
    have : ¬ (subA x (restN p b) false = subA p (restN p b) false) := fun e => c (by rw [e])
    rw [decide_eq_false this]
theorem rcon_far {p x : Ad} {b : Int} (h : p.f0 ≠ x.f0) (k : Nat) : intrusionref06_Contains.f k p.f0 p.f1 p.f2 b x.f0 x.f1 x.f2 = some false := by
  unfold intrusionref06_Contains.f
  rw [if_neg (by rw [beq_iff_eq]; exact h)]
theorem rcon_ev {p x : Ad} (hx : AF x) {b : Int} (h : p.f0 = x.f0) (h0 : 0 ≤ b) (h1 : b ≤ szA p.f0) : Ev (fun k => intrusionref06_Contains.f k p.f0 p.f1 p.f2 b x.f0 x.f1 x.f2) (decide (subA x (restN p b) false = p)) := by
  refine Ev.congr (g := fun k => intrusionref06_Contains.f k p.f0 p.f1 p.f2 b x.f0 x.f1 x.f2) (f := fun k => (intrusionref06_with.f k x.f0 x.f1 x.f2 b false).bind fun t => some (t.1 == p.f0 && (t.2.1 == p.f1 && (t.2.2 == p.f2)))) (fun k => ?_) ?_
  · unfold intrusionref06_Contains.f
    rw [if_pos (by rw [h]; exact beq_self_eq_true _)]
  · have e : restN p b = restN x b := by unfold restN; rw [h]
    rw [e, ← ends_eq]
    exact Ev.bind (withf_ev hx h0 (by rw [← h]; exact h1) false) (Ev.now _)
theorem setN_idem (n k : Nat) (b c : Bool) : setN (setN n k b) k c = setN n k c := by
  have d1 := Nat.div_add_mod n (2 ^ k)
  have hp : 0 < 2 ^ k := Nat.pow_pos (by decide)
  have g : ∀ m d, setN m k d = 2 ^ k * (m / 2 ^ k) + (if d then 2 ^ k - 1 else 0) := fun m d => by
    have := Nat.div_add_mod m (2 ^ k)
    unfold setN
    omega
  rw [g _ c, g n c, g n b]
  congr 2
  cases b
  · simp only [Bool.false_eq_true, if_false, Nat.add_zero]
    exact Nat.mul_div_cancel_left _ hp
  · simp only [if_true]
    rw [Nat.mul_add_div hp, Nat.div_eq_of_lt (Nat.sub_lt hp (by decide)), Nat.add_zero]
theorem subA_idem {a : Ad} (k : Nat) (b c : Bool) : subA (subA a k b) k c = subA a k c := by
  unfold subA
  rw [nv_mkN, mkN_f0, setN_idem]
end Go.Proofs.YtlgfinnldhjgeaaDoor.Q
end

section
set_option linter.unusedVariables false
set_option linter.unusedSimpArgs false
namespace Go.Proofs.YtlgfinnldhjgeaaDoor.Q
open Go.RowKit Go.Proofs.YtlgfinnldhjgeaaDoorW.PrintWords Go.Proofs.YtlgfinnldhjgeaaDoorW.PrintLast Go.Proofs.YtlgfinnldhjgeaaDoorW.PrintMore
theorem wrap_zero {n : Int} (g0 : 0 ≤ n) (g1 : n < 18446744073709551616) : IntKind.u64.wrap (n + 1) = 0 ↔ n = 18446744073709551615 := by
  constructor
  · intro e
    by_cases c : n + 1 = 18446744073709551616
    · omega
    · rw [u64_id (by omega) (by omega)] at e; omega
  · intro e; subst e; exact u64_top
theorem rnext_eq {a : Ad} (h : AF a) (k : Nat) : intrusionref06_Next.f (k + 1) a.f0 a.f1 a.f2 = address_Next.f a.f0 a.f1 a.f2 := by
  rw [next_eq a h]
  obtain ⟨⟨h1, h2, h3, h4⟩, h5⟩ := h
  obtain ⟨a0, a1, a2⟩ := a
  simp only at h1 h2 h3 h4 h5
  unfold intrusionref06_Next.f
  cases a0
  · simp only [Bool.false_eq_true, false_or] at h5
    rw [if_neg Bool.false_ne_true, intrusionref06_Next.j0, if_neg Bool.false_ne_true, if_neg Bool.false_ne_true]
    unfold topA nextA
    have e : IntKind.u64.wrap (a2 + 1) = a2 + 1 := u64_id (by omega) (by omega)
    rw [e]
    obtain ⟨rfl, h6⟩ := h5
    by_cases c : a2 = 4294967295
    · subst c
      simp
    · have c1 : ¬ (a2 + 1 = 4294967296) := by omega
      have c2 : ¬ (a2 + 1 = 0) := by omega
      simp [c, c1, c2]
  · rw [if_pos rfl, intrusionref06_Next.j0]
    have w2 := wrap_zero h3 h4
    have w1 := wrap_zero h1 h2
    unfold topA nextA
    by_cases c : IntKind.u64.wrap (a2 + 1) = 0
    · rw [c]
      have c2 := w2.1 c
      by_cases d : IntKind.u64.wrap (a1 + 1) = 0
      · have d2 := w1.1 d
        simp [d, c2, d2, u64_top]
      · have d2 : ¬ a1 = 18446744073709551615 := fun e => d (w1.2 e)
        simp [d, d2]
    · have c2 : ¬ a2 = 18446744073709551615 := fun e => c (w2.2 e)
      simp [c, c2]
theorem rprev_eq (a : Ad) (k : Nat) : intrusionref06_Previous.f (k + 1) a.f0 a.f1 a.f2 = address_Previous.f a.f0 a.f1 a.f2 := by
  obtain ⟨a0, a1, a2⟩ := a
  unfold intrusionref06_Previous.f address_Previous.f
  by_cases c : a2 = 0
  · by_cases d : a1 = 0
    · simp [c, d, intrusionref06_Previous.j0]
    · simp [c, d, intrusionref06_Previous.j0]
  · simp [c, intrusionref06_Previous.j0]
end Go.Proofs.YtlgfinnldhjgeaaDoor.Q
end

section
set_option linter.unusedVariables false
set_option linter.unusedSimpArgs false
namespace Go.Proofs.YtlgfinnldhjgeaaDoor.Pure
open Go.RowKit Go.Proofs.YtlgfinnldhjgeaaDoor.Q Go.Proofs.YtlgfinnldhjgeaaDoorW.PrintWords Go.Proofs.YtlgfinnldhjgeaaDoorW.PrintLast
theorem orders_j1 {a c : Ad} (ha : AF a) (hc : AF c) (b : Int) : Ev (fun k => intrusionlaw06_AddressOrders.j1 (k + 2) b false a.f0 a.f1 a.f2 c.f0 c.f1 c.f2) true := by
  by_cases hb : 0 ≤ b ∧ b ≤ szA c.f0
  · obtain ⟨h0, h1⟩ := hb
    have hk : restN c b ≤ szA c.f0 := by unfold restN; omega
    have hp : AF (subA c (restN c b) false) := subA_af hc hk false
    obtain ⟨p, hpe⟩ : ∃ p, subA c (restN c b) false = p := ⟨_, rfl⟩
    have hpf : c.f0 = p.f0 := by rw [← hpe]; rfl
    have hr : restN p b = restN c b := by unfold restN; rw [hpf]
    have hpp : subA p (restN c b) false = p := by rw [← hpe, subA_idem]
    rw [hpe] at hp
    have h1p : b ≤ szA p.f0 := by rw [← hpf]; exact h1
    obtain ⟨K1, e1⟩ := rmkp_ev hc h0 h1
    rw [hpe] at e1
    have e2 : ∃ r, address_Contains.f c.f0 p.f1 p.f2 b a.f0 a.f1 a.f2 = some r ∧ Ev (fun k => intrusionref06_Contains.f k c.f0 p.f1 p.f2 b a.f0 a.f1 a.f2) r := by
      rw [hpf]
      by_cases hf : p.f0 = a.f0
      · refine ⟨_, con_eq hp.1 ha.1 hf h0 h1p, ?_⟩
        have := rcon_ev ha hf h0 h1p
        rw [hr] at this ⊢
        rw [hpp]
        exact this
      · exact ⟨false, con_far hf, 0, fun k _ => rcon_far hf k⟩
    obtain ⟨r, e3, K2, e4⟩ := e2
    refine ⟨K1 + K2, fun k hk => ?_⟩
    dsimp only
    rw [intrusionlaw06_AddressOrders.j1, if_neg Bool.false_ne_true, rprev_eq]
    obtain ⟨r1, r2, r3, r4, er⟩ : ∃ r1 r2 r3 r4, address_Previous.f a.f0 a.f1 a.f2 = some (r1, r2, r3, r4) := by
      unfold address_Previous.f
      split <;> exact ⟨_, _, _, _, rfl⟩
    have f1 := e1 (k + 1) (by omega)
    have f4 := e4 (k + 1) (by omega)
    dsimp only at f1 f4
    rw [er, Option.bind_some, Option.bind_some, f1, Option.bind_some]
    dsimp only
    rw [e3, f4]
    simp [intrusionlaw06_lives.f]
  · refine ⟨0, fun k _ => ?_⟩
    dsimp only
    rw [intrusionlaw06_AddressOrders.j1, if_neg Bool.false_ne_true, rprev_eq]
    obtain ⟨r1, r2, r3, r4, er⟩ : ∃ r1 r2 r3 r4, address_Previous.f a.f0 a.f1 a.f2 = some (r1, r2, r3, r4) := by
      unfold address_Previous.f
      split <;> exact ⟨_, _, _, _, rfl⟩
    rw [er, Option.bind_some, Option.bind_some, rmkp_out hb, Option.bind_some]
    simp [intrusionlaw06_lives.f]
theorem AddressOrders : ∀ (x0 : Ad) (x1 : Ad) (a2 : Int), q25 x0 → q25 x1 → (Lit.int .i64 a2).wf = true → ∃ k, intrusionlaw06_AddressOrders.f k x0.f0 x0.f1 x0.f2 x1.f0 x1.f1 x1.f2 a2 = some true := by
  intro a c b ha hc _
  unfold intrusionlaw06_AddressOrders.f
  rw [rfine_eq a, rfine_eq c]
  simp only [Option.bind_some]
  have hJ : intrusionlaw06_AddressOrders.j0 2 b true a.f0 a.f1 a.f2 c.f0 c.f1 c.f2 = some true := by rw [intrusionlaw06_AddressOrders.j0, if_pos rfl]; rfl
  cases ea : fineB a
  · exact ⟨2, by simpa using hJ⟩
  · cases ec : fineB c
    · exact ⟨2, by simpa using hJ⟩
    · have fa := (fine_iff (aw_of ha)).1 ea
      have fc := (fine_iff (aw_of hc)).1 ec
      obtain ⟨K, e⟩ := orders_j1 fa fc b
      refine ⟨K + 3, ?_⟩
      rw [if_pos rfl, Bool.not_true, intrusionlaw06_AddressOrders.j0, if_neg Bool.false_ne_true, rnext_eq fa]
      obtain ⟨r1, r2, r3, r4, er⟩ : ∃ r1 r2 r3 r4, address_Next.f a.f0 a.f1 a.f2 = some (r1, r2, r3, r4) := by
        rw [next_eq a fa]
        split <;> exact ⟨_, _, _, _, rfl⟩
      rw [er, Option.bind_some, Option.bind_some, cmp_f a c, rcmp_eq a c, Option.bind_some, Option.bind_some]
      have := e K (Nat.le_refl _)
      dsimp only at this
      simp [this]
end Go.Proofs.YtlgfinnldhjgeaaDoor.Pure
end

section
set_option linter.unusedVariables false
namespace Go.Proofs.YtlgfinnldhjgeaaDoor.Q
open Go.RowKit
theorem returns_laid {H : Type} {enc : TypeId × Value → H} {a : Assume} {C : Checked} {os : Os} {f : FuncId} {fn : Func} {s : ChangeSpec} {conds : List PathCond} {apart fresh handsOn again : Bool} {X : World → Array Value → Prop}
    (hX : ∀ (w w' : World) (args : Array Value), w.heap = w'.heap → X w args → X w' args)
    (own : ownKnob C.prog.godebug = none) (started : os.Started) (noInit : C.prog.inits.idxOf? f = none) (hfn : C.prog.funcs[f]? = some fn)
    (witness : ∃ (w : World) (tape : Tape) (i : Input), w.os = os ∧ (w.forCall tape i).Shaped C.prog ∧ i.vars = [] ∧ Input.okWide C.prog (w.forCall tape i) .any w.heap.size f i ∧
      ((s.pre enc C.prog fn conds apart (w.forCall tape i).memory i.args ∧ X (w.forCall tape i).memory i.args) ∧ sizedMet enc C.prog fn (OpenSpec.ofChange s) apart (w.forCall tape i).memory i.args) ∧ a.holds C.prog (lone (Frame.enter C.prog f i.args .normal) [] (w.forCall tape i)))
    (contract : ∀ (W : World) (base : Nat) (args : Array Value) (ds gs : List (DataW H)) (before : List MemPlace),
      (∀ (j : Nat) t v, fn.params[j]? = some t → args[j]? = some v → Value.okWide C.prog W .any base t v) →
      DataW.Whole enc C.prog fn.params.toList s.vars apart W args.toList ds gs before →
      conds.all (PathCond.test C.prog ⟨fn.params.toList, ds, s.plain.varTypes C.prog, gs⟩) = true →
      (DataW.weightsEach C.prog (fn.params.toList ++ s.plain.varTypes C.prog) (ds ++ gs)).all (· ≤ reachBytes) = true → X W args → W.ShapedOpen C.prog →
      a.holds C.prog (lone (Frame.enter C.prog f args .normal) [] W) →
      Calls C.prog f args W fun e W' => ∃ v, e = .returned v ∧ s.post enc C.prog fn apart fresh handsOn again W args v W') :
    ReturnsInHanded a C os f .any (fun w args => (s.pre enc C.prog fn conds apart w args ∧ X w args) ∧ sizedMet enc C.prog fn (OpenSpec.ofChange s) apart w args) (s.post enc C.prog fn apart fresh handsOn again) := by
  refine returnsInHanded_of_calls own started noInit witness ?_
  intro w tape i _ hsh _ hok hpre hholds
  obtain ⟨_, _, _, fn', hfn', _, _, _, _, hval⟩ := hok
  have e : fn' = fn := Option.some.inj (hfn'.symm.trans hfn)
  subst e
  obtain ⟨⟨⟨ds, gs, before, hw, hc⟩, hx⟩, hz⟩ := hpre
  have hw' := DataW.Whole.of_heap (w' := w.forCall tape i) (by rfl) hw
  refine (contract (w.forCall tape i) w.heap.size i.args ds gs before hval hw' hc (hz.weights hw) (hX _ _ _ (by rfl) hx) hsh hholds).mono fun e W' ⟨v, he, hp⟩ => ?_
  subst he
  exact ChangeSpec.post_blind hp
theorem laidVars_at {P : Program} {W : World} : ∀ {laid : List (String × DataW Unit)} {ps : List MemPlace}, DataW.LaidVars P W laid ps → ∀ (i : Nat) (n : String) (d : DataW Unit), laid[i]? = some (n, d) →
    ∃ g t cs fuel p, P.globalNamed n = some g ∧ (P.globals[g]?).map (·.type) = some t ∧ W.var? P n = some cs ∧ DataW.trod (fun _ => ()) P W 0 (fun _ => true) false fuel t cs.toList = some (d, p)
  | [], _, _, i, _, _, h => by simp at h
  | (m, c) :: r, ps, h, i, n, d, hi => by
    obtain ⟨g, t, cs, fuel, p, q, h1, h2, h3, h4, h5, _⟩ := h
    cases i with
    | zero =>
      simp only [List.getElem?_cons_zero, Option.some.injEq, Prod.mk.injEq] at hi
      obtain ⟨rfl, rfl⟩ := hi
      exact ⟨g, t, cs, fuel, p, h1, h2, h3, h4⟩
    | succ j => exact laidVars_at h5 j n d (by simpa using hi)
theorem tabIs_at {P : Program} {W : World} {laid : List (String × DataW Unit)} {name : String} {k : IntKind} {zs : List Int} {g : Nat} {t e : TypeId} {n : Nat} (i : Nat) (hi : laid[i]? = some (name, Lib.tabData k zs))
    (hg : P.globalNamed name = some g) (hty : (P.globals[g]?).map (·.type) = some t) (ht : P.underlying t = some (.array n e)) (he : P.underlying e = some (.int k)) (hce : P.cellsOf e = 1) (hct : P.cellsOf t = n)
    (h : laidMet P laid W) : Lib.TabIs P W name k zs := by
  obtain ⟨ps, h, _⟩ := h
  obtain ⟨g', t', cs, fuel, p, hg', ht', hvar, hd⟩ := laidVars_at h i _ _ hi
  obtain rfl := Option.some.inj (hg.symm.trans hg')
  obtain rfl := Option.some.inj (hty.symm.trans ht')
  unfold Lib.TabIs
  rw [hvar, ← Lib.cells_of_tab ht he hce hct hd]
def laidL : List (String × DataW Unit) := [("math/bits.deBruijn32tab", Rows.laid_math_bits_deBruijn32tab), ("math/bits.deBruijn64tab", Rows.laid_math_bits_deBruijn64tab), ("internal/strconv.uint64pow10", Rows.laid_internal_strconv_uint64pow10), ("unicode/utf8.acceptRanges", Rows.laid_unicode_utf8_acceptRanges), ("unicode/utf8.first", Rows.laid_unicode_utf8_first)]
theorem wok_of {W : World} (h : laidMetH Tryd.prog laidL W) (hs : W.ShapedOpen Tryd.prog) : WOK W := by
  rw [MakeChecks.laidMetH_plain _ _ _ (by kernel_rfl)] at h
  refine ⟨?_, ?_, ?_⟩
  · exact cell_of_shapedOpen_int (t := 3) (zero := #[.int .i64 0]) hs (by decide +kernel) (by kernel_rfl) (by kernel_rfl) (by kernel_rfl) (by kernel_rfl) Tryd.underlying3
  · exact tabIs_at (g := 1) (n := 20) 2 (by rfl) (by kernel_rfl) (t := 112) (by kernel_rfl) (by kernel_rfl) (e := 23) Tryd.underlying23 (by kernel_rfl) (by kernel_rfl) h
  · have hb : Lib.TabIs Tryd.prog W "math/bits.deBruijn64tab" .u8 (Lib.deBruijn64tab.map Int.ofNat) := tabIs_at (g := 3) (n := 64) 1 (by rfl) (by kernel_rfl) (t := 123) (by kernel_rfl) (by kernel_rfl) (e := 5) Tryd.underlying5 (by kernel_rfl) (by kernel_rfl) h
    intro j hj
    have h2 := hb.cell (g := 3) (by kernel_rfl) j (by rw [List.length_map]; exact hj)
    rw [h2, List.getD, List.getD, List.getElem?_map, List.getElem?_eq_getElem hj]
    rfl
set_option maxRecDepth 100000 in
theorem laid_world (os : Os) (args : Array Value) : laidMetH Tryd.prog laidL ((World.laidAll Tryd.prog os laidL).forCall (fun _ _ => 0) ⟨#[], args, []⟩).memory := by
  rw [MakeChecks.laidMetH_plain _ _ _ (by kernel_rfl)]
  exact laidMet_laidAll _ (by kernel_rfl) (by kernel_rfl)
end Go.Proofs.YtlgfinnldhjgeaaDoor.Q
end

section
namespace Go.Proofs.YtlgfinnldhjgeaaDoor.addressOrders
open Go.ChangeShapes Go.WideShapes Go.ChangeAt Go.RowKit Go.Proofs.YtlgfinnldhjgeaaDoorW.PrintWords Go.Proofs.YtlgfinnldhjgeaaDoor.Read Go.Proofs.YtlgfinnldhjgeaaDoor.Q
open Go.ChangeMaps (open_string shut_string)
set_option linter.unusedVariables false
theorem own : ownKnob Tryd.prog.godebug = none := by kernel_rfl
theorem laidOut : laidOutB Tryd.prog = true := by kernel_rfl
set_option maxRecDepth 100000 in
theorem lifted (os : Os) (started : os.Started) (H : Type) (enc : TypeId × Value → H) :
    ReturnsInHanded {} Tryd.checked os 4 .any (fun w args => (Rows.addressOrdersSpec.pre enc Tryd.prog Tryd.f4 Rows.addressOrdersRow.domain false w args ∧ laidMetH Tryd.prog laidL w) ∧ sizedMet enc Tryd.prog Tryd.f4 (OpenSpec.ofChange Rows.addressOrdersSpec) false w args) (Rows.addressOrdersSpec.post enc Tryd.prog Tryd.f4 false true false false) := by
  refine returns_laid (C := Tryd.checked) (X := (fun w _ => laidMetH Tryd.prog laidL w)) (fun _ _ _ hh h => h.of_heap hh) own started (by kernel_rfl) Tryd.func4
    (ChangeSpec.witness_shaped (enc := enc) (C := Tryd.checked) (os := os) (X := (fun w _ => laidMetH Tryd.prog laidL w)) false (World.laidAll Tryd.prog os laidL) #[.agg #[.bool false, .int .u64 0, .int .u64 0], .agg #[.bool false, .int .u64 0, .int .u64 0], .int .i64 0] 8 (World.laidAll_os _ _ _)
      (World.shaped_of_ZipB (by kernel_rfl) (by kernel_rfl)) (by kernel_rfl) (by kernel_rfl) (by kernel_rfl) (laid_world os _)) ?_
  intro W base args ds gs before hval0 hW hcnd hsz0 hL hsh _
  have hWok := wok_of hL hsh
  have hsz : (DataW.weightsEach Tryd.prog (Tryd.f4.params.toList ++ Rows.addressOrdersSpec.plain.varTypes Tryd.prog) (ds ++ gs)).all (· ≤ reachBytes) = true := hsz0
  have hval : ∀ (j : Nat) t v, Tryd.f4.params[j]? = some t → args[j]? = some v → Value.okWide Tryd.prog W .any base t v := hval0
  have hW' := hW
  obtain ⟨p, q, hA0, hV, rfl, hfz, hnd⟩ := hW
  have hA : DataW.TrodAll enc Tryd.prog W 0 (fun _ => true) true Tryd.f4.params.toList args.toList ds p := hA0
  rw [Tryd.params4] at hA hval hsz
  obtain ⟨v0, vs0, d0, ds0, p0, q0, hargs, rfl, rfl, h0, r0⟩ := trodAll_cons hA
  obtain ⟨v1, vs1, d1, ds1, p1, q1, rfl, rfl, rfl, h1, r1⟩ := trodAll_cons r0
  obtain ⟨v2, vs2, d2, ds2, p2, q2, rfl, rfl, rfl, h2, r2⟩ := trodAll_cons r1
  obtain ⟨rfl, rfl, rfl⟩ := trodAll_nil r2
  obtain rfl : args = #[v0, v1, v2] := by cases args; simp_all
  obtain ⟨rfl, rfl⟩ := trodVars_none hV
  obtain ⟨cs0, rfl, hz0⟩ := okWide_struct Tryd.underlying25 (hval 0 25 v0 rfl rfl)
  have k0_ := h0
  have lt0 : ∀ x ∈ p0, x.block < W.heap.size := by obtain ⟨m, hm⟩ := k0_; exact DataW.trod_lt m _ _ _ hm
  obtain ⟨fuel0, hf0⟩ := h0
  obtain ⟨x0, hK0, hq0⟩ := reads_k25 W H enc fuel0 _ _ hf0
  have hcs0 := k25_open hK0
  simp only [Value.cells] at hcs0
  obtain rfl : cs0 = #[.bool x0.f0, .int .u64 x0.f1, .int .u64 x0.f2] := by rw [← Array.toList_inj]; exact hcs0
  obtain ⟨cs1, rfl, hz1⟩ := okWide_struct Tryd.underlying25 (hval 1 25 v1 rfl rfl)
  have k1_ := h1
  have lt1 : ∀ x ∈ p1, x.block < W.heap.size := by obtain ⟨m, hm⟩ := k1_; exact DataW.trod_lt m _ _ _ hm
  obtain ⟨fuel1, hf1⟩ := h1
  obtain ⟨x1, hK1, hq1⟩ := reads_k25 W H enc fuel1 _ _ hf1
  have hcs1 := k25_open hK1
  simp only [Value.cells] at hcs1
  obtain rfl : cs1 = #[.bool x1.f0, .int .u64 x1.f1, .int .u64 x1.f2] := by rw [← Array.toList_inj]; exact hcs1
  obtain ⟨a2, rfl, rfl, rfl, w2⟩ := open_int Tryd.underlying3 (hval 2 3 v2 rfl rfl) h2
  clear hA0 hval0 hsz0 hsz
  obtain ⟨k, hk⟩ := Pure.AddressOrders x0 x1 a2 hq0 hq1 w2
  refine (intrusionlaw06_AddressOrders.calls k x0.f0 x0.f1 x0.f2 x1.f0 x1.f1 x1.f2 a2 true W  hk hWok).mono fun e W' he => ?_
  obtain ⟨rfl, bel⟩ := he
  exact ⟨_, rfl, _, _, _, [], _, [], hW', trodAll_mk1 (shut_bool Tryd.underlying4 _), (trodAll_cons_mk (Below.trod laidOut (by kernel_rfl) (of_decide_eq_true (by kernel_rfl)) k0_ bel lt0) (trodAll_cons_mk (Below.trod laidOut (by kernel_rfl) (of_decide_eq_true (by kernel_rfl)) k1_ bel lt1) (trodAll_cons_mk (shut_int Tryd.underlying3 w2) trodAll_mk0))), rfl, bel.frame _, fun h => by cases h⟩
theorem over : Rows.addressOrdersRow.holds Tryd.pinned (OpenSpec.ofChange Rows.addressOrdersSpec) :=
  OpenClaim.holds_of_wide 4 Tryd.f4 rfl rfl rfl rfl rfl rfl rfl ⟨rfl, rfl, rfl, rfl, rfl⟩ rfl rfl rfl rfl rfl (by kernel_rfl) Tryd.func4 (by kernel_rfl)
    (of_decide_eq_true (by kernel_rfl)) (by unfold Func.isWrapper; first | (rw [if_pos (by decide +kernel)]; kernel_rfl) | (rw [if_neg (by decide +kernel)]; exact ⟨rfl, rfl⟩))
    (fun os started H enc _ => lifted os started H enc)
theorem card : Rows.AddressOrdersCardSaid :=
  Claim7.holds_tied_plain_at .later [] [.data, .data, .data, .data, .pinned] true (true, "a4caf97771cecc6370fff57cddc3aa8f525d50a87a13146298f7be9fbc5a6ea2") false over (fun _ h => by cases h) (by kernel_rfl) (fun _ h => by cases h) addressOrders_row_tie rfl ⟨rfl, rfl⟩ (by kernel_rfl) rfl
    (fun f fn hf hfn => by
      obtain rfl : f = 4 := Option.some.inj ((show Tryd.prog.funcNamed "intrusion/intrusionlaw06.AddressOrders" = some 4 by kernel_rfl).symm.trans hf) |>.symm
      obtain rfl : fn = Tryd.f4 := (Option.some.inj (Tryd.func4.symm.trans hfn)).symm
      exact ⟨by kernel_rfl, fun j t ht => by
        rw [Tryd.params4] at ht
        have hm : t ∈ [25, 25, 3] := by simpa using Array.mem_of_getElem? ht
        have hall : ([25, 25, 3].all fun u => !Tryd.prog.wantsStandIn u) = true := by kernel_rfl
        exact (show Tryd.prog.wantsStandIn t = false by simpa using List.all_eq_true.1 hall t hm)⟩)
    (by kernel_rfl)
#print axioms card
end Go.Proofs.YtlgfinnldhjgeaaDoor.addressOrders
namespace Go.Proofs.YtlgfinnldhjgeaaDoor
theorem addressOrders_holds : Rows.AddressOrdersCardSaid := addressOrders.card
end Go.Proofs.YtlgfinnldhjgeaaDoor
end
