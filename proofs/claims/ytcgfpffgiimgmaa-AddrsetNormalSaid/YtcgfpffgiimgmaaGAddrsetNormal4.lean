/- The law AddrsetNormal answers true for every input and leaves its arguments as they were. No condition. (Part 4 of 5: the kit's printed words and walks, hand-made contracts and plain laws, joined in build order, without what the theorem does not reach.) -/
import Derived.Shelf.Abstract
import Derived.Test.YtcgfpffgiimgmaaGAddrsetNormal3
section
namespace Go.Proofs.Ytcgfpffgiimgmaa.Q
open Go.RowKit Go.Proofs.YtcgfpffgiimgmaaW.PrintWords Go.Proofs.YtcgfpffgiimgmaaW.PrintLast Go.Proofs.YtcgfpffgiimgmaaW.PrintMore
attribute [local go_sem] max2_int min2_int max_two min_two max_three min_three max_four min_four
set_option linter.unusedVariables false
set_option linter.unusedSimpArgs false
mutual
def intrusionref07_add.l0 : Nat → List (S66) → List (S66) → Bool → Int → Bool → Int → Int → Bool → Int → Int → Option ((List (S66)))
  | 0, _, _, _, _, _, _, _, _, _, _ => none
  | k + 1, x0, x5, x6, x7, x612000, x612001, x612002, x612003, x612004, x612005 => if x7 < (x0.length : Int) then (if 0 ≤ x7 then (if x6 = true then (intrusionref07_add.j1 k x0 x5 x6 x7 true x612000 x612001 x612002 x612003 x612004 x612005 ((rd_T66 x0 x7).f0.f0) ((rd_T66 x0 x7).f0.f1) ((rd_T66 x0 x7).f0.f2) ((rd_T66 x0 x7).f1.f0) ((rd_T66 x0 x7).f1.f1) ((rd_T66 x0 x7).f1.f2)) else ((intrusionref07_Before.f ((rd_T66 x0 x7).f1.f0) ((rd_T66 x0 x7).f1.f1) ((rd_T66 x0 x7).f1.f2) x612000 x612001 x612002).bind fun t617 => (if t617 = true then ((intrusionref07_joined.f ((rd_T66 x0 x7).f0.f0) ((rd_T66 x0 x7).f0.f1) ((rd_T66 x0 x7).f0.f2) ((rd_T66 x0 x7).f1.f0) ((rd_T66 x0 x7).f1.f1) ((rd_T66 x0 x7).f1.f2) x612000 x612001 x612002 x612003 x612004 x612005).bind fun t618 => (intrusionref07_add.j1 k x0 x5 x6 x7 (!t618) x612000 x612001 x612002 x612003 x612004 x612005 ((rd_T66 x0 x7).f0.f0) ((rd_T66 x0 x7).f0.f1) ((rd_T66 x0 x7).f0.f2) ((rd_T66 x0 x7).f1.f0) ((rd_T66 x0 x7).f1.f1) ((rd_T66 x0 x7).f1.f2))) else (intrusionref07_add.j1 k x0 x5 x6 x7 false x612000 x612001 x612002 x612003 x612004 x612005 ((rd_T66 x0 x7).f0.f0) ((rd_T66 x0 x7).f0.f1) ((rd_T66 x0 x7).f0.f2) ((rd_T66 x0 x7).f1.f0) ((rd_T66 x0 x7).f1.f1) ((rd_T66 x0 x7).f1.f2))))) else (none)) else (if x6 = true then (some x5) else (if x5.length < 2932031007402 then (some (x5 ++ [(⟨(⟨x612000, x612001, x612002⟩ : S36), (⟨x612003, x612004, x612005⟩ : S36)⟩ : S66)])) else (none)))
def intrusionref07_add.j1 : Nat → List (S66) → List (S66) → Bool → Int → Bool → Bool → Int → Int → Bool → Int → Int → Bool → Int → Int → Bool → Int → Int → Option ((List (S66)))
  | 0, _, _, _, _, _, _, _, _, _, _, _, _, _, _, _, _, _ => none
  | k + 1, x0, x5, x6, x7, x32, x612000, x612001, x612002, x612003, x612004, x612005, x617000, x617001, x617002, x617003, x617004, x617005 => if x32 = true then (if x5.length < 2932031007402 then (intrusionref07_add.l0 k x0 (x5 ++ [(⟨(⟨x617000, x617001, x617002⟩ : S36), (⟨x617003, x617004, x617005⟩ : S36)⟩ : S66)]) x6 (wrap64 (x7 + 1)) x612000 x612001 x612002 x612003 x612004 x612005) else (none)) else ((intrusionref07_Before.f x612003 x612004 x612005 x617000 x617001 x617002).bind fun t622 => (if t622 = true then ((intrusionref07_joined.f x612000 x612001 x612002 x612003 x612004 x612005 x617000 x617001 x617002 x617003 x617004 x617005).bind fun t623 => (intrusionref07_add.j2 k x0 x5 x6 x7 (!t623) x612000 x612001 x612002 x612003 x612004 x612005 x617000 x617001 x617002 x617003 x617004 x617005)) else (intrusionref07_add.j2 k x0 x5 x6 x7 false x612000 x612001 x612002 x612003 x612004 x612005 x617000 x617001 x617002 x617003 x617004 x617005)))
def intrusionref07_add.j2 : Nat → List (S66) → List (S66) → Bool → Int → Bool → Bool → Int → Int → Bool → Int → Int → Bool → Int → Int → Bool → Int → Int → Option ((List (S66)))
  | 0, _, _, _, _, _, _, _, _, _, _, _, _, _, _, _, _, _ => none
  | k + 1, x0, x5, x6, x7, x47, x612000, x612001, x612002, x612003, x612004, x612005, x617000, x617001, x617002, x617003, x617004, x617005 => if x47 = true then ((some (([(⟨(⟨x612000, x612001, x612002⟩ : S36), (⟨x612003, x612004, x612005⟩ : S36)⟩ : S66), (⟨(⟨x617000, x617001, x617002⟩ : S36), (⟨x617003, x617004, x617005⟩ : S36)⟩ : S66)] : List (S66)) : List (S66))).bind fun y624 => (if x5.length + y624.length < 2932031007402 then (intrusionref07_add.l0 k x0 (x5 ++ y624) true (wrap64 (x7 + 1)) x612000 x612001 x612002 x612003 x612004 x612005) else (none))) else ((intrusionref07_Before.f x617000 x617001 x617002 x612000 x612001 x612002).bind fun t630 => (if t630 = true then ((intrusionref07_Before.f x612003 x612004 x612005 x617003 x617004 x617005).bind fun t631 => (if t631 = true then (intrusionref07_add.l0 k x0 x5 x6 (wrap64 (x7 + 1)) x617000 x617001 x617002 x617003 x617004 x617005) else (intrusionref07_add.l0 k x0 x5 x6 (wrap64 (x7 + 1)) x617000 x617001 x617002 x612003 x612004 x612005))) else ((intrusionref07_Before.f x612003 x612004 x612005 x617003 x617004 x617005).bind fun t632 => (if t632 = true then (intrusionref07_add.l0 k x0 x5 x6 (wrap64 (x7 + 1)) x612000 x612001 x612002 x617003 x617004 x617005) else (intrusionref07_add.l0 k x0 x5 x6 (wrap64 (x7 + 1)) x612000 x612001 x612002 x612003 x612004 x612005)))))
end
def intrusionref07_add.f (k : Nat) (l0 : List (S66)) (a1_0 : Bool) (a1_1 : Int) (a1_2 : Int) (a1_3 : Bool) (a1_4 : Int) (a1_5 : Int) : Option ((List (S66))) := intrusionref07_add.l0 k l0 ([] : List (S66)) false 0 a1_0 a1_1 a1_2 a1_3 a1_4 a1_5
theorem intrusionref07_add.mono_l : ∀ k, (∀ y0 y1 y2 y3 y4 y5 y6 y7 y8 y9, LeO (intrusionref07_add.l0 k y0 y1 y2 y3 y4 y5 y6 y7 y8 y9) (intrusionref07_add.l0 (k + 1) y0 y1 y2 y3 y4 y5 y6 y7 y8 y9)) ∧ (∀ y0 y1 y2 y3 y4 y5 y6 y7 y8 y9 y10 y11 y12 y13 y14 y15 y16, LeO (intrusionref07_add.j1 k y0 y1 y2 y3 y4 y5 y6 y7 y8 y9 y10 y11 y12 y13 y14 y15 y16) (intrusionref07_add.j1 (k + 1) y0 y1 y2 y3 y4 y5 y6 y7 y8 y9 y10 y11 y12 y13 y14 y15 y16)) ∧ (∀ y0 y1 y2 y3 y4 y5 y6 y7 y8 y9 y10 y11 y12 y13 y14 y15 y16, LeO (intrusionref07_add.j2 k y0 y1 y2 y3 y4 y5 y6 y7 y8 y9 y10 y11 y12 y13 y14 y15 y16) (intrusionref07_add.j2 (k + 1) y0 y1 y2 y3 y4 y5 y6 y7 y8 y9 y10 y11 y12 y13 y14 y15 y16))
  | 0 => ⟨fun _ _ _ _ _ _ _ _ _ _ r h => by simp [intrusionref07_add.l0] at h, fun _ _ _ _ _ _ _ _ _ _ _ _ _ _ _ _ _ r h => by simp [intrusionref07_add.j1] at h, fun _ _ _ _ _ _ _ _ _ _ _ _ _ _ _ _ _ r h => by simp [intrusionref07_add.j2] at h⟩
  | k + 1 => by
    obtain ⟨ih0, ih1, ih2⟩ := intrusionref07_add.mono_l k
    refine ⟨?_, ?_, ?_⟩
    · intro y0 y1 y2 y3 y4 y5 y6 y7 y8 y9
      unfold intrusionref07_add.l0
      repeat' first
      | (with_reducible exact ih0 _ _ _ _ _ _ _ _ _ _)
      | (with_reducible exact ih1 _ _ _ _ _ _ _ _ _ _ _ _ _ _ _ _ _)
      | (with_reducible exact ih2 _ _ _ _ _ _ _ _ _ _ _ _ _ _ _ _ _)
      | (with_reducible exact LeO.refl _)
      | (with_reducible exact LeO.none _)
      | (with_reducible refine LeO.ite ?_ ?_)
      | (with_reducible refine LeO.bind ?_ (fun _ => ?_))
      | exact ih0 _ _ _ _ _ _ _ _ _ _
      | exact ih1 _ _ _ _ _ _ _ _ _ _ _ _ _ _ _ _ _
      | exact ih2 _ _ _ _ _ _ _ _ _ _ _ _ _ _ _ _ _
      | exact LeO.none _
      | refine LeO.ite ?_ ?_
      | refine LeO.bind ?_ (fun _ => ?_)
    · intro y0 y1 y2 y3 y4 y5 y6 y7 y8 y9 y10 y11 y12 y13 y14 y15 y16
      unfold intrusionref07_add.j1
      repeat' first
      | (with_reducible exact ih0 _ _ _ _ _ _ _ _ _ _)
      | (with_reducible exact ih1 _ _ _ _ _ _ _ _ _ _ _ _ _ _ _ _ _)
      | (with_reducible exact ih2 _ _ _ _ _ _ _ _ _ _ _ _ _ _ _ _ _)
      | (with_reducible exact LeO.refl _)
      | (with_reducible exact LeO.none _)
      | (with_reducible refine LeO.ite ?_ ?_)
      | (with_reducible refine LeO.bind ?_ (fun _ => ?_))
      | exact ih0 _ _ _ _ _ _ _ _ _ _
      | exact ih1 _ _ _ _ _ _ _ _ _ _ _ _ _ _ _ _ _
      | exact ih2 _ _ _ _ _ _ _ _ _ _ _ _ _ _ _ _ _
      | exact LeO.none _
      | refine LeO.ite ?_ ?_
      | refine LeO.bind ?_ (fun _ => ?_)
    · intro y0 y1 y2 y3 y4 y5 y6 y7 y8 y9 y10 y11 y12 y13 y14 y15 y16
      unfold intrusionref07_add.j2
      repeat' first
      | (with_reducible exact ih0 _ _ _ _ _ _ _ _ _ _)
      | (with_reducible exact ih1 _ _ _ _ _ _ _ _ _ _ _ _ _ _ _ _ _)
      | (with_reducible exact ih2 _ _ _ _ _ _ _ _ _ _ _ _ _ _ _ _ _)
      | (with_reducible exact LeO.refl _)
      | (with_reducible exact LeO.none _)
      | (with_reducible refine LeO.ite ?_ ?_)
      | (with_reducible refine LeO.bind ?_ (fun _ => ?_))
      | exact ih0 _ _ _ _ _ _ _ _ _ _
      | exact ih1 _ _ _ _ _ _ _ _ _ _ _ _ _ _ _ _ _
      | exact ih2 _ _ _ _ _ _ _ _ _ _ _ _ _ _ _ _ _
      | exact LeO.none _
      | refine LeO.ite ?_ ?_
      | refine LeO.bind ?_ (fun _ => ?_)
theorem intrusionref07_add.mono : ∀ a0 a1 a2 a3 a4 a5 a6 k, LeO (intrusionref07_add.f k a0 a1 a2 a3 a4 a5 a6) (intrusionref07_add.f (k + 1) a0 a1 a2 a3 a4 a5 a6) := by
  intro a0 a1 a2 a3 a4 a5 a6 k
  obtain ⟨ih0, ih1, ih2⟩ := intrusionref07_add.mono_l k
  unfold intrusionref07_add.f
  repeat' first
      | (with_reducible exact ih0 _ _ _ _ _ _ _ _ _ _)
      | (with_reducible exact ih1 _ _ _ _ _ _ _ _ _ _ _ _ _ _ _ _ _)
      | (with_reducible exact ih2 _ _ _ _ _ _ _ _ _ _ _ _ _ _ _ _ _)
      | (with_reducible exact LeO.refl _)
      | (with_reducible exact LeO.none _)
      | (with_reducible refine LeO.ite ?_ ?_)
      | (with_reducible refine LeO.bind ?_ (fun _ => ?_))
      | exact ih0 _ _ _ _ _ _ _ _ _ _
      | exact ih1 _ _ _ _ _ _ _ _ _ _ _ _ _ _ _ _ _
      | exact ih2 _ _ _ _ _ _ _ _ _ _ _ _ _ _ _ _ _
      | exact LeO.none _
      | refine LeO.ite ?_ ?_
      | refine LeO.bind ?_ (fun _ => ?_)
set_option maxHeartbeats 8000000 in
set_option maxRecDepth 100000 in
theorem intrusionref07_add.calls (k : Nat) (A0 : Option Addr) (c0 : Nat) (l0 : List (S66)) (a1_0 : Bool) (a1_1 : Int) (a1_2 : Int) (a1_3 : Bool) (a1_4 : Int) (a1_5 : Int) (r : List (S66)) (w : World) (hr0 : Kd.C k66 w A0 l0.length l0) (hc0 : l0.length ≤ c0) (h : intrusionref07_add.f k l0 a1_0 a1_1 a1_2 a1_3 a1_4 a1_5 = some r) :
 Calls Try.prog 79 #[.slice A0 l0.length c0, .agg #[.bool a1_0, .int .u64 a1_1, .int .u64 a1_2, .bool a1_3, .int .u64 a1_4, .int .u64 a1_5]] w fun e w' => ∃ v0_ : Value, e = .returned (v0_) ∧ Kd.R k66 66 w' w.heap.size (fun _ => True) v0_ r ∧ Below w.heap.size w w' := by
 have hu66 := Try.underlying66
 have hu36 := Try.underlying36
 have HR0 := Aside0.mk hr0
 have HC0 := Aside0.mk hc0
 clear hr0 hc0
 have HB := Aside0.mk (Below.refl w.heap.size w)
 have H : (intrusionref07_add.l0 k l0 ([] : List (S66)) false 0 a1_0 a1_1 a1_2 a1_3 a1_4 a1_5) = some r := h
 clear h
 have H' := Aside0.mk H
 clear H
 go_enter Try.func79, Try.ntmps79
 go_wp2_with (first | ((with_reducible refine gate_dst (N := 3) rfl ?_); refine zx 3 #[.bool a1_0, .int .u64 a1_1, .int .u64 a1_2, .bool a1_3, .int .u64 a1_4, .int .u64 a1_5] 66 ?_; intro gb611 hg w3 hbox hb; have BK611 := Aside0.mk (hbox); have GW611 := Aside0.mk ((by rw [hg]; exact (below_size (zB HB)) : w.heap.size ≤ gb611)); have GE611 := Aside0.mk ((by rw [hg]; exact (below_size (zB HB)) : w.heap.size ≤ gb611)); replace HB := Aside0.mk (below_step (zB HB) hb); clear hb hbox hg))
 go_loopg [5, 6, 7] k (fun kq v5 v6 v7 w' => ∃ (x5_1 : List (S66)) (x6_1 : Bool) (x7_1 : Int) (x612000_1 : Bool) (x612001_1 : Int) (x612002_1 : Int) (x612003_1 : Bool) (x612004_1 : Int) (x612005_1 : Int), v6 = .bool x6_1 ∧ v7 = .int .i64 x7_1 ∧ Aside0 (intrusionref07_add.l0 kq l0 x5_1 x6_1 x7_1 x612000_1 x612001_1 x612002_1 x612003_1 x612004_1 x612005_1 = some r) ∧ Aside0 (kq ≤ k) ∧ Aside0 (Kd.R k66 66 w' w.heap.size (fun k_ => k_ ≠ gb611) v5 x5_1) ∧ Aside0 (w'.heap[gb611]? = some (.cells #[.bool x612000_1, .int .u64 x612001_1, .int .u64 x612002_1, .bool x612003_1, .int .u64 x612004_1, .int .u64 x612005_1] 66 (0, 0))) ∧ Aside0 (Below w.heap.size w w'))
 case atStart => exact ⟨(([] : List (S66))), (false), (0), (a1_0), (a1_1), (a1_2), (a1_3), (a1_4), (a1_5), (by first | rfl | (simp; done) | (simp [*]; done)), (by first | rfl | (simp; done) | (simp [*]; done)), H', ⟨Nat.le_refl _⟩, ⟨by first | exact Kd.R_nil _ _ _ _ _ | exact Kd.N_nil _ _ _ _ _ | exact Kd.V_nil _ _ _ _ _ | exact Kd.Q_nil _ _ _ _ _ | exact Kd.S_nil _ _ _ _ _⟩, ⟨zK BK611⟩, ⟨zB HB⟩⟩
 case round =>
  clear H'
  try clear p2
  obtain ⟨x5_1, x6_1, x7_1, x612000_1, x612001_1, x612002_1, x612003_1, x612004_1, x612005_1, rfl, rfl, HA, HK1, HO_5, BK611, HB⟩ := hrel
  cases gk with
  | zero => exact absurd HA.out (by simp [intrusionref07_add.l0])
  | succ k1 =>
   have H := HA.out
   clear HA
   simp only [intrusionref07_add.l0] at H
   by_cases c4 : x7_1 < (l0.length : Int)
   · rw [if_pos c4] at H
     have c4b0 : decide (x7_1 < (l0.length : Int)) = true := decide_eq_true c4
     clear c4
     by_cases c5 : 0 ≤ x7_1
     · rw [if_pos c5] at H
       have c5b0 : decide (0 ≤ x7_1) = true := decide_eq_true c5
       clear c5
       have HC6 := Aside0.mk H
       clear H
       have p615 : 0 ≤ (x7_1 : Int) := za
       have q615 : x7_1 < (l0.length : Int) := za
       obtain ⟨ad615, e615, hx615_0, hx615_1, hx615_2, hx615_3, hx615_4, hx615_5⟩ := at_T66 HR0.out x7_1 p615 q615
       cases e615
       replace hx615_0 := zh HB hx615_0
       replace hx615_1 := zh HB hx615_1
       replace hx615_2 := zh HB hx615_2
       replace hx615_3 := zh HB hx615_3
       replace hx615_4 := zh HB hx615_4
       replace hx615_5 := zh HB hx615_5
       replace p615 := eq_true p615
       replace q615 := eq_true q615
       go_upto_region 7 with (first | ((with_reducible refine gate_dst (N := 8) rfl ?_); refine zx 8 #[.bool false, .int .u64 0, .int .u64 0, .bool false, .int .u64 0, .int .u64 0] 66 ?_; intro gb616 hg w7 hbox hb; replace HO_5 := Aside0.mk (Kd.R_below (Kd.R_elderB (zR HO_5) gb616 (Nat.le_of_eq hg.symm)) hb); have BK616 := Aside0.mk (hbox); have GW616 := Aside0.mk ((by rw [hg]; exact (below_size (zB HB)) : w.heap.size ≤ gb616)); have GE616 := Aside0.mk ((by rw [hg]; exact (below_size (zB HB)) : w.heap.size ≤ gb616)); replace HB := Aside0.mk (below_step (zB HB) hb); have NB611_616 := Aside0.mk ((by rw [hg]; exact Nat.ne_of_lt (blk_lt (g := gb611) (o := .cells #[.bool x612000_1, .int .u64 x612001_1, .int .u64 x612002_1, .bool x612003_1, .int .u64 x612004_1, .int .u64 x612005_1] 66 (0, 0)) (zK BK611)) : gb611 ≠ gb616)); have NB616_611 := Aside0.mk ((by rw [hg]; exact Nat.ne_of_gt (blk_lt (g := gb611) (o := .cells #[.bool x612000_1, .int .u64 x612001_1, .int .u64 x612002_1, .bool x612003_1, .int .u64 x612004_1, .int .u64 x612005_1] 66 (0, 0)) (zK BK611)) : gb616 ≠ gb611)); replace BK611 := Aside0.mk (blk_below (g := gb611) (o := .cells #[.bool x612000_1, .int .u64 x612001_1, .int .u64 x612002_1, .bool x612003_1, .int .u64 x612004_1, .int .u64 x612005_1] 66 (0, 0)) (zK BK611) hb); clear hb hbox hg; have hnb8 := NB616_611.out; have hnc8 := NB611_616.out; obtain ⟨hcz9_0, hcz9_1, hcz9_2, hcz9_3, hcz9_4, hcz9_5⟩ := zc6 BK616; obtain ⟨hfz9_0, hfz9_1, hfz9_2, hfz9_3, hfz9_4, hfz9_5⟩ := zf6 BK616))
       (try simp only [Act.put, List.setIfInBounds_toArray, List.set_cons_zero, List.set_cons_succ])
       go_cut [32] (fun v32 wc => ∃ (kq : Nat) (x32_5 : Bool), v32 = .bool x32_5 ∧ Aside0 (intrusionref07_add.j1 kq l0 x5_1 x6_1 x7_1 x32_5 x612000_1 x612001_1 x612002_1 x612003_1 x612004_1 x612005_1 ((rd_T66 l0 x7_1).f0.f0) ((rd_T66 l0 x7_1).f0.f1) ((rd_T66 l0 x7_1).f0.f2) ((rd_T66 l0 x7_1).f1.f0) ((rd_T66 l0 x7_1).f1.f1) ((rd_T66 l0 x7_1).f1.f2) = some r) ∧ Aside0 (kq ≤ k1) ∧ Aside0 (Kd.R k66 66 wc w.heap.size (fun k_ => k_ ≠ gb611 ∧ k_ ≠ gb616) u5 x5_1) ∧ Aside0 (wc.heap[gb611]? = some (.cells #[.bool x612000_1, .int .u64 x612001_1, .int .u64 x612002_1, .bool x612003_1, .int .u64 x612004_1, .int .u64 x612005_1] 66 (0, 0))) ∧ Aside0 (wc.heap[gb616]? = some (.cells #[.bool ((rd_T66 l0 x7_1).f0.f0), .int .u64 ((rd_T66 l0 x7_1).f0.f1), .int .u64 ((rd_T66 l0 x7_1).f0.f2), .bool ((rd_T66 l0 x7_1).f1.f0), .int .u64 ((rd_T66 l0 x7_1).f1.f1), .int .u64 ((rd_T66 l0 x7_1).f1.f2)] 66 (0, 0))) ∧ Aside0 (Below w.heap.size w wc))
       case first =>
        have H := HC6.out
        clear HC6
        by_cases c10 : x6_1 = true
        · subst c10
          rw [if_pos rfl] at H
          have H' := Aside0.mk H
          clear H
          go_wp2
          go_meet
          case rel => exact ⟨_, (true), (by first | rfl | (simp; done) | (simp [*]; done)), H', ⟨by have := HK1.out; first | omega | exact Nat.le_refl _⟩, ⟨by (with_reducible repeat (first | apply Kd.R_alloc | apply Kd.R_drewN | apply Kd.R_drew)); exact Kd.R_mono (Kd.R_far (p := ⟨gb616, 5, none⟩) (Kd.R_far (p := ⟨gb616, 4, none⟩) (Kd.R_far (p := ⟨gb616, 3, none⟩) (Kd.R_far (p := ⟨gb616, 2, none⟩) (Kd.R_far (p := ⟨gb616, 1, none⟩) (Kd.R_far (p := ⟨gb616, 0, none⟩) (Kd.R_mono HO_5.out (fun k_ hk => (⟨hk, hk.2⟩ : _ ∧ k_ ≠ gb616))) (fun _ hk => hk.2) (.bool ((rd_T66 l0 x7_1).f0.f0))) (fun _ hk => hk.2) (.int .u64 ((rd_T66 l0 x7_1).f0.f1))) (fun _ hk => hk.2) (.int .u64 ((rd_T66 l0 x7_1).f0.f2))) (fun _ hk => hk.2) (.bool ((rd_T66 l0 x7_1).f1.f0))) (fun _ hk => hk.2) (.int .u64 ((rd_T66 l0 x7_1).f1.f1))) (fun _ hk => hk.2) (.int .u64 ((rd_T66 l0 x7_1).f1.f2))) (fun _ hk => ⟨hk.1.1, hk.1.2⟩)⟩, ⟨by refine zL ?_; refine blk_far ?_ NB611_616.out _; refine zL ?_; refine blk_far ?_ NB611_616.out _; refine zL ?_; refine blk_far ?_ NB611_616.out _; refine zL ?_; refine blk_far ?_ NB611_616.out _; refine zL ?_; refine blk_far ?_ NB611_616.out _; refine zL ?_; refine blk_far ?_ NB611_616.out _; refine zL ?_; exact BK611.out⟩, ⟨by refine zL ?_; refine blk_put (cs := #[.bool ((rd_T66 l0 x7_1).f0.f0), .int .u64 ((rd_T66 l0 x7_1).f0.f1), .int .u64 ((rd_T66 l0 x7_1).f0.f2), .bool ((rd_T66 l0 x7_1).f1.f0), .int .u64 ((rd_T66 l0 x7_1).f1.f1), .int .u64 0]) ?_ 5 _ rfl; refine zL ?_; refine blk_put (cs := #[.bool ((rd_T66 l0 x7_1).f0.f0), .int .u64 ((rd_T66 l0 x7_1).f0.f1), .int .u64 ((rd_T66 l0 x7_1).f0.f2), .bool ((rd_T66 l0 x7_1).f1.f0), .int .u64 0, .int .u64 0]) ?_ 4 _ rfl; refine zL ?_; refine blk_put (cs := #[.bool ((rd_T66 l0 x7_1).f0.f0), .int .u64 ((rd_T66 l0 x7_1).f0.f1), .int .u64 ((rd_T66 l0 x7_1).f0.f2), .bool false, .int .u64 0, .int .u64 0]) ?_ 3 _ rfl; refine zL ?_; refine blk_put (cs := #[.bool ((rd_T66 l0 x7_1).f0.f0), .int .u64 ((rd_T66 l0 x7_1).f0.f1), .int .u64 0, .bool false, .int .u64 0, .int .u64 0]) ?_ 2 _ rfl; refine zL ?_; refine blk_put (cs := #[.bool ((rd_T66 l0 x7_1).f0.f0), .int .u64 0, .int .u64 0, .bool false, .int .u64 0, .int .u64 0]) ?_ 1 _ rfl; refine zL ?_; refine blk_put (cs := #[.bool false, .int .u64 0, .int .u64 0, .bool false, .int .u64 0, .int .u64 0]) ?_ 0 _ rfl; refine zL ?_; exact BK616.out⟩, ⟨zB HB⟩⟩
        · replace c10 := Bool.eq_false_iff.mpr c10
          subst c10
          rw [if_neg zF] at H
          replace H := Option.bind_eq_some_iff.mp H
          obtain ⟨t617, A110, H⟩ := H
          try dsimp only at H
          have A11 := Aside0.mk A110
          clear A110
          by_cases c12 : t617 = true
          · subst c12
            rw [if_pos rfl] at H
            replace H := Option.bind_eq_some_iff.mp H
            obtain ⟨t618, A130, H⟩ := H
            try dsimp only at H
            have A13 := Aside0.mk A130
            clear A130
            have H' := Aside0.mk H
            clear H
            have hnb14 := NB616_611.out
            have hnc14 := NB611_616.out
            obtain ⟨hcz15_0, hcz15_1, hcz15_2, hcz15_3, hcz15_4, hcz15_5⟩ := zc6 BK616
            obtain ⟨hfz15_0, hfz15_1, hfz15_2, hfz15_3, hfz15_4, hfz15_5⟩ := zf6 BK616
            obtain ⟨hcz16_0, hcz16_1, hcz16_2, hcz16_3, hcz16_4, hcz16_5⟩ := zc6 BK611
            obtain ⟨hfz16_0, hfz16_1, hfz16_2, hfz16_3, hfz16_4, hfz16_5⟩ := zf6 BK611
            go_wp2_with (first | (go_at_call 80; (with_reducible refine (intrusionref07_Before.calls ((rd_T66 l0 x7_1).f1.f0) ((rd_T66 l0 x7_1).f1.f1) ((rd_T66 l0 x7_1).f1.f2) x612000_1 x612001_1 x612002_1 true _ A11.out).mono ?_); rintro e w17 ⟨rfl, hb⟩; replace HO_5 := Aside0.mk (Kd.R_below (zQ (Kd.R_mono (Kd.R_far (p := ⟨gb616, 5, none⟩) (Kd.R_far (p := ⟨gb616, 4, none⟩) (Kd.R_far (p := ⟨gb616, 3, none⟩) (Kd.R_far (p := ⟨gb616, 2, none⟩) (Kd.R_far (p := ⟨gb616, 1, none⟩) (Kd.R_far (p := ⟨gb616, 0, none⟩) (Kd.R_mono HO_5.out (fun k_ hk => (⟨hk, hk.2⟩ : _ ∧ k_ ≠ gb616))) (fun _ hk => hk.2) (.bool ((rd_T66 l0 x7_1).f0.f0))) (fun _ hk => hk.2) (.int .u64 ((rd_T66 l0 x7_1).f0.f1))) (fun _ hk => hk.2) (.int .u64 ((rd_T66 l0 x7_1).f0.f2))) (fun _ hk => hk.2) (.bool ((rd_T66 l0 x7_1).f1.f0))) (fun _ hk => hk.2) (.int .u64 ((rd_T66 l0 x7_1).f1.f1))) (fun _ hk => hk.2) (.int .u64 ((rd_T66 l0 x7_1).f1.f2))) (fun _ h_ => h_.1))) hb); replace BK611 := Aside0.mk (blk_below (g := gb611) (o := .cells #[.bool x612000_1, .int .u64 x612001_1, .int .u64 x612002_1, .bool x612003_1, .int .u64 x612004_1, .int .u64 x612005_1] 66 (0, 0)) (by refine zL ?_; refine blk_far ?_ NB611_616.out _; refine zL ?_; refine blk_far ?_ NB611_616.out _; refine zL ?_; refine blk_far ?_ NB611_616.out _; refine zL ?_; refine blk_far ?_ NB611_616.out _; refine zL ?_; refine blk_far ?_ NB611_616.out _; refine zL ?_; refine blk_far ?_ NB611_616.out _; refine zL ?_; exact BK611.out) hb); replace BK616 := Aside0.mk (blk_below (g := gb616) (o := .cells #[.bool ((rd_T66 l0 x7_1).f0.f0), .int .u64 ((rd_T66 l0 x7_1).f0.f1), .int .u64 ((rd_T66 l0 x7_1).f0.f2), .bool ((rd_T66 l0 x7_1).f1.f0), .int .u64 ((rd_T66 l0 x7_1).f1.f1), .int .u64 ((rd_T66 l0 x7_1).f1.f2)] 66 (0, 0)) (by refine zL ?_; refine blk_put (cs := #[.bool ((rd_T66 l0 x7_1).f0.f0), .int .u64 ((rd_T66 l0 x7_1).f0.f1), .int .u64 ((rd_T66 l0 x7_1).f0.f2), .bool ((rd_T66 l0 x7_1).f1.f0), .int .u64 ((rd_T66 l0 x7_1).f1.f1), .int .u64 0]) ?_ 5 _ rfl; refine zL ?_; refine blk_put (cs := #[.bool ((rd_T66 l0 x7_1).f0.f0), .int .u64 ((rd_T66 l0 x7_1).f0.f1), .int .u64 ((rd_T66 l0 x7_1).f0.f2), .bool ((rd_T66 l0 x7_1).f1.f0), .int .u64 0, .int .u64 0]) ?_ 4 _ rfl; refine zL ?_; refine blk_put (cs := #[.bool ((rd_T66 l0 x7_1).f0.f0), .int .u64 ((rd_T66 l0 x7_1).f0.f1), .int .u64 ((rd_T66 l0 x7_1).f0.f2), .bool false, .int .u64 0, .int .u64 0]) ?_ 3 _ rfl; refine zL ?_; refine blk_put (cs := #[.bool ((rd_T66 l0 x7_1).f0.f0), .int .u64 ((rd_T66 l0 x7_1).f0.f1), .int .u64 0, .bool false, .int .u64 0, .int .u64 0]) ?_ 2 _ rfl; refine zL ?_; refine blk_put (cs := #[.bool ((rd_T66 l0 x7_1).f0.f0), .int .u64 0, .int .u64 0, .bool false, .int .u64 0, .int .u64 0]) ?_ 1 _ rfl; refine zL ?_; refine blk_put (cs := #[.bool false, .int .u64 0, .int .u64 0, .bool false, .int .u64 0, .int .u64 0]) ?_ 0 _ rfl; refine zL ?_; exact BK616.out) hb); replace HB := Aside0.mk (below_step (zB HB) hb); (try clear hb); obtain ⟨hcz18_0, hcz18_1, hcz18_2, hcz18_3, hcz18_4, hcz18_5⟩ := zc6 BK616; obtain ⟨hfz18_0, hfz18_1, hfz18_2, hfz18_3, hfz18_4, hfz18_5⟩ := zf6 BK616; obtain ⟨hcz19_0, hcz19_1, hcz19_2, hcz19_3, hcz19_4, hcz19_5⟩ := zc6 BK611; obtain ⟨hfz19_0, hfz19_1, hfz19_2, hfz19_3, hfz19_4, hfz19_5⟩ := zf6 BK611) | (go_at_call 81; (with_reducible refine (intrusionref07_joined.calls ((rd_T66 l0 x7_1).f0.f0) ((rd_T66 l0 x7_1).f0.f1) ((rd_T66 l0 x7_1).f0.f2) ((rd_T66 l0 x7_1).f1.f0) ((rd_T66 l0 x7_1).f1.f1) ((rd_T66 l0 x7_1).f1.f2) x612000_1 x612001_1 x612002_1 x612003_1 x612004_1 x612005_1 t618 _ A13.out).mono ?_); rintro e w20 ⟨rfl, hb⟩; replace HO_5 := Aside0.mk (Kd.R_below (zR HO_5) hb); replace BK611 := Aside0.mk (blk_below (g := gb611) (o := .cells #[.bool x612000_1, .int .u64 x612001_1, .int .u64 x612002_1, .bool x612003_1, .int .u64 x612004_1, .int .u64 x612005_1] 66 (0, 0)) (zK BK611) hb); replace BK616 := Aside0.mk (blk_below (g := gb616) (o := .cells #[.bool ((rd_T66 l0 x7_1).f0.f0), .int .u64 ((rd_T66 l0 x7_1).f0.f1), .int .u64 ((rd_T66 l0 x7_1).f0.f2), .bool ((rd_T66 l0 x7_1).f1.f0), .int .u64 ((rd_T66 l0 x7_1).f1.f1), .int .u64 ((rd_T66 l0 x7_1).f1.f2)] 66 (0, 0)) (zK BK616) hb); replace HB := Aside0.mk (below_step (zB HB) hb); (try clear hb)))
            go_meet
            case rel => exact ⟨_, (!t618), (by first | rfl | (simp; done) | (simp [*]; done)), H', ⟨by have := HK1.out; first | omega | exact Nat.le_refl _⟩, ⟨zR HO_5⟩, ⟨zK BK611⟩, ⟨zK BK616⟩, ⟨zB HB⟩⟩
          · replace c12 := Bool.eq_false_iff.mpr c12
            subst c12
            rw [if_neg zF] at H
            have H' := Aside0.mk H
            clear H
            have hnb21 := NB616_611.out
            have hnc21 := NB611_616.out
            obtain ⟨hcz22_0, hcz22_1, hcz22_2, hcz22_3, hcz22_4, hcz22_5⟩ := zc6 BK616
            obtain ⟨hfz22_0, hfz22_1, hfz22_2, hfz22_3, hfz22_4, hfz22_5⟩ := zf6 BK616
            obtain ⟨hcz23_0, hcz23_1, hcz23_2, hcz23_3, hcz23_4, hcz23_5⟩ := zc6 BK611
            obtain ⟨hfz23_0, hfz23_1, hfz23_2, hfz23_3, hfz23_4, hfz23_5⟩ := zf6 BK611
            go_wp2_with (first | (go_at_call 80; (with_reducible refine (intrusionref07_Before.calls ((rd_T66 l0 x7_1).f1.f0) ((rd_T66 l0 x7_1).f1.f1) ((rd_T66 l0 x7_1).f1.f2) x612000_1 x612001_1 x612002_1 false _ A11.out).mono ?_); rintro e w24 ⟨rfl, hb⟩; replace HO_5 := Aside0.mk (Kd.R_below (zQ (Kd.R_mono (Kd.R_far (p := ⟨gb616, 5, none⟩) (Kd.R_far (p := ⟨gb616, 4, none⟩) (Kd.R_far (p := ⟨gb616, 3, none⟩) (Kd.R_far (p := ⟨gb616, 2, none⟩) (Kd.R_far (p := ⟨gb616, 1, none⟩) (Kd.R_far (p := ⟨gb616, 0, none⟩) (Kd.R_mono HO_5.out (fun k_ hk => (⟨hk, hk.2⟩ : _ ∧ k_ ≠ gb616))) (fun _ hk => hk.2) (.bool ((rd_T66 l0 x7_1).f0.f0))) (fun _ hk => hk.2) (.int .u64 ((rd_T66 l0 x7_1).f0.f1))) (fun _ hk => hk.2) (.int .u64 ((rd_T66 l0 x7_1).f0.f2))) (fun _ hk => hk.2) (.bool ((rd_T66 l0 x7_1).f1.f0))) (fun _ hk => hk.2) (.int .u64 ((rd_T66 l0 x7_1).f1.f1))) (fun _ hk => hk.2) (.int .u64 ((rd_T66 l0 x7_1).f1.f2))) (fun _ h_ => h_.1))) hb); replace BK611 := Aside0.mk (blk_below (g := gb611) (o := .cells #[.bool x612000_1, .int .u64 x612001_1, .int .u64 x612002_1, .bool x612003_1, .int .u64 x612004_1, .int .u64 x612005_1] 66 (0, 0)) (by refine zL ?_; refine blk_far ?_ NB611_616.out _; refine zL ?_; refine blk_far ?_ NB611_616.out _; refine zL ?_; refine blk_far ?_ NB611_616.out _; refine zL ?_; refine blk_far ?_ NB611_616.out _; refine zL ?_; refine blk_far ?_ NB611_616.out _; refine zL ?_; refine blk_far ?_ NB611_616.out _; refine zL ?_; exact BK611.out) hb); replace BK616 := Aside0.mk (blk_below (g := gb616) (o := .cells #[.bool ((rd_T66 l0 x7_1).f0.f0), .int .u64 ((rd_T66 l0 x7_1).f0.f1), .int .u64 ((rd_T66 l0 x7_1).f0.f2), .bool ((rd_T66 l0 x7_1).f1.f0), .int .u64 ((rd_T66 l0 x7_1).f1.f1), .int .u64 ((rd_T66 l0 x7_1).f1.f2)] 66 (0, 0)) (by refine zL ?_; refine blk_put (cs := #[.bool ((rd_T66 l0 x7_1).f0.f0), .int .u64 ((rd_T66 l0 x7_1).f0.f1), .int .u64 ((rd_T66 l0 x7_1).f0.f2), .bool ((rd_T66 l0 x7_1).f1.f0), .int .u64 ((rd_T66 l0 x7_1).f1.f1), .int .u64 0]) ?_ 5 _ rfl; refine zL ?_; refine blk_put (cs := #[.bool ((rd_T66 l0 x7_1).f0.f0), .int .u64 ((rd_T66 l0 x7_1).f0.f1), .int .u64 ((rd_T66 l0 x7_1).f0.f2), .bool ((rd_T66 l0 x7_1).f1.f0), .int .u64 0, .int .u64 0]) ?_ 4 _ rfl; refine zL ?_; refine blk_put (cs := #[.bool ((rd_T66 l0 x7_1).f0.f0), .int .u64 ((rd_T66 l0 x7_1).f0.f1), .int .u64 ((rd_T66 l0 x7_1).f0.f2), .bool false, .int .u64 0, .int .u64 0]) ?_ 3 _ rfl; refine zL ?_; refine blk_put (cs := #[.bool ((rd_T66 l0 x7_1).f0.f0), .int .u64 ((rd_T66 l0 x7_1).f0.f1), .int .u64 0, .bool false, .int .u64 0, .int .u64 0]) ?_ 2 _ rfl; refine zL ?_; refine blk_put (cs := #[.bool ((rd_T66 l0 x7_1).f0.f0), .int .u64 0, .int .u64 0, .bool false, .int .u64 0, .int .u64 0]) ?_ 1 _ rfl; refine zL ?_; refine blk_put (cs := #[.bool false, .int .u64 0, .int .u64 0, .bool false, .int .u64 0, .int .u64 0]) ?_ 0 _ rfl; refine zL ?_; exact BK616.out) hb); replace HB := Aside0.mk (below_step (zB HB) hb); (try clear hb)))
            go_meet
            case rel => exact ⟨_, (false), (by first | rfl | (simp; done) | (simp [*]; done)), H', ⟨by have := HK1.out; first | omega | exact Nat.le_refl _⟩, ⟨zR HO_5⟩, ⟨zK BK611⟩, ⟨zK BK616⟩, ⟨zB HB⟩⟩
       case rest =>
        clear HC6
        try clear c1
        try clear c2
        try clear p2
        try clear c4
        try clear c4b0
        try clear c5
        try clear c5b0
        try clear p6
        try clear q6
        try clear hx6
        try clear c7
        try clear c8
        try clear c10
        try clear c12
        try clear c14
        try clear c21
        try clear hcz15_0
        try clear hcz15_1
        try clear hcz15_2
        try clear hcz15_3
        try clear hcz15_4
        try clear hcz15_5
        try clear hcz16_0
        try clear hcz16_1
        try clear hcz16_2
        try clear hcz16_3
        try clear hcz16_4
        try clear hcz16_5
        try clear hcz18_0
        try clear hcz18_1
        try clear hcz18_2
        try clear hcz18_3
        try clear hcz18_4
        try clear hcz18_5
        try clear hcz19_0
        try clear hcz19_1
        try clear hcz19_2
        try clear hcz19_3
        try clear hcz19_4
        try clear hcz19_5
        try clear hcz22_0
        try clear hcz22_1
        try clear hcz22_2
        try clear hcz22_3
        try clear hcz22_4
        try clear hcz22_5
        try clear hcz23_0
        try clear hcz23_1
        try clear hcz23_2
        try clear hcz23_3
        try clear hcz23_4
        try clear hcz23_5
        try clear hcz9_0
        try clear hcz9_1
        try clear hcz9_2
        try clear hcz9_3
        try clear hcz9_4
        try clear hcz9_5
        try clear hfz15_0
        try clear hfz15_1
        try clear hfz15_2
        try clear hfz15_3
        try clear hfz15_4
        try clear hfz15_5
        try clear hfz16_0
        try clear hfz16_1
        try clear hfz16_2
        try clear hfz16_3
        try clear hfz16_4
        try clear hfz16_5
        try clear hfz18_0
        try clear hfz18_1
        try clear hfz18_2
        try clear hfz18_3
        try clear hfz18_4
        try clear hfz18_5
        try clear hfz19_0
        try clear hfz19_1
        try clear hfz19_2
        try clear hfz19_3
        try clear hfz19_4
        try clear hfz19_5
        try clear hfz22_0
        try clear hfz22_1
        try clear hfz22_2
        try clear hfz22_3
        try clear hfz22_4
        try clear hfz22_5
        try clear hfz23_0
        try clear hfz23_1
        try clear hfz23_2
        try clear hfz23_3
        try clear hfz23_4
        try clear hfz23_5
        try clear hfz9_0
        try clear hfz9_1
        try clear hfz9_2
        try clear hfz9_3
        try clear hfz9_4
        try clear hfz9_5
        try clear hx615_0
        try clear hx615_1
        try clear hx615_2
        try clear hx615_3
        try clear hx615_4
        try clear hx615_5
        try clear p2
        try clear p615
        try clear q615
        obtain ⟨kq, x32_5, rfl, HA, HJ5, HO_5, BK611, BK616, HB⟩ := hcut
        cases kq with
        | zero => exact absurd HA.out (by simp [intrusionref07_add.j1])
        | succ kj5 =>
         have H := HA.out
         clear HA
         simp only [intrusionref07_add.j1] at H
         by_cases c25 : x32_5 = true
         · subst c25
           rw [if_pos rfl] at H
           by_cases c26 : x5_1.length < 2932031007402
           · rw [if_pos c26] at H
             have LMc26 := Aside0.mk c26
             clear c26
             obtain ⟨y619, hy619⟩ : ∃ y_ : List (S66), y_ = (x5_1 ++ [(⟨(⟨((rd_T66 l0 x7_1).f0.f0), ((rd_T66 l0 x7_1).f0.f1), ((rd_T66 l0 x7_1).f0.f2)⟩ : S36), (⟨((rd_T66 l0 x7_1).f1.f0), ((rd_T66 l0 x7_1).f1.f1), ((rd_T66 l0 x7_1).f1.f2)⟩ : S36)⟩ : S66)]) := ⟨_, rfl⟩
             replace H : (intrusionref07_add.l0 kj5 l0 y619 x6_1 (wrap64 (x7_1 + 1)) x612000_1 x612001_1 x612002_1 x612003_1 x612004_1 x612005_1) = some r := by first | (rw [hy619]; with_reducible exact H) | (have H2_ := (Option.bind_some _ _).symm.trans H; rw [hy619]; with_reducible exact H2_) | (have H2_ := (Option.bind_some _ _).symm.trans H; with_reducible exact H2_) | with_reducible exact H | (rw [hy619]; exact H) | exact H
             have Ny619 := Aside0.mk hy619
             clear hy619
             have H' := Aside0.mk H
             clear H
             have hnb27 := NB616_611.out
             have hnc27 := NB611_616.out
             obtain ⟨hcz28_0, hcz28_1, hcz28_2, hcz28_3, hcz28_4, hcz28_5⟩ := zc6 BK616
             obtain ⟨hfz28_0, hfz28_1, hfz28_2, hfz28_3, hfz28_4, hfz28_5⟩ := zf6 BK616
             go_wp2_with (first | ((with_reducible refine gate_builtin (b := .append) (xs := #[.tmp 33, .tmp 35]) rfl ?_); at_builtin; refine Kd.R_append k66 (w0 := w) w.heap.size rfl (.tmp 33) (.tmp 35) 33 66 (.agg #[(.bool false), (.int .u64 0), (.int .u64 0), (.bool false), (.int .u64 0), (.int .u64 0)]) 48 rfl Try.underlying33 info66 rfl (by decide) (by omega) u5 x5_1 (⟨(⟨((rd_T66 l0 x7_1).f0.f0), ((rd_T66 l0 x7_1).f0.f1), ((rd_T66 l0 x7_1).f0.f2)⟩ : S36), (⟨((rd_T66 l0 x7_1).f1.f0), ((rd_T66 l0 x7_1).f1.f1), ((rd_T66 l0 x7_1).f1.f2)⟩ : S36)⟩ : S66) [.bool ((rd_T66 l0 x7_1).f0.f0), .int .u64 ((rd_T66 l0 x7_1).f0.f1), .int .u64 ((rd_T66 l0 x7_1).f0.f2), .bool ((rd_T66 l0 x7_1).f1.f0), .int .u64 ((rd_T66 l0 x7_1).f1.f1), .int .u64 ((rd_T66 l0 x7_1).f1.f2)] (fun k_ => k_ ≠ gb611 ∧ k_ ≠ gb616) (fun _ => False) rfl rfl ?aP (fun _ hk => hk.elim) ?aF ?aO ?aB ?aS ?aL ?_; (case aP => exact k66_mkM _ _ _ (⟨(⟨((rd_T66 l0 x7_1).f0.f0), ((rd_T66 l0 x7_1).f0.f1), ((rd_T66 l0 x7_1).f0.f2)⟩ : S36), (⟨((rd_T66 l0 x7_1).f1.f0), ((rd_T66 l0 x7_1).f1.f1), ((rd_T66 l0 x7_1).f1.f2)⟩ : S36)⟩ : S66)); (case aB => exact (zB HB)); (case aF => exact (fun k_ hk => ⟨Kd.freshB (g := gb611) (o := .cells #[.bool x612000_1, .int .u64 x612001_1, .int .u64 x612002_1, .bool x612003_1, .int .u64 x612004_1, .int .u64 x612005_1] 66 (0, 0)) (zK BK611) k_ hk, Kd.freshB (g := gb616) (o := .cells #[.bool ((rd_T66 l0 x7_1).f0.f0), .int .u64 ((rd_T66 l0 x7_1).f0.f1), .int .u64 ((rd_T66 l0 x7_1).f0.f2), .bool ((rd_T66 l0 x7_1).f1.f0), .int .u64 ((rd_T66 l0 x7_1).f1.f1), .int .u64 ((rd_T66 l0 x7_1).f1.f2)] 66 (0, 0)) (zK BK616) k_ hk⟩)); (case aO => exact (zR HO_5)); (case aS => exact (below_size (zB HB))); (case aL => have := LMc26.out; omega); intro v620 w29 ho hb hg hat; rw [← Ny619.out] at ho; replace BK611 := Aside0.mk (blk_grown (g := gb611) (o := .cells #[.bool x612000_1, .int .u64 x612001_1, .int .u64 x612002_1, .bool x612003_1, .int .u64 x612004_1, .int .u64 x612005_1] 66 (0, 0)) (zK BK611) hg (Kd.R_away HO_5.out (fun _ hk => hk.1))); replace BK616 := Aside0.mk (blk_grown (g := gb616) (o := .cells #[.bool ((rd_T66 l0 x7_1).f0.f0), .int .u64 ((rd_T66 l0 x7_1).f0.f1), .int .u64 ((rd_T66 l0 x7_1).f0.f2), .bool ((rd_T66 l0 x7_1).f1.f0), .int .u64 ((rd_T66 l0 x7_1).f1.f1), .int .u64 ((rd_T66 l0 x7_1).f1.f2)] 66 (0, 0)) (zK BK616) hg (Kd.R_away HO_5.out (fun _ hk => hk.2))); replace HB := Aside0.mk (hb); have HO621 := Aside0.mk (ho); clear HO_5; clear ho hb hg hat))
             go_roundg kj5
             case measure => have := HK1.out; have := HJ5.out; omega
             case rel => exact ⟨(y619), (x6_1), (wrap64 (x7_1 + 1)), (x612000_1), (x612001_1), (x612002_1), (x612003_1), (x612004_1), (x612005_1), (by first | rfl | (simp; done) | (simp [*]; done)), (by first | rfl | (simp; done) | (simp [*]; done)), H', ⟨by have := HK1.out; have := HJ5.out; omega⟩, ⟨by (with_reducible repeat (first | apply Kd.R_alloc | apply Kd.R_drewN | apply Kd.R_drew)); exact Kd.R_mono HO621.out (fun _ hk => hk.1)⟩, ⟨zK BK611⟩, ⟨zB HB⟩⟩
           · rw [if_neg c26] at H
             exact absurd H (by simp)
         · replace c25 := Bool.eq_false_iff.mpr c25
           subst c25
           rw [if_neg zF] at H
           have HC30 := Aside0.mk H
           clear H
           go_upto_region 9 with (fail)
           go_cut [47] (fun v47 wc => ∃ (kq : Nat) (x47_29 : Bool), v47 = .bool x47_29 ∧ Aside0 (intrusionref07_add.j2 kq l0 x5_1 x6_1 x7_1 x47_29 x612000_1 x612001_1 x612002_1 x612003_1 x612004_1 x612005_1 ((rd_T66 l0 x7_1).f0.f0) ((rd_T66 l0 x7_1).f0.f1) ((rd_T66 l0 x7_1).f0.f2) ((rd_T66 l0 x7_1).f1.f0) ((rd_T66 l0 x7_1).f1.f1) ((rd_T66 l0 x7_1).f1.f2) = some r) ∧ Aside0 (kq ≤ kj5) ∧ Aside0 (Kd.R k66 66 wc w.heap.size (fun k_ => k_ ≠ gb611 ∧ k_ ≠ gb616) u5 x5_1) ∧ Aside0 (wc.heap[gb611]? = some (.cells #[.bool x612000_1, .int .u64 x612001_1, .int .u64 x612002_1, .bool x612003_1, .int .u64 x612004_1, .int .u64 x612005_1] 66 (0, 0))) ∧ Aside0 (wc.heap[gb616]? = some (.cells #[.bool ((rd_T66 l0 x7_1).f0.f0), .int .u64 ((rd_T66 l0 x7_1).f0.f1), .int .u64 ((rd_T66 l0 x7_1).f0.f2), .bool ((rd_T66 l0 x7_1).f1.f0), .int .u64 ((rd_T66 l0 x7_1).f1.f1), .int .u64 ((rd_T66 l0 x7_1).f1.f2)] 66 (0, 0))) ∧ Aside0 (Below w.heap.size w wc))
           case first =>
            have H := HC30.out
            clear HC30
            replace H := Option.bind_eq_some_iff.mp H
            obtain ⟨t622, A310, H⟩ := H
            try dsimp only at H
            have A31 := Aside0.mk A310
            clear A310
            by_cases c32 : t622 = true
            · subst c32
              rw [if_pos rfl] at H
              replace H := Option.bind_eq_some_iff.mp H
              obtain ⟨t623, A330, H⟩ := H
              try dsimp only at H
              have A33 := Aside0.mk A330
              clear A330
              have H' := Aside0.mk H
              clear H
              have hnb34 := NB611_616.out
              have hnc34 := NB616_611.out
              obtain ⟨hcz35_0, hcz35_1, hcz35_2, hcz35_3, hcz35_4, hcz35_5⟩ := zc6 BK611
              obtain ⟨hfz35_0, hfz35_1, hfz35_2, hfz35_3, hfz35_4, hfz35_5⟩ := zf6 BK611
              obtain ⟨hcz36_0, hcz36_1, hcz36_2, hcz36_3, hcz36_4, hcz36_5⟩ := zc6 BK616
              obtain ⟨hfz36_0, hfz36_1, hfz36_2, hfz36_3, hfz36_4, hfz36_5⟩ := zf6 BK616
              go_wp2_with (first | ((with_reducible refine gate_callee (f := 80) rfl ?_); refine goesL_ (some 41) rfl rfl Try.func80 (by kernel_rfl) rfl #[.agg #[.bool x612003_1, .int .u64 x612004_1, .int .u64 x612005_1], .agg #[.bool ((rd_T66 l0 x7_1).f0.f0), .int .u64 ((rd_T66 l0 x7_1).f0.f1), .int .u64 ((rd_T66 l0 x7_1).f0.f2)]] rfl (by (try simp only [List.map_toArray, List.map_cons, List.map_nil]); first | done | rfl | (simp only [List.length_drop, List.length_take]; rfl)) ?_; (with_reducible refine (intrusionref07_Before.calls x612003_1 x612004_1 x612005_1 ((rd_T66 l0 x7_1).f0.f0) ((rd_T66 l0 x7_1).f0.f1) ((rd_T66 l0 x7_1).f0.f2) true _ A31.out).mono ?_); rintro e w37 ⟨rfl, hb⟩; refine ⟨_, rfl, ?_⟩; replace HO_5 := Aside0.mk (Kd.R_below (zR HO_5) hb); replace BK611 := Aside0.mk (blk_below (g := gb611) (o := .cells #[.bool x612000_1, .int .u64 x612001_1, .int .u64 x612002_1, .bool x612003_1, .int .u64 x612004_1, .int .u64 x612005_1] 66 (0, 0)) (zK BK611) hb); replace BK616 := Aside0.mk (blk_below (g := gb616) (o := .cells #[.bool ((rd_T66 l0 x7_1).f0.f0), .int .u64 ((rd_T66 l0 x7_1).f0.f1), .int .u64 ((rd_T66 l0 x7_1).f0.f2), .bool ((rd_T66 l0 x7_1).f1.f0), .int .u64 ((rd_T66 l0 x7_1).f1.f1), .int .u64 ((rd_T66 l0 x7_1).f1.f2)] 66 (0, 0)) (zK BK616) hb); replace HB := Aside0.mk (below_step (zB HB) hb); (try clear hb); obtain ⟨hcz38_0, hcz38_1, hcz38_2, hcz38_3, hcz38_4, hcz38_5⟩ := zc6 BK611; obtain ⟨hfz38_0, hfz38_1, hfz38_2, hfz38_3, hfz38_4, hfz38_5⟩ := zf6 BK611; obtain ⟨hcz39_0, hcz39_1, hcz39_2, hcz39_3, hcz39_4, hcz39_5⟩ := zc6 BK616; obtain ⟨hfz39_0, hfz39_1, hfz39_2, hfz39_3, hfz39_4, hfz39_5⟩ := zf6 BK616) | (go_at_call 81; (with_reducible refine (intrusionref07_joined.calls x612000_1 x612001_1 x612002_1 x612003_1 x612004_1 x612005_1 ((rd_T66 l0 x7_1).f0.f0) ((rd_T66 l0 x7_1).f0.f1) ((rd_T66 l0 x7_1).f0.f2) ((rd_T66 l0 x7_1).f1.f0) ((rd_T66 l0 x7_1).f1.f1) ((rd_T66 l0 x7_1).f1.f2) t623 _ A33.out).mono ?_); rintro e w40 ⟨rfl, hb⟩; replace HO_5 := Aside0.mk (Kd.R_below (zR HO_5) hb); replace BK611 := Aside0.mk (blk_below (g := gb611) (o := .cells #[.bool x612000_1, .int .u64 x612001_1, .int .u64 x612002_1, .bool x612003_1, .int .u64 x612004_1, .int .u64 x612005_1] 66 (0, 0)) (zK BK611) hb); replace BK616 := Aside0.mk (blk_below (g := gb616) (o := .cells #[.bool ((rd_T66 l0 x7_1).f0.f0), .int .u64 ((rd_T66 l0 x7_1).f0.f1), .int .u64 ((rd_T66 l0 x7_1).f0.f2), .bool ((rd_T66 l0 x7_1).f1.f0), .int .u64 ((rd_T66 l0 x7_1).f1.f1), .int .u64 ((rd_T66 l0 x7_1).f1.f2)] 66 (0, 0)) (zK BK616) hb); replace HB := Aside0.mk (below_step (zB HB) hb); (try clear hb)))
              go_meet
              case rel => exact ⟨_, (!t623), (by first | rfl | (simp; done) | (simp [*]; done)), H', ⟨by have := HK1.out; have := HJ5.out; first | omega | exact Nat.le_refl _⟩, ⟨zR HO_5⟩, ⟨zK BK611⟩, ⟨zK BK616⟩, ⟨zB HB⟩⟩
            · replace c32 := Bool.eq_false_iff.mpr c32
              subst c32
              rw [if_neg zF] at H
              have H' := Aside0.mk H
              clear H
              have hnb41 := NB611_616.out
              have hnc41 := NB616_611.out
              obtain ⟨hcz42_0, hcz42_1, hcz42_2, hcz42_3, hcz42_4, hcz42_5⟩ := zc6 BK611
              obtain ⟨hfz42_0, hfz42_1, hfz42_2, hfz42_3, hfz42_4, hfz42_5⟩ := zf6 BK611
              obtain ⟨hcz43_0, hcz43_1, hcz43_2, hcz43_3, hcz43_4, hcz43_5⟩ := zc6 BK616
              obtain ⟨hfz43_0, hfz43_1, hfz43_2, hfz43_3, hfz43_4, hfz43_5⟩ := zf6 BK616
              go_wp2_with (first | ((with_reducible refine gate_callee (f := 80) rfl ?_); refine goesL_ (some 41) rfl rfl Try.func80 (by kernel_rfl) rfl #[.agg #[.bool x612003_1, .int .u64 x612004_1, .int .u64 x612005_1], .agg #[.bool ((rd_T66 l0 x7_1).f0.f0), .int .u64 ((rd_T66 l0 x7_1).f0.f1), .int .u64 ((rd_T66 l0 x7_1).f0.f2)]] rfl (by (try simp only [List.map_toArray, List.map_cons, List.map_nil]); first | done | rfl | (simp only [List.length_drop, List.length_take]; rfl)) ?_; (with_reducible refine (intrusionref07_Before.calls x612003_1 x612004_1 x612005_1 ((rd_T66 l0 x7_1).f0.f0) ((rd_T66 l0 x7_1).f0.f1) ((rd_T66 l0 x7_1).f0.f2) false _ A31.out).mono ?_); rintro e w44 ⟨rfl, hb⟩; refine ⟨_, rfl, ?_⟩; replace HO_5 := Aside0.mk (Kd.R_below (zR HO_5) hb); replace BK611 := Aside0.mk (blk_below (g := gb611) (o := .cells #[.bool x612000_1, .int .u64 x612001_1, .int .u64 x612002_1, .bool x612003_1, .int .u64 x612004_1, .int .u64 x612005_1] 66 (0, 0)) (zK BK611) hb); replace BK616 := Aside0.mk (blk_below (g := gb616) (o := .cells #[.bool ((rd_T66 l0 x7_1).f0.f0), .int .u64 ((rd_T66 l0 x7_1).f0.f1), .int .u64 ((rd_T66 l0 x7_1).f0.f2), .bool ((rd_T66 l0 x7_1).f1.f0), .int .u64 ((rd_T66 l0 x7_1).f1.f1), .int .u64 ((rd_T66 l0 x7_1).f1.f2)] 66 (0, 0)) (zK BK616) hb); replace HB := Aside0.mk (below_step (zB HB) hb); (try clear hb)))
              go_meet
              case rel => exact ⟨_, (false), (by first | rfl | (simp; done) | (simp [*]; done)), H', ⟨by have := HK1.out; have := HJ5.out; first | omega | exact Nat.le_refl _⟩, ⟨zR HO_5⟩, ⟨zK BK611⟩, ⟨zK BK616⟩, ⟨zB HB⟩⟩
           case rest =>
            clear HC30
            try clear c1
            try clear c2
            try clear p2
            try clear c3
            try clear c4
            try clear c4b0
            try clear c5
            try clear c5b0
            try clear p6
            try clear q6
            try clear hx6
            try clear c7
            try clear c8
            try clear c10
            try clear c12
            try clear c14
            try clear c21
            try clear c25
            try clear c26
            try clear c27
            try clear c32
            try clear c34
            try clear c41
            try clear hcz15_0
            try clear hcz15_1
            try clear hcz15_2
            try clear hcz15_3
            try clear hcz15_4
            try clear hcz15_5
            try clear hcz16_0
            try clear hcz16_1
            try clear hcz16_2
            try clear hcz16_3
            try clear hcz16_4
            try clear hcz16_5
            try clear hcz18_0
            try clear hcz18_1
            try clear hcz18_2
            try clear hcz18_3
            try clear hcz18_4
            try clear hcz18_5
            try clear hcz19_0
            try clear hcz19_1
            try clear hcz19_2
            try clear hcz19_3
            try clear hcz19_4
            try clear hcz19_5
            try clear hcz22_0
            try clear hcz22_1
            try clear hcz22_2
            try clear hcz22_3
            try clear hcz22_4
            try clear hcz22_5
            try clear hcz23_0
            try clear hcz23_1
            try clear hcz23_2
            try clear hcz23_3
            try clear hcz23_4
            try clear hcz23_5
            try clear hcz28_0
            try clear hcz28_1
            try clear hcz28_2
            try clear hcz28_3
            try clear hcz28_4
            try clear hcz28_5
            try clear hcz35_0
            try clear hcz35_1
            try clear hcz35_2
            try clear hcz35_3
            try clear hcz35_4
            try clear hcz35_5
            try clear hcz36_0
            try clear hcz36_1
            try clear hcz36_2
            try clear hcz36_3
            try clear hcz36_4
            try clear hcz36_5
            try clear hcz38_0
            try clear hcz38_1
            try clear hcz38_2
            try clear hcz38_3
            try clear hcz38_4
            try clear hcz38_5
            try clear hcz39_0
            try clear hcz39_1
            try clear hcz39_2
            try clear hcz39_3
            try clear hcz39_4
            try clear hcz39_5
            try clear hcz42_0
            try clear hcz42_1
            try clear hcz42_2
            try clear hcz42_3
            try clear hcz42_4
            try clear hcz42_5
            try clear hcz43_0
            try clear hcz43_1
            try clear hcz43_2
            try clear hcz43_3
            try clear hcz43_4
            try clear hcz43_5
            try clear hcz9_0
            try clear hcz9_1
            try clear hcz9_2
            try clear hcz9_3
            try clear hcz9_4
            try clear hcz9_5
            try clear hfz15_0
            try clear hfz15_1
            try clear hfz15_2
            try clear hfz15_3
            try clear hfz15_4
            try clear hfz15_5
            try clear hfz16_0
            try clear hfz16_1
            try clear hfz16_2
            try clear hfz16_3
            try clear hfz16_4
            try clear hfz16_5
            try clear hfz18_0
            try clear hfz18_1
            try clear hfz18_2
            try clear hfz18_3
            try clear hfz18_4
            try clear hfz18_5
            try clear hfz19_0
            try clear hfz19_1
            try clear hfz19_2
            try clear hfz19_3
            try clear hfz19_4
            try clear hfz19_5
            try clear hfz22_0
            try clear hfz22_1
            try clear hfz22_2
            try clear hfz22_3
            try clear hfz22_4
            try clear hfz22_5
            try clear hfz23_0
            try clear hfz23_1
            try clear hfz23_2
            try clear hfz23_3
            try clear hfz23_4
            try clear hfz23_5
            try clear hfz28_0
            try clear hfz28_1
            try clear hfz28_2
            try clear hfz28_3
            try clear hfz28_4
            try clear hfz28_5
            try clear hfz35_0
            try clear hfz35_1
            try clear hfz35_2
            try clear hfz35_3
            try clear hfz35_4
            try clear hfz35_5
            try clear hfz36_0
            try clear hfz36_1
            try clear hfz36_2
            try clear hfz36_3
            try clear hfz36_4
            try clear hfz36_5
            try clear hfz38_0
            try clear hfz38_1
            try clear hfz38_2
            try clear hfz38_3
            try clear hfz38_4
            try clear hfz38_5
            try clear hfz39_0
            try clear hfz39_1
            try clear hfz39_2
            try clear hfz39_3
            try clear hfz39_4
            try clear hfz39_5
            try clear hfz42_0
            try clear hfz42_1
            try clear hfz42_2
            try clear hfz42_3
            try clear hfz42_4
            try clear hfz42_5
            try clear hfz43_0
            try clear hfz43_1
            try clear hfz43_2
            try clear hfz43_3
            try clear hfz43_4
            try clear hfz43_5
            try clear hfz9_0
            try clear hfz9_1
            try clear hfz9_2
            try clear hfz9_3
            try clear hfz9_4
            try clear hfz9_5
            try clear hx615_0
            try clear hx615_1
            try clear hx615_2
            try clear hx615_3
            try clear hx615_4
            try clear hx615_5
            try clear p2
            try clear p6
            try clear p615
            try clear q6
            try clear q615
            obtain ⟨kq, x47_29, rfl, HA, HJ29, HO_5, BK611, BK616, HB⟩ := hcut
            cases kq with
            | zero => exact absurd HA.out (by simp [intrusionref07_add.j2])
            | succ kj29 =>
             have H := HA.out
             clear HA
             simp only [intrusionref07_add.j2] at H
             by_cases c45 : x47_29 = true
             · subst c45
               rw [if_pos rfl] at H
               obtain ⟨y624, hy624⟩ : ∃ y_ : List (S66), y_ = (([(⟨(⟨x612000_1, x612001_1, x612002_1⟩ : S36), (⟨x612003_1, x612004_1, x612005_1⟩ : S36)⟩ : S66), (⟨(⟨((rd_T66 l0 x7_1).f0.f0), ((rd_T66 l0 x7_1).f0.f1), ((rd_T66 l0 x7_1).f0.f2)⟩ : S36), (⟨((rd_T66 l0 x7_1).f1.f0), ((rd_T66 l0 x7_1).f1.f1), ((rd_T66 l0 x7_1).f1.f2)⟩ : S36)⟩ : S66)] : List (S66))) := ⟨_, rfl⟩
               replace H : (if x5_1.length + y624.length < 2932031007402 then (intrusionref07_add.l0 kj29 l0 (x5_1 ++ y624) true (wrap64 (x7_1 + 1)) x612000_1 x612001_1 x612002_1 x612003_1 x612004_1 x612005_1) else (none)) = some r := by first | (rw [hy624]; with_reducible exact H) | (have H2_ := (Option.bind_some _ _).symm.trans H; rw [hy624]; with_reducible exact H2_) | (have H2_ := (Option.bind_some _ _).symm.trans H; with_reducible exact H2_) | with_reducible exact H | (rw [hy624]; exact H) | exact H
               have Ny624 := Aside0.mk hy624
               clear hy624
               by_cases c46 : x5_1.length + y624.length < 2932031007402
               · rw [if_pos c46] at H
                 have LMc46 := Aside0.mk c46
                 clear c46
                 obtain ⟨y627, hy627⟩ : ∃ y_ : List (S66), y_ = (x5_1 ++ y624) := ⟨_, rfl⟩
                 replace H : (intrusionref07_add.l0 kj29 l0 y627 true (wrap64 (x7_1 + 1)) x612000_1 x612001_1 x612002_1 x612003_1 x612004_1 x612005_1) = some r := by first | (rw [hy627]; with_reducible exact H) | (have H2_ := (Option.bind_some _ _).symm.trans H; rw [hy627]; with_reducible exact H2_) | (have H2_ := (Option.bind_some _ _).symm.trans H; with_reducible exact H2_) | with_reducible exact H | (rw [hy627]; exact H) | exact H
                 have Ny627 := Aside0.mk hy627
                 clear hy627
                 have H' := Aside0.mk H
                 clear H
                 have hnb47 := NB611_616.out
                 have hnc47 := NB616_611.out
                 obtain ⟨hcz48_0, hcz48_1, hcz48_2, hcz48_3, hcz48_4, hcz48_5⟩ := zc6 BK611
                 obtain ⟨hfz48_0, hfz48_1, hfz48_2, hfz48_3, hfz48_4, hfz48_5⟩ := zf6 BK611
                 obtain ⟨hcz49_0, hcz49_1, hcz49_2, hcz49_3, hcz49_4, hcz49_5⟩ := zc6 BK616
                 obtain ⟨hfz49_0, hfz49_1, hfz49_2, hfz49_3, hfz49_4, hfz49_5⟩ := zf6 BK616
                 go_wp2_with (first | ((with_reducible refine gate_dst (N := 51) rfl ?_); refine Kd.R_lit k66 _ 66 ?hg (N := 51) ?hd (xs := ([(⟨(⟨x612000_1, x612001_1, x612002_1⟩ : S36), (⟨x612003_1, x612004_1, x612005_1⟩ : S36)⟩ : S66), (⟨(⟨((rd_T66 l0 x7_1).f0.f0), ((rd_T66 l0 x7_1).f0.f1), ((rd_T66 l0 x7_1).f0.f2)⟩ : S36), (⟨((rd_T66 l0 x7_1).f1.f0), ((rd_T66 l0 x7_1).f1.f1), ((rd_T66 l0 x7_1).f1.f2)⟩ : S36)⟩ : S66)] : List (S66))) (inner := [.bool x612000_1, .int .u64 x612001_1, .int .u64 x612002_1, .bool x612003_1, .int .u64 x612004_1, .int .u64 x612005_1, .bool ((rd_T66 l0 x7_1).f0.f0), .int .u64 ((rd_T66 l0 x7_1).f0.f1), .int .u64 ((rd_T66 l0 x7_1).f0.f2), .bool ((rd_T66 l0 x7_1).f1.f0), .int .u64 ((rd_T66 l0 x7_1).f1.f1), .int .u64 ((rd_T66 l0 x7_1).f1.f2)]) (ok := fun _ => True) (okp := fun _ => True) ?hr ?hp (fun _ hk => hk) trivial (Below.refl _ _) (Nat.le_refl _) (by simp) ?_; (case hd => rfl); (case hg => rfl); (case hr => first | (go_simp; done) | (go_simp; rfl)); (case hp => exact (Reps.c6 (show Kd.M k66 _ _ _ (⟨(⟨x612000_1, x612001_1, x612002_1⟩ : S36), (⟨x612003_1, x612004_1, x612005_1⟩ : S36)⟩ : S66) [.bool x612000_1, .int .u64 x612001_1, .int .u64 x612002_1, .bool x612003_1, .int .u64 x612004_1, .int .u64 x612005_1] from (k66_mkM _ _ _ (⟨(⟨x612000_1, x612001_1, x612002_1⟩ : S36), (⟨x612003_1, x612004_1, x612005_1⟩ : S36)⟩ : S66) )) (Reps.c6 (show Kd.M k66 _ _ _ (⟨(⟨((rd_T66 l0 x7_1).f0.f0), ((rd_T66 l0 x7_1).f0.f1), ((rd_T66 l0 x7_1).f0.f2)⟩ : S36), (⟨((rd_T66 l0 x7_1).f1.f0), ((rd_T66 l0 x7_1).f1.f1), ((rd_T66 l0 x7_1).f1.f2)⟩ : S36)⟩ : S66) [.bool ((rd_T66 l0 x7_1).f0.f0), .int .u64 ((rd_T66 l0 x7_1).f0.f1), .int .u64 ((rd_T66 l0 x7_1).f0.f2), .bool ((rd_T66 l0 x7_1).f1.f0), .int .u64 ((rd_T66 l0 x7_1).f1.f1), .int .u64 ((rd_T66 l0 x7_1).f1.f2)] from (k66_mkM _ _ _ (⟨(⟨((rd_T66 l0 x7_1).f0.f0), ((rd_T66 l0 x7_1).f0.f1), ((rd_T66 l0 x7_1).f0.f2)⟩ : S36), (⟨((rd_T66 l0 x7_1).f1.f0), ((rd_T66 l0 x7_1).f1.f1), ((rd_T66 l0 x7_1).f1.f2)⟩ : S36)⟩ : S66) )) (Reps.none _ _)))); intro v625 w50 ho51 hb hg_ hnew_; clear hg_ hnew_; (first | rw [← Ny624.out] at ho51 | (simp only [Int.reduceToNat] at ho51; rw [← Ny624.out] at ho51)); have HO626 := Aside0.mk (Kd.R_lower (Kd.R_newB (Kd.R_newB (Kd.R_new' ho51 (Kd.R_lt (zR HO_5))) (g := gb611) (o := .cells #[.bool x612000_1, .int .u64 x612001_1, .int .u64 x612002_1, .bool x612003_1, .int .u64 x612004_1, .int .u64 x612005_1] 66 (0, 0)) (zK BK611)) (g := gb616) (o := .cells #[.bool ((rd_T66 l0 x7_1).f0.f0), .int .u64 ((rd_T66 l0 x7_1).f0.f1), .int .u64 ((rd_T66 l0 x7_1).f0.f2), .bool ((rd_T66 l0 x7_1).f1.f0), .int .u64 ((rd_T66 l0 x7_1).f1.f1), .int .u64 ((rd_T66 l0 x7_1).f1.f2)] 66 (0, 0)) (zK BK616)) (below_size (zB HB))); replace HO_5 := Aside0.mk (Kd.R_elder' (zR HO_5) (Kd.R_base ho51) hb); replace BK611 := Aside0.mk (blk_below (g := gb611) (o := .cells #[.bool x612000_1, .int .u64 x612001_1, .int .u64 x612002_1, .bool x612003_1, .int .u64 x612004_1, .int .u64 x612005_1] 66 (0, 0)) (zK BK611) hb); replace BK616 := Aside0.mk (blk_below (g := gb616) (o := .cells #[.bool ((rd_T66 l0 x7_1).f0.f0), .int .u64 ((rd_T66 l0 x7_1).f0.f1), .int .u64 ((rd_T66 l0 x7_1).f0.f2), .bool ((rd_T66 l0 x7_1).f1.f0), .int .u64 ((rd_T66 l0 x7_1).f1.f1), .int .u64 ((rd_T66 l0 x7_1).f1.f2)] 66 (0, 0)) (zK BK616) hb); replace HB := Aside0.mk (below_step (zB HB) hb); clear hb ho51; obtain ⟨Ao53, co53, eo53⟩ := Kd.R_slice HO626.out; subst eo53) | ((with_reducible refine gate_builtin (b := .append) (xs := #[.tmp 48, .tmp 51]) rfl ?_); at_builtin; refine Kd.R_append_rows k66 (w0 := w) w.heap.size rfl (.tmp 48) (.tmp 51) 33 66 (.agg #[(.bool false), (.int .u64 0), (.int .u64 0), (.bool false), (.int .u64 0), (.int .u64 0)]) 48 rfl Try.underlying33 info66 rfl (by decide) (by omega) u5 x5_1 y624 _ _ _ (fun k_ => some k_ ≠ (.slice Ao53 y624.length co53 : Value).ownBlock ∧ k_ ≠ gb611 ∧ k_ ≠ gb616) (fun _ => False) rfl rfl ?aO ?aR (fun _ _ h => h) (fun _ h => h.elim) ?aF ?aB ?aS ?aL ?_; (case aR => repeat (first | exact (Kd.R_reads' HO626.out).2.2 | (with_reducible refine Kd.C_alloc ?_ _) | (with_reducible refine Kd.C_drewN ?_ _) | (with_reducible refine Kd.C_drew ?_))); (case aB => exact (zB HB)); (case aF => exact (fun k_ hk => ⟨Kd.fresh' (Kd.R_lt (zR HO626)) k_ hk, Kd.freshB (g := gb611) (o := .cells #[.bool x612000_1, .int .u64 x612001_1, .int .u64 x612002_1, .bool x612003_1, .int .u64 x612004_1, .int .u64 x612005_1] 66 (0, 0)) (zK BK611) k_ hk, Kd.freshB (g := gb616) (o := .cells #[.bool ((rd_T66 l0 x7_1).f0.f0), .int .u64 ((rd_T66 l0 x7_1).f0.f1), .int .u64 ((rd_T66 l0 x7_1).f0.f2), .bool ((rd_T66 l0 x7_1).f1.f0), .int .u64 ((rd_T66 l0 x7_1).f1.f1), .int .u64 ((rd_T66 l0 x7_1).f1.f2)] 66 (0, 0)) (zK BK616) k_ hk⟩)); (case aO => exact (by (with_reducible repeat (first | apply Kd.R_alloc | apply Kd.R_drewN | apply Kd.R_drew)); exact Kd.R_mono HO_5.out (fun _ hk => ⟨hk.2, ⟨hk.1.1, hk.1.2⟩⟩))); (case aS => exact (below_size (zB HB))); (case aL => have := LMc46.out; omega); intro v628 w52 ho hb hg hat; rw [← Ny627.out] at ho; replace BK611 := Aside0.mk (blk_grown (g := gb611) (o := .cells #[.bool x612000_1, .int .u64 x612001_1, .int .u64 x612002_1, .bool x612003_1, .int .u64 x612004_1, .int .u64 x612005_1] 66 (0, 0)) (zK BK611) hg (Kd.R_away HO_5.out (fun _ hk => hk.1.1))); replace BK616 := Aside0.mk (blk_grown (g := gb616) (o := .cells #[.bool ((rd_T66 l0 x7_1).f0.f0), .int .u64 ((rd_T66 l0 x7_1).f0.f1), .int .u64 ((rd_T66 l0 x7_1).f0.f2), .bool ((rd_T66 l0 x7_1).f1.f0), .int .u64 ((rd_T66 l0 x7_1).f1.f1), .int .u64 ((rd_T66 l0 x7_1).f1.f2)] 66 (0, 0)) (zK BK616) hg (Kd.R_away HO_5.out (fun _ hk => hk.1.2))); replace HO626 := Aside0.mk (Kd.R_after (ok := (fun k_ => k_ ≠ gb611 ∧ k_ ≠ gb616)) (by (with_reducible repeat (first | apply Kd.R_alloc | apply Kd.R_drewN | apply Kd.R_drew)); exact Kd.R_mono HO626.out (fun _ hk => ⟨⟨hk.1.2, hk.2⟩, hk.1.1.2⟩)) hg hat); replace HB := Aside0.mk (hb); have HO629 := Aside0.mk (ho); clear HO_5; clear ho hb hg hat))
                 go_roundg kj29
                 case measure => have := HK1.out; have := HJ5.out; have := HJ29.out; omega
                 case rel => exact ⟨(y627), (true), (wrap64 (x7_1 + 1)), (x612000_1), (x612001_1), (x612002_1), (x612003_1), (x612004_1), (x612005_1), (by first | rfl | (simp; done) | (simp [*]; done)), (by first | rfl | (simp; done) | (simp [*]; done)), H', ⟨by have := HK1.out; have := HJ5.out; have := HJ29.out; omega⟩, ⟨by (with_reducible repeat (first | apply Kd.R_alloc | apply Kd.R_drewN | apply Kd.R_drew)); exact Kd.R_mono HO629.out (fun _ hk => hk.2.1)⟩, ⟨zK BK611⟩, ⟨zB HB⟩⟩
               · rw [if_neg c46] at H
                 exact absurd H (by simp)
             · replace c45 := Bool.eq_false_iff.mpr c45
               subst c45
               rw [if_neg zF] at H
               replace H := Option.bind_eq_some_iff.mp H
               obtain ⟨t630, A540, H⟩ := H
               try dsimp only at H
               have A54 := Aside0.mk A540
               clear A540
               by_cases c55 : t630 = true
               · subst c55
                 rw [if_pos rfl] at H
                 replace H := Option.bind_eq_some_iff.mp H
                 obtain ⟨t631, A560, H⟩ := H
                 try dsimp only at H
                 have A56 := Aside0.mk A560
                 clear A560
                 by_cases c57 : t631 = true
                 · subst c57
                   rw [if_pos rfl] at H
                   have H' := Aside0.mk H
                   clear H
                   have hnb58 := NB616_611.out
                   have hnc58 := NB611_616.out
                   obtain ⟨hcz59_0, hcz59_1, hcz59_2, hcz59_3, hcz59_4, hcz59_5⟩ := zc6 BK616
                   obtain ⟨hfz59_0, hfz59_1, hfz59_2, hfz59_3, hfz59_4, hfz59_5⟩ := zf6 BK616
                   obtain ⟨hcz60_0, hcz60_1, hcz60_2, hcz60_3, hcz60_4, hcz60_5⟩ := zc6 BK611
                   obtain ⟨hfz60_0, hfz60_1, hfz60_2, hfz60_3, hfz60_4, hfz60_5⟩ := zf6 BK611
                   go_wp2_with (first | ((with_reducible refine gate_callee (f := 80) rfl ?_); refine goesL_ (some 57) rfl rfl Try.func80 (by kernel_rfl) rfl #[.agg #[.bool ((rd_T66 l0 x7_1).f0.f0), .int .u64 ((rd_T66 l0 x7_1).f0.f1), .int .u64 ((rd_T66 l0 x7_1).f0.f2)], .agg #[.bool x612000_1, .int .u64 x612001_1, .int .u64 x612002_1]] rfl (by (try simp only [List.map_toArray, List.map_cons, List.map_nil]); first | done | rfl | (simp only [List.length_drop, List.length_take]; rfl)) ?_; (with_reducible refine (intrusionref07_Before.calls ((rd_T66 l0 x7_1).f0.f0) ((rd_T66 l0 x7_1).f0.f1) ((rd_T66 l0 x7_1).f0.f2) x612000_1 x612001_1 x612002_1 true _ A54.out).mono ?_); rintro e w61 ⟨rfl, hb⟩; refine ⟨_, rfl, ?_⟩; replace HO_5 := Aside0.mk (Kd.R_below (zR HO_5) hb); replace BK611 := Aside0.mk (blk_below (g := gb611) (o := .cells #[.bool x612000_1, .int .u64 x612001_1, .int .u64 x612002_1, .bool x612003_1, .int .u64 x612004_1, .int .u64 x612005_1] 66 (0, 0)) (zK BK611) hb); replace BK616 := Aside0.mk (blk_below (g := gb616) (o := .cells #[.bool ((rd_T66 l0 x7_1).f0.f0), .int .u64 ((rd_T66 l0 x7_1).f0.f1), .int .u64 ((rd_T66 l0 x7_1).f0.f2), .bool ((rd_T66 l0 x7_1).f1.f0), .int .u64 ((rd_T66 l0 x7_1).f1.f1), .int .u64 ((rd_T66 l0 x7_1).f1.f2)] 66 (0, 0)) (zK BK616) hb); replace HB := Aside0.mk (below_step (zB HB) hb); (try clear hb); obtain ⟨hcz62_0, hcz62_1, hcz62_2, hcz62_3, hcz62_4, hcz62_5⟩ := zc6 BK616; obtain ⟨hfz62_0, hfz62_1, hfz62_2, hfz62_3, hfz62_4, hfz62_5⟩ := zf6 BK616; obtain ⟨hcz63_0, hcz63_1, hcz63_2, hcz63_3, hcz63_4, hcz63_5⟩ := zc6 BK611; obtain ⟨hfz63_0, hfz63_1, hfz63_2, hfz63_3, hfz63_4, hfz63_5⟩ := zf6 BK611) | ((with_reducible refine gate_callee (f := 80) rfl ?_); refine goesL_ (some 65) rfl rfl Try.func80 (by kernel_rfl) rfl #[.agg #[.bool x612003_1, .int .u64 x612004_1, .int .u64 x612005_1], .agg #[.bool ((rd_T66 l0 x7_1).f1.f0), .int .u64 ((rd_T66 l0 x7_1).f1.f1), .int .u64 ((rd_T66 l0 x7_1).f1.f2)]] rfl (by (try simp only [List.map_toArray, List.map_cons, List.map_nil]); first | done | rfl | (simp only [List.length_drop, List.length_take]; rfl)) ?_; (with_reducible refine (intrusionref07_Before.calls x612003_1 x612004_1 x612005_1 ((rd_T66 l0 x7_1).f1.f0) ((rd_T66 l0 x7_1).f1.f1) ((rd_T66 l0 x7_1).f1.f2) true _ A56.out).mono ?_); rintro e w64 ⟨rfl, hb⟩; refine ⟨_, rfl, ?_⟩; replace HO_5 := Aside0.mk (Kd.R_below (zQ (Kd.R_mono (Kd.R_far (p := ⟨gb611, 2, none⟩) (Kd.R_far (p := ⟨gb611, 1, none⟩) (Kd.R_far (p := ⟨gb611, 0, none⟩) (Kd.R_mono HO_5.out (fun k_ hk => (⟨hk, hk.1⟩ : _ ∧ k_ ≠ gb611))) (fun _ hk => hk.2) (.bool ((rd_T66 l0 x7_1).f0.f0))) (fun _ hk => hk.2) (.int .u64 ((rd_T66 l0 x7_1).f0.f1))) (fun _ hk => hk.2) (.int .u64 ((rd_T66 l0 x7_1).f0.f2))) (fun _ h_ => h_.1))) hb); replace BK611 := Aside0.mk (blk_below (g := gb611) (o := .cells #[.bool ((rd_T66 l0 x7_1).f0.f0), .int .u64 ((rd_T66 l0 x7_1).f0.f1), .int .u64 ((rd_T66 l0 x7_1).f0.f2), .bool x612003_1, .int .u64 x612004_1, .int .u64 x612005_1] 66 (0, 0)) (by refine zL ?_; refine blk_put (cs := #[.bool ((rd_T66 l0 x7_1).f0.f0), .int .u64 ((rd_T66 l0 x7_1).f0.f1), .int .u64 x612002_1, .bool x612003_1, .int .u64 x612004_1, .int .u64 x612005_1]) ?_ 2 _ rfl; refine zL ?_; refine blk_put (cs := #[.bool ((rd_T66 l0 x7_1).f0.f0), .int .u64 x612001_1, .int .u64 x612002_1, .bool x612003_1, .int .u64 x612004_1, .int .u64 x612005_1]) ?_ 1 _ rfl; refine zL ?_; refine blk_put (cs := #[.bool x612000_1, .int .u64 x612001_1, .int .u64 x612002_1, .bool x612003_1, .int .u64 x612004_1, .int .u64 x612005_1]) ?_ 0 _ rfl; refine zL ?_; exact BK611.out) hb); replace BK616 := Aside0.mk (blk_below (g := gb616) (o := .cells #[.bool ((rd_T66 l0 x7_1).f0.f0), .int .u64 ((rd_T66 l0 x7_1).f0.f1), .int .u64 ((rd_T66 l0 x7_1).f0.f2), .bool ((rd_T66 l0 x7_1).f1.f0), .int .u64 ((rd_T66 l0 x7_1).f1.f1), .int .u64 ((rd_T66 l0 x7_1).f1.f2)] 66 (0, 0)) (by refine zL ?_; refine blk_far ?_ NB616_611.out _; refine zL ?_; refine blk_far ?_ NB616_611.out _; refine zL ?_; refine blk_far ?_ NB616_611.out _; refine zL ?_; exact BK616.out) hb); replace HB := Aside0.mk (below_step (zB HB) hb); (try clear hb); obtain ⟨hcz65_0, hcz65_1, hcz65_2, hcz65_3, hcz65_4, hcz65_5⟩ := zc6 BK616; obtain ⟨hfz65_0, hfz65_1, hfz65_2, hfz65_3, hfz65_4, hfz65_5⟩ := zf6 BK616; obtain ⟨hcz66_0, hcz66_1, hcz66_2, hcz66_3, hcz66_4, hcz66_5⟩ := zc6 BK611; obtain ⟨hfz66_0, hfz66_1, hfz66_2, hfz66_3, hfz66_4, hfz66_5⟩ := zf6 BK611))
                   go_roundg kj29
                   case measure => have := HK1.out; have := HJ5.out; have := HJ29.out; omega
                   case rel => exact ⟨(x5_1), (x6_1), (wrap64 (x7_1 + 1)), (((rd_T66 l0 x7_1).f0.f0)), (((rd_T66 l0 x7_1).f0.f1)), (((rd_T66 l0 x7_1).f0.f2)), (((rd_T66 l0 x7_1).f1.f0)), (((rd_T66 l0 x7_1).f1.f1)), (((rd_T66 l0 x7_1).f1.f2)), (by first | rfl | (simp; done) | (simp [*]; done)), (by first | rfl | (simp; done) | (simp [*]; done)), H', ⟨by have := HK1.out; have := HJ5.out; have := HJ29.out; omega⟩, ⟨by (with_reducible repeat (first | apply Kd.R_alloc | apply Kd.R_drewN | apply Kd.R_drew)); exact Kd.R_mono (Kd.R_far (p := ⟨gb611, 5, none⟩) (Kd.R_far (p := ⟨gb611, 4, none⟩) (Kd.R_far (p := ⟨gb611, 3, none⟩) (Kd.R_mono HO_5.out (fun k_ hk => (⟨hk, hk.1⟩ : _ ∧ k_ ≠ gb611))) (fun _ hk => hk.2) (.bool ((rd_T66 l0 x7_1).f1.f0))) (fun _ hk => hk.2) (.int .u64 ((rd_T66 l0 x7_1).f1.f1))) (fun _ hk => hk.2) (.int .u64 ((rd_T66 l0 x7_1).f1.f2))) (fun _ hk => hk.1.1)⟩, ⟨by refine zL ?_; refine blk_put (cs := #[.bool ((rd_T66 l0 x7_1).f0.f0), .int .u64 ((rd_T66 l0 x7_1).f0.f1), .int .u64 ((rd_T66 l0 x7_1).f0.f2), .bool ((rd_T66 l0 x7_1).f1.f0), .int .u64 ((rd_T66 l0 x7_1).f1.f1), .int .u64 x612005_1]) ?_ 5 _ rfl; refine zL ?_; refine blk_put (cs := #[.bool ((rd_T66 l0 x7_1).f0.f0), .int .u64 ((rd_T66 l0 x7_1).f0.f1), .int .u64 ((rd_T66 l0 x7_1).f0.f2), .bool ((rd_T66 l0 x7_1).f1.f0), .int .u64 x612004_1, .int .u64 x612005_1]) ?_ 4 _ rfl; refine zL ?_; refine blk_put (cs := #[.bool ((rd_T66 l0 x7_1).f0.f0), .int .u64 ((rd_T66 l0 x7_1).f0.f1), .int .u64 ((rd_T66 l0 x7_1).f0.f2), .bool x612003_1, .int .u64 x612004_1, .int .u64 x612005_1]) ?_ 3 _ rfl; refine zL ?_; exact BK611.out⟩, ⟨zB HB⟩⟩
                 · replace c57 := Bool.eq_false_iff.mpr c57
                   subst c57
                   rw [if_neg zF] at H
                   have H' := Aside0.mk H
                   clear H
                   have hnb67 := NB616_611.out
                   have hnc67 := NB611_616.out
                   obtain ⟨hcz68_0, hcz68_1, hcz68_2, hcz68_3, hcz68_4, hcz68_5⟩ := zc6 BK616
                   obtain ⟨hfz68_0, hfz68_1, hfz68_2, hfz68_3, hfz68_4, hfz68_5⟩ := zf6 BK616
                   obtain ⟨hcz69_0, hcz69_1, hcz69_2, hcz69_3, hcz69_4, hcz69_5⟩ := zc6 BK611
                   obtain ⟨hfz69_0, hfz69_1, hfz69_2, hfz69_3, hfz69_4, hfz69_5⟩ := zf6 BK611
                   go_wp2_with (first | ((with_reducible refine gate_callee (f := 80) rfl ?_); refine goesL_ (some 57) rfl rfl Try.func80 (by kernel_rfl) rfl #[.agg #[.bool ((rd_T66 l0 x7_1).f0.f0), .int .u64 ((rd_T66 l0 x7_1).f0.f1), .int .u64 ((rd_T66 l0 x7_1).f0.f2)], .agg #[.bool x612000_1, .int .u64 x612001_1, .int .u64 x612002_1]] rfl (by (try simp only [List.map_toArray, List.map_cons, List.map_nil]); first | done | rfl | (simp only [List.length_drop, List.length_take]; rfl)) ?_; (with_reducible refine (intrusionref07_Before.calls ((rd_T66 l0 x7_1).f0.f0) ((rd_T66 l0 x7_1).f0.f1) ((rd_T66 l0 x7_1).f0.f2) x612000_1 x612001_1 x612002_1 true _ A54.out).mono ?_); rintro e w70 ⟨rfl, hb⟩; refine ⟨_, rfl, ?_⟩; replace HO_5 := Aside0.mk (Kd.R_below (zR HO_5) hb); replace BK611 := Aside0.mk (blk_below (g := gb611) (o := .cells #[.bool x612000_1, .int .u64 x612001_1, .int .u64 x612002_1, .bool x612003_1, .int .u64 x612004_1, .int .u64 x612005_1] 66 (0, 0)) (zK BK611) hb); replace BK616 := Aside0.mk (blk_below (g := gb616) (o := .cells #[.bool ((rd_T66 l0 x7_1).f0.f0), .int .u64 ((rd_T66 l0 x7_1).f0.f1), .int .u64 ((rd_T66 l0 x7_1).f0.f2), .bool ((rd_T66 l0 x7_1).f1.f0), .int .u64 ((rd_T66 l0 x7_1).f1.f1), .int .u64 ((rd_T66 l0 x7_1).f1.f2)] 66 (0, 0)) (zK BK616) hb); replace HB := Aside0.mk (below_step (zB HB) hb); (try clear hb); obtain ⟨hcz71_0, hcz71_1, hcz71_2, hcz71_3, hcz71_4, hcz71_5⟩ := zc6 BK616; obtain ⟨hfz71_0, hfz71_1, hfz71_2, hfz71_3, hfz71_4, hfz71_5⟩ := zf6 BK616; obtain ⟨hcz72_0, hcz72_1, hcz72_2, hcz72_3, hcz72_4, hcz72_5⟩ := zc6 BK611; obtain ⟨hfz72_0, hfz72_1, hfz72_2, hfz72_3, hfz72_4, hfz72_5⟩ := zf6 BK611) | ((with_reducible refine gate_callee (f := 80) rfl ?_); refine goesL_ (some 65) rfl rfl Try.func80 (by kernel_rfl) rfl #[.agg #[.bool x612003_1, .int .u64 x612004_1, .int .u64 x612005_1], .agg #[.bool ((rd_T66 l0 x7_1).f1.f0), .int .u64 ((rd_T66 l0 x7_1).f1.f1), .int .u64 ((rd_T66 l0 x7_1).f1.f2)]] rfl (by (try simp only [List.map_toArray, List.map_cons, List.map_nil]); first | done | rfl | (simp only [List.length_drop, List.length_take]; rfl)) ?_; (with_reducible refine (intrusionref07_Before.calls x612003_1 x612004_1 x612005_1 ((rd_T66 l0 x7_1).f1.f0) ((rd_T66 l0 x7_1).f1.f1) ((rd_T66 l0 x7_1).f1.f2) false _ A56.out).mono ?_); rintro e w73 ⟨rfl, hb⟩; refine ⟨_, rfl, ?_⟩; replace HO_5 := Aside0.mk (Kd.R_below (zQ (Kd.R_mono (Kd.R_far (p := ⟨gb611, 2, none⟩) (Kd.R_far (p := ⟨gb611, 1, none⟩) (Kd.R_far (p := ⟨gb611, 0, none⟩) (Kd.R_mono HO_5.out (fun k_ hk => (⟨hk, hk.1⟩ : _ ∧ k_ ≠ gb611))) (fun _ hk => hk.2) (.bool ((rd_T66 l0 x7_1).f0.f0))) (fun _ hk => hk.2) (.int .u64 ((rd_T66 l0 x7_1).f0.f1))) (fun _ hk => hk.2) (.int .u64 ((rd_T66 l0 x7_1).f0.f2))) (fun _ h_ => h_.1))) hb); replace BK611 := Aside0.mk (blk_below (g := gb611) (o := .cells #[.bool ((rd_T66 l0 x7_1).f0.f0), .int .u64 ((rd_T66 l0 x7_1).f0.f1), .int .u64 ((rd_T66 l0 x7_1).f0.f2), .bool x612003_1, .int .u64 x612004_1, .int .u64 x612005_1] 66 (0, 0)) (by refine zL ?_; refine blk_put (cs := #[.bool ((rd_T66 l0 x7_1).f0.f0), .int .u64 ((rd_T66 l0 x7_1).f0.f1), .int .u64 x612002_1, .bool x612003_1, .int .u64 x612004_1, .int .u64 x612005_1]) ?_ 2 _ rfl; refine zL ?_; refine blk_put (cs := #[.bool ((rd_T66 l0 x7_1).f0.f0), .int .u64 x612001_1, .int .u64 x612002_1, .bool x612003_1, .int .u64 x612004_1, .int .u64 x612005_1]) ?_ 1 _ rfl; refine zL ?_; refine blk_put (cs := #[.bool x612000_1, .int .u64 x612001_1, .int .u64 x612002_1, .bool x612003_1, .int .u64 x612004_1, .int .u64 x612005_1]) ?_ 0 _ rfl; refine zL ?_; exact BK611.out) hb); replace BK616 := Aside0.mk (blk_below (g := gb616) (o := .cells #[.bool ((rd_T66 l0 x7_1).f0.f0), .int .u64 ((rd_T66 l0 x7_1).f0.f1), .int .u64 ((rd_T66 l0 x7_1).f0.f2), .bool ((rd_T66 l0 x7_1).f1.f0), .int .u64 ((rd_T66 l0 x7_1).f1.f1), .int .u64 ((rd_T66 l0 x7_1).f1.f2)] 66 (0, 0)) (by refine zL ?_; refine blk_far ?_ NB616_611.out _; refine zL ?_; refine blk_far ?_ NB616_611.out _; refine zL ?_; refine blk_far ?_ NB616_611.out _; refine zL ?_; exact BK616.out) hb); replace HB := Aside0.mk (below_step (zB HB) hb); (try clear hb)))
                   go_roundg kj29
                   case measure => have := HK1.out; have := HJ5.out; have := HJ29.out; omega
                   case rel => exact ⟨(x5_1), (x6_1), (wrap64 (x7_1 + 1)), (((rd_T66 l0 x7_1).f0.f0)), (((rd_T66 l0 x7_1).f0.f1)), (((rd_T66 l0 x7_1).f0.f2)), (x612003_1), (x612004_1), (x612005_1), (by first | rfl | (simp; done) | (simp [*]; done)), (by first | rfl | (simp; done) | (simp [*]; done)), H', ⟨by have := HK1.out; have := HJ5.out; have := HJ29.out; omega⟩, ⟨by (with_reducible repeat (first | apply Kd.R_alloc | apply Kd.R_drewN | apply Kd.R_drew)); exact Kd.R_mono HO_5.out (fun _ hk => hk.1)⟩, ⟨zK BK611⟩, ⟨zB HB⟩⟩
               · replace c55 := Bool.eq_false_iff.mpr c55
                 subst c55
                 rw [if_neg zF] at H
                 replace H := Option.bind_eq_some_iff.mp H
                 obtain ⟨t632, A740, H⟩ := H
                 try dsimp only at H
                 have A74 := Aside0.mk A740
                 clear A740
                 by_cases c75 : t632 = true
                 · subst c75
                   rw [if_pos rfl] at H
                   have H' := Aside0.mk H
                   clear H
                   have hnb76 := NB616_611.out
                   have hnc76 := NB611_616.out
                   obtain ⟨hcz77_0, hcz77_1, hcz77_2, hcz77_3, hcz77_4, hcz77_5⟩ := zc6 BK616
                   obtain ⟨hfz77_0, hfz77_1, hfz77_2, hfz77_3, hfz77_4, hfz77_5⟩ := zf6 BK616
                   obtain ⟨hcz78_0, hcz78_1, hcz78_2, hcz78_3, hcz78_4, hcz78_5⟩ := zc6 BK611
                   obtain ⟨hfz78_0, hfz78_1, hfz78_2, hfz78_3, hfz78_4, hfz78_5⟩ := zf6 BK611
                   go_wp2_with (first | ((with_reducible refine gate_callee (f := 80) rfl ?_); refine goesL_ (some 57) rfl rfl Try.func80 (by kernel_rfl) rfl #[.agg #[.bool ((rd_T66 l0 x7_1).f0.f0), .int .u64 ((rd_T66 l0 x7_1).f0.f1), .int .u64 ((rd_T66 l0 x7_1).f0.f2)], .agg #[.bool x612000_1, .int .u64 x612001_1, .int .u64 x612002_1]] rfl (by (try simp only [List.map_toArray, List.map_cons, List.map_nil]); first | done | rfl | (simp only [List.length_drop, List.length_take]; rfl)) ?_; (with_reducible refine (intrusionref07_Before.calls ((rd_T66 l0 x7_1).f0.f0) ((rd_T66 l0 x7_1).f0.f1) ((rd_T66 l0 x7_1).f0.f2) x612000_1 x612001_1 x612002_1 false _ A54.out).mono ?_); rintro e w79 ⟨rfl, hb⟩; refine ⟨_, rfl, ?_⟩; replace HO_5 := Aside0.mk (Kd.R_below (zR HO_5) hb); replace BK611 := Aside0.mk (blk_below (g := gb611) (o := .cells #[.bool x612000_1, .int .u64 x612001_1, .int .u64 x612002_1, .bool x612003_1, .int .u64 x612004_1, .int .u64 x612005_1] 66 (0, 0)) (zK BK611) hb); replace BK616 := Aside0.mk (blk_below (g := gb616) (o := .cells #[.bool ((rd_T66 l0 x7_1).f0.f0), .int .u64 ((rd_T66 l0 x7_1).f0.f1), .int .u64 ((rd_T66 l0 x7_1).f0.f2), .bool ((rd_T66 l0 x7_1).f1.f0), .int .u64 ((rd_T66 l0 x7_1).f1.f1), .int .u64 ((rd_T66 l0 x7_1).f1.f2)] 66 (0, 0)) (zK BK616) hb); replace HB := Aside0.mk (below_step (zB HB) hb); (try clear hb); obtain ⟨hcz80_0, hcz80_1, hcz80_2, hcz80_3, hcz80_4, hcz80_5⟩ := zc6 BK611; obtain ⟨hfz80_0, hfz80_1, hfz80_2, hfz80_3, hfz80_4, hfz80_5⟩ := zf6 BK611; obtain ⟨hcz81_0, hcz81_1, hcz81_2, hcz81_3, hcz81_4, hcz81_5⟩ := zc6 BK616; obtain ⟨hfz81_0, hfz81_1, hfz81_2, hfz81_3, hfz81_4, hfz81_5⟩ := zf6 BK616) | ((with_reducible refine gate_callee (f := 80) rfl ?_); refine goesL_ (some 65) rfl rfl Try.func80 (by kernel_rfl) rfl #[.agg #[.bool x612003_1, .int .u64 x612004_1, .int .u64 x612005_1], .agg #[.bool ((rd_T66 l0 x7_1).f1.f0), .int .u64 ((rd_T66 l0 x7_1).f1.f1), .int .u64 ((rd_T66 l0 x7_1).f1.f2)]] rfl (by (try simp only [List.map_toArray, List.map_cons, List.map_nil]); first | done | rfl | (simp only [List.length_drop, List.length_take]; rfl)) ?_; (with_reducible refine (intrusionref07_Before.calls x612003_1 x612004_1 x612005_1 ((rd_T66 l0 x7_1).f1.f0) ((rd_T66 l0 x7_1).f1.f1) ((rd_T66 l0 x7_1).f1.f2) true _ A74.out).mono ?_); rintro e w82 ⟨rfl, hb⟩; refine ⟨_, rfl, ?_⟩; replace HO_5 := Aside0.mk (Kd.R_below (zR HO_5) hb); replace BK611 := Aside0.mk (blk_below (g := gb611) (o := .cells #[.bool x612000_1, .int .u64 x612001_1, .int .u64 x612002_1, .bool x612003_1, .int .u64 x612004_1, .int .u64 x612005_1] 66 (0, 0)) (zK BK611) hb); replace BK616 := Aside0.mk (blk_below (g := gb616) (o := .cells #[.bool ((rd_T66 l0 x7_1).f0.f0), .int .u64 ((rd_T66 l0 x7_1).f0.f1), .int .u64 ((rd_T66 l0 x7_1).f0.f2), .bool ((rd_T66 l0 x7_1).f1.f0), .int .u64 ((rd_T66 l0 x7_1).f1.f1), .int .u64 ((rd_T66 l0 x7_1).f1.f2)] 66 (0, 0)) (zK BK616) hb); replace HB := Aside0.mk (below_step (zB HB) hb); (try clear hb); obtain ⟨hcz83_0, hcz83_1, hcz83_2, hcz83_3, hcz83_4, hcz83_5⟩ := zc6 BK616; obtain ⟨hfz83_0, hfz83_1, hfz83_2, hfz83_3, hfz83_4, hfz83_5⟩ := zf6 BK616; obtain ⟨hcz84_0, hcz84_1, hcz84_2, hcz84_3, hcz84_4, hcz84_5⟩ := zc6 BK611; obtain ⟨hfz84_0, hfz84_1, hfz84_2, hfz84_3, hfz84_4, hfz84_5⟩ := zf6 BK611))
                   go_roundg kj29
                   case measure => have := HK1.out; have := HJ5.out; have := HJ29.out; omega
                   case rel => exact ⟨(x5_1), (x6_1), (wrap64 (x7_1 + 1)), (x612000_1), (x612001_1), (x612002_1), (((rd_T66 l0 x7_1).f1.f0)), (((rd_T66 l0 x7_1).f1.f1)), (((rd_T66 l0 x7_1).f1.f2)), (by first | rfl | (simp; done) | (simp [*]; done)), (by first | rfl | (simp; done) | (simp [*]; done)), H', ⟨by have := HK1.out; have := HJ5.out; have := HJ29.out; omega⟩, ⟨by (with_reducible repeat (first | apply Kd.R_alloc | apply Kd.R_drewN | apply Kd.R_drew)); exact Kd.R_mono (Kd.R_far (p := ⟨gb611, 5, none⟩) (Kd.R_far (p := ⟨gb611, 4, none⟩) (Kd.R_far (p := ⟨gb611, 3, none⟩) (Kd.R_mono HO_5.out (fun k_ hk => (⟨hk, hk.1⟩ : _ ∧ k_ ≠ gb611))) (fun _ hk => hk.2) (.bool ((rd_T66 l0 x7_1).f1.f0))) (fun _ hk => hk.2) (.int .u64 ((rd_T66 l0 x7_1).f1.f1))) (fun _ hk => hk.2) (.int .u64 ((rd_T66 l0 x7_1).f1.f2))) (fun _ hk => hk.1.1)⟩, ⟨by refine zL ?_; refine blk_put (cs := #[.bool x612000_1, .int .u64 x612001_1, .int .u64 x612002_1, .bool ((rd_T66 l0 x7_1).f1.f0), .int .u64 ((rd_T66 l0 x7_1).f1.f1), .int .u64 x612005_1]) ?_ 5 _ rfl; refine zL ?_; refine blk_put (cs := #[.bool x612000_1, .int .u64 x612001_1, .int .u64 x612002_1, .bool ((rd_T66 l0 x7_1).f1.f0), .int .u64 x612004_1, .int .u64 x612005_1]) ?_ 4 _ rfl; refine zL ?_; refine blk_put (cs := #[.bool x612000_1, .int .u64 x612001_1, .int .u64 x612002_1, .bool x612003_1, .int .u64 x612004_1, .int .u64 x612005_1]) ?_ 3 _ rfl; refine zL ?_; exact BK611.out⟩, ⟨zB HB⟩⟩
                 · replace c75 := Bool.eq_false_iff.mpr c75
                   subst c75
                   rw [if_neg zF] at H
                   have H' := Aside0.mk H
                   clear H
                   have hnb85 := NB616_611.out
                   have hnc85 := NB611_616.out
                   obtain ⟨hcz86_0, hcz86_1, hcz86_2, hcz86_3, hcz86_4, hcz86_5⟩ := zc6 BK616
                   obtain ⟨hfz86_0, hfz86_1, hfz86_2, hfz86_3, hfz86_4, hfz86_5⟩ := zf6 BK616
                   obtain ⟨hcz87_0, hcz87_1, hcz87_2, hcz87_3, hcz87_4, hcz87_5⟩ := zc6 BK611
                   obtain ⟨hfz87_0, hfz87_1, hfz87_2, hfz87_3, hfz87_4, hfz87_5⟩ := zf6 BK611
                   go_wp2_with (first | ((with_reducible refine gate_callee (f := 80) rfl ?_); refine goesL_ (some 57) rfl rfl Try.func80 (by kernel_rfl) rfl #[.agg #[.bool ((rd_T66 l0 x7_1).f0.f0), .int .u64 ((rd_T66 l0 x7_1).f0.f1), .int .u64 ((rd_T66 l0 x7_1).f0.f2)], .agg #[.bool x612000_1, .int .u64 x612001_1, .int .u64 x612002_1]] rfl (by (try simp only [List.map_toArray, List.map_cons, List.map_nil]); first | done | rfl | (simp only [List.length_drop, List.length_take]; rfl)) ?_; (with_reducible refine (intrusionref07_Before.calls ((rd_T66 l0 x7_1).f0.f0) ((rd_T66 l0 x7_1).f0.f1) ((rd_T66 l0 x7_1).f0.f2) x612000_1 x612001_1 x612002_1 false _ A54.out).mono ?_); rintro e w88 ⟨rfl, hb⟩; refine ⟨_, rfl, ?_⟩; replace HO_5 := Aside0.mk (Kd.R_below (zR HO_5) hb); replace BK611 := Aside0.mk (blk_below (g := gb611) (o := .cells #[.bool x612000_1, .int .u64 x612001_1, .int .u64 x612002_1, .bool x612003_1, .int .u64 x612004_1, .int .u64 x612005_1] 66 (0, 0)) (zK BK611) hb); replace BK616 := Aside0.mk (blk_below (g := gb616) (o := .cells #[.bool ((rd_T66 l0 x7_1).f0.f0), .int .u64 ((rd_T66 l0 x7_1).f0.f1), .int .u64 ((rd_T66 l0 x7_1).f0.f2), .bool ((rd_T66 l0 x7_1).f1.f0), .int .u64 ((rd_T66 l0 x7_1).f1.f1), .int .u64 ((rd_T66 l0 x7_1).f1.f2)] 66 (0, 0)) (zK BK616) hb); replace HB := Aside0.mk (below_step (zB HB) hb); (try clear hb); obtain ⟨hcz89_0, hcz89_1, hcz89_2, hcz89_3, hcz89_4, hcz89_5⟩ := zc6 BK611; obtain ⟨hfz89_0, hfz89_1, hfz89_2, hfz89_3, hfz89_4, hfz89_5⟩ := zf6 BK611; obtain ⟨hcz90_0, hcz90_1, hcz90_2, hcz90_3, hcz90_4, hcz90_5⟩ := zc6 BK616; obtain ⟨hfz90_0, hfz90_1, hfz90_2, hfz90_3, hfz90_4, hfz90_5⟩ := zf6 BK616) | ((with_reducible refine gate_callee (f := 80) rfl ?_); refine goesL_ (some 65) rfl rfl Try.func80 (by kernel_rfl) rfl #[.agg #[.bool x612003_1, .int .u64 x612004_1, .int .u64 x612005_1], .agg #[.bool ((rd_T66 l0 x7_1).f1.f0), .int .u64 ((rd_T66 l0 x7_1).f1.f1), .int .u64 ((rd_T66 l0 x7_1).f1.f2)]] rfl (by (try simp only [List.map_toArray, List.map_cons, List.map_nil]); first | done | rfl | (simp only [List.length_drop, List.length_take]; rfl)) ?_; (with_reducible refine (intrusionref07_Before.calls x612003_1 x612004_1 x612005_1 ((rd_T66 l0 x7_1).f1.f0) ((rd_T66 l0 x7_1).f1.f1) ((rd_T66 l0 x7_1).f1.f2) false _ A74.out).mono ?_); rintro e w91 ⟨rfl, hb⟩; refine ⟨_, rfl, ?_⟩; replace HO_5 := Aside0.mk (Kd.R_below (zR HO_5) hb); replace BK611 := Aside0.mk (blk_below (g := gb611) (o := .cells #[.bool x612000_1, .int .u64 x612001_1, .int .u64 x612002_1, .bool x612003_1, .int .u64 x612004_1, .int .u64 x612005_1] 66 (0, 0)) (zK BK611) hb); replace BK616 := Aside0.mk (blk_below (g := gb616) (o := .cells #[.bool ((rd_T66 l0 x7_1).f0.f0), .int .u64 ((rd_T66 l0 x7_1).f0.f1), .int .u64 ((rd_T66 l0 x7_1).f0.f2), .bool ((rd_T66 l0 x7_1).f1.f0), .int .u64 ((rd_T66 l0 x7_1).f1.f1), .int .u64 ((rd_T66 l0 x7_1).f1.f2)] 66 (0, 0)) (zK BK616) hb); replace HB := Aside0.mk (below_step (zB HB) hb); (try clear hb)))
                   go_roundg kj29
                   case measure => have := HK1.out; have := HJ5.out; have := HJ29.out; omega
                   case rel => exact ⟨(x5_1), (x6_1), (wrap64 (x7_1 + 1)), (x612000_1), (x612001_1), (x612002_1), (x612003_1), (x612004_1), (x612005_1), (by first | rfl | (simp; done) | (simp [*]; done)), (by first | rfl | (simp; done) | (simp [*]; done)), H', ⟨by have := HK1.out; have := HJ5.out; have := HJ29.out; omega⟩, ⟨by (with_reducible repeat (first | apply Kd.R_alloc | apply Kd.R_drewN | apply Kd.R_drew)); exact Kd.R_mono HO_5.out (fun _ hk => hk.1)⟩, ⟨zK BK611⟩, ⟨zB HB⟩⟩
     · rw [if_neg c5] at H
       exact absurd H (by simp)
   · rw [if_neg c4] at H
     have c4b0 : decide (x7_1 < (l0.length : Int)) = false := decide_eq_false c4
     clear c4
     by_cases c92 : x6_1 = true
     · subst c92
       rw [if_pos rfl] at H
       obtain rfl := Option.some.inj H
       go_wp2
       go_ret
       exact ⟨_, by first | rfl | (simp [errW_none, errW_some] <;> rfl) | (simp [*, errW_none, errW_some] <;> rfl), by (with_reducible repeat (first | apply Kd.R_alloc | apply Kd.R_drewN | apply Kd.R_drew)); exact Kd.R_mono HO_5.out (fun _ hk => trivial), by repeat (first | (with_reducible first | exact HB.out | apply below_alloc | apply pw_below_drewN | apply below_drew1 | refine below_set ?_ GE611.out) | exact HB.out)⟩
     · replace c92 := Bool.eq_false_iff.mpr c92
       subst c92
       rw [if_neg zF] at H
       by_cases c93 : x5_1.length < 2932031007402
       · rw [if_pos c93] at H
         have LMc93 := Aside0.mk c93
         clear c93
         obtain ⟨y612, hy612⟩ : ∃ y_ : List (S66), y_ = (x5_1 ++ [(⟨(⟨x612000_1, x612001_1, x612002_1⟩ : S36), (⟨x612003_1, x612004_1, x612005_1⟩ : S36)⟩ : S66)]) := ⟨_, rfl⟩
         replace H : (some y612) = some r := by first | (rw [hy612]; with_reducible exact H) | (have H2_ := (Option.bind_some _ _).symm.trans H; rw [hy612]; with_reducible exact H2_) | (have H2_ := (Option.bind_some _ _).symm.trans H; with_reducible exact H2_) | with_reducible exact H | (rw [hy612]; exact H) | exact H
         have Ny612 := Aside0.mk hy612
         clear hy612
         obtain rfl := Option.some.inj H
         obtain ⟨hcz94_0, hcz94_1, hcz94_2, hcz94_3, hcz94_4, hcz94_5⟩ := zc6 BK611
         obtain ⟨hfz94_0, hfz94_1, hfz94_2, hfz94_3, hfz94_4, hfz94_5⟩ := zf6 BK611
         go_wp2_with (first | ((with_reducible refine gate_builtin (b := .append) (xs := #[.tmp 71, .tmp 73]) rfl ?_); at_builtin; refine Kd.R_append k66 (w0 := w) w.heap.size rfl (.tmp 71) (.tmp 73) 33 66 (.agg #[(.bool false), (.int .u64 0), (.int .u64 0), (.bool false), (.int .u64 0), (.int .u64 0)]) 48 rfl Try.underlying33 info66 rfl (by decide) (by omega) u5 x5_1 (⟨(⟨x612000_1, x612001_1, x612002_1⟩ : S36), (⟨x612003_1, x612004_1, x612005_1⟩ : S36)⟩ : S66) [.bool x612000_1, .int .u64 x612001_1, .int .u64 x612002_1, .bool x612003_1, .int .u64 x612004_1, .int .u64 x612005_1] (fun k_ => k_ ≠ gb611) (fun _ => False) rfl rfl ?aP (fun _ hk => hk.elim) ?aF ?aO ?aB ?aS ?aL ?_; (case aP => exact k66_mkM _ _ _ (⟨(⟨x612000_1, x612001_1, x612002_1⟩ : S36), (⟨x612003_1, x612004_1, x612005_1⟩ : S36)⟩ : S66)); (case aB => exact (zB HB)); (case aF => exact (fun k_ hk => Kd.freshB (g := gb611) (o := .cells #[.bool x612000_1, .int .u64 x612001_1, .int .u64 x612002_1, .bool x612003_1, .int .u64 x612004_1, .int .u64 x612005_1] 66 (0, 0)) (zK BK611) k_ hk)); (case aO => exact (zR HO_5)); (case aS => exact (below_size (zB HB))); (case aL => have := LMc93.out; omega); intro v613 w95 ho hb hg hat; rw [← Ny612.out] at ho; replace BK611 := Aside0.mk (blk_grown (g := gb611) (o := .cells #[.bool x612000_1, .int .u64 x612001_1, .int .u64 x612002_1, .bool x612003_1, .int .u64 x612004_1, .int .u64 x612005_1] 66 (0, 0)) (zK BK611) hg (Kd.R_away HO_5.out (fun _ hk => hk))); replace HB := Aside0.mk (hb); have HO614 := Aside0.mk (ho); clear HO_5; clear ho hb hg hat))
         go_ret
         exact ⟨_, by first | rfl | (simp [errW_none, errW_some] <;> rfl) | (simp [*, errW_none, errW_some] <;> rfl), by (with_reducible repeat (first | apply Kd.R_alloc | apply Kd.R_drewN | apply Kd.R_drew)); exact Kd.R_mono HO614.out (fun _ hk => trivial), by repeat (first | (with_reducible first | exact HB.out | apply below_alloc | apply pw_below_drewN | apply below_drew1 | refine below_set ?_ GE611.out) | exact HB.out)⟩
       · rw [if_neg c93] at H
         exact absurd H (by simp)
end Go.Proofs.Ytcgfpffgiimgmaa.Q
end

section
namespace Go.Proofs.Ytcgfpffgiimgmaa.Q
open Go.RowKit Go.Proofs.YtcgfpffgiimgmaaW.PrintWords Go.Proofs.YtcgfpffgiimgmaaW.PrintLast Go.Proofs.YtcgfpffgiimgmaaW.PrintMore
attribute [local go_sem] max2_int min2_int max_two min_two max_three min_three max_four min_four
set_option linter.unusedVariables false
set_option linter.unusedSimpArgs false
def intrusionref07_Normal.l0 : Nat → List (S66) → List (S66) → Int → Option ((List (S66)))
  | 0, _, _, _ => none
  | k + 1, x0, x3, x4 => if x4 < (x0.length : Int) then (if 0 ≤ x4 then ((intrusionref07_Some.f ((rd_T66 x0 x4).f0.f0) ((rd_T66 x0 x4).f0.f1) ((rd_T66 x0 x4).f0.f2) ((rd_T66 x0 x4).f1.f0) ((rd_T66 x0 x4).f1.f1) ((rd_T66 x0 x4).f1.f2)).bind fun t634 => (if t634 = true then ((intrusionref07_add.f k x3 ((rd_T66 x0 x4).f0.f0) ((rd_T66 x0 x4).f0.f1) ((rd_T66 x0 x4).f0.f2) ((rd_T66 x0 x4).f1.f0) ((rd_T66 x0 x4).f1.f1) ((rd_T66 x0 x4).f1.f2)).bind fun t636 => (intrusionref07_Normal.l0 k x0 t636 (wrap64 (x4 + 1)))) else (intrusionref07_Normal.l0 k x0 x3 (wrap64 (x4 + 1))))) else (none)) else (some x3)
def intrusionref07_Normal.f (k : Nat) (l0 : List (S66)) : Option ((List (S66))) := intrusionref07_Normal.l0 k l0 ([] : List (S66)) 0
theorem intrusionref07_Normal.mono_l : ∀ k, (∀ y0 y1 y2, LeO (intrusionref07_Normal.l0 k y0 y1 y2) (intrusionref07_Normal.l0 (k + 1) y0 y1 y2))
  | 0 => fun _ _ _ r h => by simp [intrusionref07_Normal.l0] at h
  | k + 1 => by
    have ih0 := intrusionref07_Normal.mono_l k
    · intro y0 y1 y2
      unfold intrusionref07_Normal.l0
      repeat' first
      | (with_reducible exact ih0 _ _ _)
      | (with_reducible exact intrusionref07_add.mono _ _ _ _ _ _ _ _)
      | (with_reducible exact LeO.refl _)
      | (with_reducible exact LeO.none _)
      | (with_reducible refine LeO.ite ?_ ?_)
      | (with_reducible refine LeO.bind ?_ (fun _ => ?_))
      | exact ih0 _ _ _
      | exact intrusionref07_add.mono _ _ _ _ _ _ _ _
      | exact LeO.none _
      | refine LeO.ite ?_ ?_
      | refine LeO.bind ?_ (fun _ => ?_)
theorem intrusionref07_Normal.mono : ∀ a0 k, LeO (intrusionref07_Normal.f k a0) (intrusionref07_Normal.f (k + 1) a0) := by
  intro a0 k
  have ih0 := intrusionref07_Normal.mono_l k
  unfold intrusionref07_Normal.f
  repeat' first
      | (with_reducible exact ih0 _ _ _)
      | (with_reducible exact intrusionref07_add.mono _ _ _ _ _ _ _ _)
      | (with_reducible exact LeO.refl _)
      | (with_reducible exact LeO.none _)
      | (with_reducible refine LeO.ite ?_ ?_)
      | (with_reducible refine LeO.bind ?_ (fun _ => ?_))
      | exact ih0 _ _ _
      | exact intrusionref07_add.mono _ _ _ _ _ _ _ _
      | exact LeO.none _
      | refine LeO.ite ?_ ?_
      | refine LeO.bind ?_ (fun _ => ?_)
set_option maxHeartbeats 8000000 in
set_option maxRecDepth 100000 in
theorem intrusionref07_Normal.calls (k : Nat) (A0 : Option Addr) (c0 : Nat) (l0 : List (S66)) (r : List (S66)) (w : World) (hr0 : Kd.C k66 w A0 l0.length l0) (hc0 : l0.length ≤ c0) (h : intrusionref07_Normal.f k l0 = some r) :
 Calls Try.prog 39 #[.slice A0 l0.length c0] w fun e w' => ∃ v0_ : Value, e = .returned (v0_) ∧ Kd.R k66 66 w' w.heap.size (fun _ => True) v0_ r ∧ Below w.heap.size w w' := by
 have hu66 := Try.underlying66
 have HR0 := Aside0.mk hr0
 have HC0 := Aside0.mk hc0
 clear hr0 hc0
 have HB := Aside0.mk (Below.refl w.heap.size w)
 have H : (intrusionref07_Normal.l0 k l0 ([] : List (S66)) 0) = some r := h
 clear h
 have H' := Aside0.mk H
 clear H
 go_enter Try.func39, Try.ntmps39
 go_wp2
 go_loopg [3, 4] k (fun kq v3 v4 w' => ∃ (x3_1 : List (S66)) (x4_1 : Int), v4 = .int .i64 x4_1 ∧ Aside0 (intrusionref07_Normal.l0 kq l0 x3_1 x4_1 = some r) ∧ Aside0 (kq ≤ k) ∧ Aside0 (Kd.R k66 66 w' w.heap.size (fun _ => True) v3 x3_1) ∧ Aside0 (Below w.heap.size w w'))
 case atStart => exact ⟨(([] : List (S66))), (0), (by first | rfl | (simp; done) | (simp [*]; done)), H', ⟨Nat.le_refl _⟩, ⟨by first | exact Kd.R_nil _ _ _ _ _ | exact Kd.N_nil _ _ _ _ _ | exact Kd.V_nil _ _ _ _ _ | exact Kd.Q_nil _ _ _ _ _ | exact Kd.S_nil _ _ _ _ _⟩, ⟨zB HB⟩⟩
 case round =>
  clear H'
  obtain ⟨x3_1, x4_1, rfl, HA, HK1, HO_3, HB⟩ := hrel
  cases gk with
  | zero => exact absurd HA.out (by simp [intrusionref07_Normal.l0])
  | succ k1 =>
   have H := HA.out
   clear HA
   simp only [intrusionref07_Normal.l0] at H
   by_cases c2 : x4_1 < (l0.length : Int)
   · rw [if_pos c2] at H
     have c2b0 : decide (x4_1 < (l0.length : Int)) = true := decide_eq_true c2
     clear c2
     by_cases c3 : 0 ≤ x4_1
     · rw [if_pos c3] at H
       have c3b0 : decide (0 ≤ x4_1) = true := decide_eq_true c3
       clear c3
       replace H := Option.bind_eq_some_iff.mp H
       obtain ⟨t634, A40, H⟩ := H
       try dsimp only at H
       have A4 := Aside0.mk A40
       clear A40
       by_cases c5 : t634 = true
       · subst c5
         rw [if_pos rfl] at H
         replace H := Option.bind_eq_some_iff.mp H
         obtain ⟨t636, A60, H⟩ := H
         try dsimp only at H
         have A6 := Aside0.mk A60
         clear A60
         have H' := Aside0.mk H
         clear H
         have p633 : 0 ≤ (x4_1 : Int) := za
         have q633 : x4_1 < (l0.length : Int) := za
         obtain ⟨ad633, e633, hx633_0, hx633_1, hx633_2, hx633_3, hx633_4, hx633_5⟩ := at_T66 HR0.out x4_1 p633 q633
         cases e633
         replace hx633_0 := zh HB hx633_0
         replace hx633_1 := zh HB hx633_1
         replace hx633_2 := zh HB hx633_2
         replace hx633_3 := zh HB hx633_3
         replace hx633_4 := zh HB hx633_4
         replace hx633_5 := zh HB hx633_5
         replace p633 := eq_true p633
         replace q633 := eq_true q633
         go_wp2_with (first | ((with_reducible refine gate_callee (f := 78) rfl ?_); refine goesL_ (some 15) rfl rfl Try.func78 (by kernel_rfl) rfl #[.agg #[.bool ((rd_T66 l0 x4_1).f0.f0), .int .u64 ((rd_T66 l0 x4_1).f0.f1), .int .u64 ((rd_T66 l0 x4_1).f0.f2), .bool ((rd_T66 l0 x4_1).f1.f0), .int .u64 ((rd_T66 l0 x4_1).f1.f1), .int .u64 ((rd_T66 l0 x4_1).f1.f2)]] rfl (by (try simp only [List.map_toArray, List.map_cons, List.map_nil]); first | done | rfl | (simp only [List.length_drop, List.length_take]; rfl)) ?_; (with_reducible refine (intrusionref07_Some.calls ((rd_T66 l0 x4_1).f0.f0) ((rd_T66 l0 x4_1).f0.f1) ((rd_T66 l0 x4_1).f0.f2) ((rd_T66 l0 x4_1).f1.f0) ((rd_T66 l0 x4_1).f1.f1) ((rd_T66 l0 x4_1).f1.f2) true _ A4.out).mono ?_); rintro e w7 ⟨rfl, hb⟩; refine ⟨_, rfl, ?_⟩; replace HO_3 := Aside0.mk (Kd.R_below (zR HO_3) hb); replace HB := Aside0.mk (below_step (zB HB) hb); (try clear hb); have p635 : 0 ≤ (x4_1 : Int) := za; have q635 : x4_1 < (l0.length : Int) := za; obtain ⟨ad635, e635, hx635_0, hx635_1, hx635_2, hx635_3, hx635_4, hx635_5⟩ := at_T66 HR0.out x4_1 p635 q635; obtain rfl : ad633 = ad635 := (by injection e635); replace hx635_0 := zh HB hx635_0; replace hx635_1 := zh HB hx635_1; replace hx635_2 := zh HB hx635_2; replace hx635_3 := zh HB hx635_3; replace hx635_4 := zh HB hx635_4; replace hx635_5 := zh HB hx635_5; replace p635 := eq_true p635; replace q635 := eq_true q635; obtain ⟨Ao8, co8, eo8⟩ := Kd.R_slice HO_3.out; subst eo8) | ((with_reducible refine gate_callee (f := 79) rfl ?_); refine goesL_ (some 21) rfl rfl Try.func79 (by kernel_rfl) rfl #[.slice Ao8 x3_1.length co8, .agg #[.bool ((rd_T66 l0 x4_1).f0.f0), .int .u64 ((rd_T66 l0 x4_1).f0.f1), .int .u64 ((rd_T66 l0 x4_1).f0.f2), .bool ((rd_T66 l0 x4_1).f1.f0), .int .u64 ((rd_T66 l0 x4_1).f1.f1), .int .u64 ((rd_T66 l0 x4_1).f1.f2)]] rfl (by (try simp only [List.map_toArray, List.map_cons, List.map_nil]); first | done | rfl | (simp only [List.length_drop, List.length_take]; rfl)) ?_; (with_reducible refine (intrusionref07_add.calls k1 _ _ x3_1 ((rd_T66 l0 x4_1).f0.f0) ((rd_T66 l0 x4_1).f0.f1) ((rd_T66 l0 x4_1).f0.f2) ((rd_T66 l0 x4_1).f1.f0) ((rd_T66 l0 x4_1).f1.f1) ((rd_T66 l0 x4_1).f1.f2) t636 _ ?side1 ?side2 A6.out).mono ?_); (case side1 => repeat (first | exact (Kd.R_reads' HO_3.out).2.2 | (with_reducible refine Kd.C_alloc ?_ _) | (with_reducible refine Kd.C_drewN ?_ _) | (with_reducible refine Kd.C_drew ?_))); (case side2 => exact (Kd.R_reads' HO_3.out).2.1); rintro e w9 ⟨v637, rfl, ho0, hb⟩; refine ⟨_, rfl, ?_⟩; have HO638 := Aside0.mk (Kd.R_lower (Kd.R_new' ho0 (Kd.R_lt (zR HO_3))) (below_size (zB HB))); replace HO_3 := Aside0.mk (Kd.R_elder' (zR HO_3) (Kd.R_base ho0) hb); replace HB := Aside0.mk (below_step (zB HB) hb); (try clear hb); (try clear ho0)))
         go_roundg k1
         case measure => have := HK1.out; omega
         case rel => exact ⟨(t636), (wrap64 (x4_1 + 1)), (by first | rfl | (simp; done) | (simp [*]; done)), H', ⟨by have := HK1.out; omega⟩, ⟨by (with_reducible repeat (first | apply Kd.R_alloc | apply Kd.R_drewN | apply Kd.R_drew)); exact Kd.R_mono HO638.out (fun _ hk => trivial)⟩, ⟨zB HB⟩⟩
       · replace c5 := Bool.eq_false_iff.mpr c5
         subst c5
         rw [if_neg zF] at H
         have H' := Aside0.mk H
         clear H
         have p633 : 0 ≤ (x4_1 : Int) := za
         have q633 : x4_1 < (l0.length : Int) := za
         obtain ⟨ad633, e633, hx633_0, hx633_1, hx633_2, hx633_3, hx633_4, hx633_5⟩ := at_T66 HR0.out x4_1 p633 q633
         cases e633
         replace hx633_0 := zh HB hx633_0
         replace hx633_1 := zh HB hx633_1
         replace hx633_2 := zh HB hx633_2
         replace hx633_3 := zh HB hx633_3
         replace hx633_4 := zh HB hx633_4
         replace hx633_5 := zh HB hx633_5
         replace p633 := eq_true p633
         replace q633 := eq_true q633
         go_wp2_with (first | ((with_reducible refine gate_callee (f := 78) rfl ?_); refine goesL_ (some 15) rfl rfl Try.func78 (by kernel_rfl) rfl #[.agg #[.bool ((rd_T66 l0 x4_1).f0.f0), .int .u64 ((rd_T66 l0 x4_1).f0.f1), .int .u64 ((rd_T66 l0 x4_1).f0.f2), .bool ((rd_T66 l0 x4_1).f1.f0), .int .u64 ((rd_T66 l0 x4_1).f1.f1), .int .u64 ((rd_T66 l0 x4_1).f1.f2)]] rfl (by (try simp only [List.map_toArray, List.map_cons, List.map_nil]); first | done | rfl | (simp only [List.length_drop, List.length_take]; rfl)) ?_; (with_reducible refine (intrusionref07_Some.calls ((rd_T66 l0 x4_1).f0.f0) ((rd_T66 l0 x4_1).f0.f1) ((rd_T66 l0 x4_1).f0.f2) ((rd_T66 l0 x4_1).f1.f0) ((rd_T66 l0 x4_1).f1.f1) ((rd_T66 l0 x4_1).f1.f2) false _ A4.out).mono ?_); rintro e w10 ⟨rfl, hb⟩; refine ⟨_, rfl, ?_⟩; replace HO_3 := Aside0.mk (Kd.R_below (zR HO_3) hb); replace HB := Aside0.mk (below_step (zB HB) hb); (try clear hb)))
         go_roundg k1
         case measure => have := HK1.out; omega
         case rel => exact ⟨(x3_1), (wrap64 (x4_1 + 1)), (by first | rfl | (simp; done) | (simp [*]; done)), H', ⟨by have := HK1.out; omega⟩, ⟨zR HO_3⟩, ⟨zB HB⟩⟩
     · rw [if_neg c3] at H
       exact absurd H (by simp)
   · rw [if_neg c2] at H
     have c2b0 : decide (x4_1 < (l0.length : Int)) = false := decide_eq_false c2
     clear c2
     obtain rfl := Option.some.inj H
     go_wp2
     go_ret
     exact ⟨_, by first | rfl | (simp [errW_none, errW_some] <;> rfl) | (simp [*, errW_none, errW_some] <;> rfl), by (with_reducible repeat (first | apply Kd.R_alloc | apply Kd.R_drewN | apply Kd.R_drew)); exact HO_3.out, by repeat (first | (with_reducible first | exact HB.out | apply below_alloc | apply pw_below_drewN | apply below_drew1) | exact HB.out)⟩
end Go.Proofs.Ytcgfpffgiimgmaa.Q
end

section
namespace Go.Proofs.Ytcgfpffgiimgmaa.Q
open Go.RowKit Go.Proofs.YtcgfpffgiimgmaaW.PrintWords Go.Proofs.YtcgfpffgiimgmaaW.PrintLast Go.Proofs.YtcgfpffgiimgmaaW.PrintMore
attribute [local go_sem] max2_int min2_int max_two min_two max_three min_three max_four min_four
set_option linter.unusedVariables false
set_option linter.unusedSimpArgs false
def intrusionref07_Valid.l0 : Nat → List (S66) → Int → Option (Bool)
  | 0, _, _ => none
  | k + 1, x0, x3 => if x3 < (x0.length : Int) then (if 0 ≤ x3 then ((intrusionref07_Some.f ((rd_T66 x0 x3).f0.f0) ((rd_T66 x0 x3).f0.f1) ((rd_T66 x0 x3).f0.f2) ((rd_T66 x0 x3).f1.f0) ((rd_T66 x0 x3).f1.f1) ((rd_T66 x0 x3).f1.f2)).bind fun t640 => (if t640 = true then (if x3 > 0 then (if 0 ≤ (wrap64 (x3 - 1)) then (if (wrap64 (x3 - 1)) < (x0.length : Int) then ((intrusionref07_Before.f ((rd_T66 x0 (wrap64 (x3 - 1))).f1.f0) ((rd_T66 x0 (wrap64 (x3 - 1))).f1.f1) ((rd_T66 x0 (wrap64 (x3 - 1))).f1.f2) ((rd_T66 x0 x3).f0.f0) ((rd_T66 x0 x3).f0.f1) ((rd_T66 x0 x3).f0.f2)).bind fun t643 => (if t643 = true then ((intrusionref07_joined.f ((rd_T66 x0 (wrap64 (x3 - 1))).f0.f0) ((rd_T66 x0 (wrap64 (x3 - 1))).f0.f1) ((rd_T66 x0 (wrap64 (x3 - 1))).f0.f2) ((rd_T66 x0 (wrap64 (x3 - 1))).f1.f0) ((rd_T66 x0 (wrap64 (x3 - 1))).f1.f1) ((rd_T66 x0 (wrap64 (x3 - 1))).f1.f2) ((rd_T66 x0 x3).f0.f0) ((rd_T66 x0 x3).f0.f1) ((rd_T66 x0 x3).f0.f2) ((rd_T66 x0 x3).f1.f0) ((rd_T66 x0 x3).f1.f1) ((rd_T66 x0 x3).f1.f2)).bind fun t646 => (if t646 = true then (some false) else (intrusionref07_Valid.l0 k x0 (wrap64 (x3 + 1))))) else (some false))) else (none)) else (none)) else (intrusionref07_Valid.l0 k x0 (wrap64 (x3 + 1)))) else (some false))) else (none)) else (some true)
def intrusionref07_Valid.f (k : Nat) (l0 : List (S66)) : Option (Bool) := intrusionref07_Valid.l0 k l0 0
theorem intrusionref07_Valid.mono_l : ∀ k, (∀ y0 y1, LeO (intrusionref07_Valid.l0 k y0 y1) (intrusionref07_Valid.l0 (k + 1) y0 y1))
  | 0 => fun _ _ r h => by simp [intrusionref07_Valid.l0] at h
  | k + 1 => by
    have ih0 := intrusionref07_Valid.mono_l k
    · intro y0 y1
      unfold intrusionref07_Valid.l0
      repeat' first
      | (with_reducible exact ih0 _ _)
      | (with_reducible exact LeO.refl _)
      | (with_reducible exact LeO.none _)
      | (with_reducible refine LeO.ite ?_ ?_)
      | (with_reducible refine LeO.bind ?_ (fun _ => ?_))
      | exact ih0 _ _
      | exact LeO.none _
      | refine LeO.ite ?_ ?_
      | refine LeO.bind ?_ (fun _ => ?_)
theorem intrusionref07_Valid.mono : ∀ a0 k, LeO (intrusionref07_Valid.f k a0) (intrusionref07_Valid.f (k + 1) a0) := by
  intro a0 k
  have ih0 := intrusionref07_Valid.mono_l k
  unfold intrusionref07_Valid.f
  repeat' first
      | (with_reducible exact ih0 _ _)
      | (with_reducible exact LeO.refl _)
      | (with_reducible exact LeO.none _)
      | (with_reducible refine LeO.ite ?_ ?_)
      | (with_reducible refine LeO.bind ?_ (fun _ => ?_))
      | exact ih0 _ _
      | exact LeO.none _
      | refine LeO.ite ?_ ?_
      | refine LeO.bind ?_ (fun _ => ?_)
def intrusionref07_Valid.T4 : Bool × List (List Nat × List Nat) := (true, [([], []), ([], []), ([0, 1], [0, 1]), ([2], [2]), ([3], [3]), ([4], [4]), ([5, 4], [5]), ([6], [6]), ([7, 6], [6, 7]), ([8, 6, 6], [6, 8]), ([9], [9]), ([9], [9]), ([11, 9], [9, 11]), ([10, 12, 9], [9, 10, 12]), ([13, 9], [9, 13]), ([14, 9], [9, 14]), ([9], [9]), ([9], [9]), ([16, 17, 9], [9, 16, 17]), ([18, 9], [9, 18]), ([19, 9], [9, 19]), ([15, 20, 9, 9], [9, 15, 20]), ([21, 9], [9, 21]), ([22, 21, 9], [9, 22]), ([23], [23]), ([23], [23]), ([25, 23], [23, 25]), ([24, 26, 23], [23, 24, 26]), ([27, 23], [23, 27]), ([23], [23]), ([23], [23]), ([29, 30, 23], [23, 29, 30]), ([31, 23], [23, 31]), ([28, 32, 23, 23], [23, 28, 32]), ([23, 33, 9], [9, 23, 33]), ([9, 34, 6], [6, 9, 34]), ([6, 35], [6, 35])])
def intrusionref07_Valid.B4 : List Nat := [0, 0, 3, 7, 15, 31, 63, 127, 255, 511, 1023, 1023, 3071, 8191, 16383, 32767, 1023, 1023, 197631, 459775, 984063, 2097151, 4194303, 8388607, 16777215, 16777215, 50331647, 134217727, 268435455, 16777215, 16777215, 1627389951, 3774873599, 8589934591, 17179869183, 34359738367, 68719476735]
theorem intrusionref07_Valid.tab4 : rtab .any (opsOf Try.f41 4) = intrusionref07_Valid.T4 := by kernel_rfl
theorem intrusionref07_Valid.bits4 : waitsOk intrusionref07_Valid.T4.2 intrusionref07_Valid.B4 = true := by kernel_rfl
set_option maxHeartbeats 8000000 in
set_option maxRecDepth 100000 in
theorem intrusionref07_Valid.calls (k : Nat) (A0 : Option Addr) (c0 : Nat) (l0 : List (S66)) (r : Bool) (w : World) (hr0 : Kd.C k66 w A0 l0.length l0) (hc0 : l0.length ≤ c0) (h : intrusionref07_Valid.f k l0 = some r) :
 Calls Try.prog 41 #[.slice A0 l0.length c0] w fun e w' => e = .returned (.bool r) ∧ Below w.heap.size w w' := by
 have hu66 := Try.underlying66
 have hu36 := Try.underlying36
 have HR0 := Aside0.mk hr0
 have HC0 := Aside0.mk hc0
 clear hr0 hc0
 have HB := Aside0.mk (Below.refl w.heap.size w)
 have H : (intrusionref07_Valid.l0 k l0 0) = some r := h
 clear h
 have H' := Aside0.mk H
 clear H
 go_enter Try.func41, Try.ntmps41
 go_wp2
 go_loopg [3] k (fun kq v3 w' => ∃ (x3_1 : Int), v3 = .int .i64 x3_1 ∧ Aside0 (intrusionref07_Valid.l0 kq l0 x3_1 = some r) ∧ Aside0 (kq ≤ k) ∧ Aside0 (Below w.heap.size w w'))
 case atStart => exact ⟨(0), (by first | rfl | (simp; done) | (simp [*]; done)), H', ⟨Nat.le_refl _⟩, ⟨zB HB⟩⟩
 case round =>
  clear H'
  obtain ⟨x3_1, rfl, HA, HK1, HB⟩ := hrel
  cases gk with
  | zero => exact absurd HA.out (by simp [intrusionref07_Valid.l0])
  | succ k1 =>
   have H := HA.out
   clear HA
   simp only [intrusionref07_Valid.l0] at H
   by_cases c2 : x3_1 < (l0.length : Int)
   · rw [if_pos c2] at H
     have c2b0 : decide (x3_1 < (l0.length : Int)) = true := decide_eq_true c2
     clear c2
     by_cases c3 : 0 ≤ x3_1
     · rw [if_pos c3] at H
       have c3b0 : decide (0 ≤ x3_1) = true := decide_eq_true c3
       clear c3
       replace H := Option.bind_eq_some_iff.mp H
       obtain ⟨t640, A40, H⟩ := H
       try dsimp only at H
       have A4 := Aside0.mk A40
       clear A40
       by_cases c5 : t640 = true
       · subst c5
         rw [if_pos rfl] at H
         by_cases c6 : x3_1 > 0
         · rw [if_pos c6] at H
           have c6b0 : decide (0 < x3_1) = true := decide_eq_true c6
           clear c6
           obtain ⟨ji7, hji7⟩ : ∃ j_ : Int, (wrap64 (x3_1 - 1)) = j_ := ⟨_, rfl⟩
           replace H : (if 0 ≤ (ji7) then (if (ji7) < (l0.length : Int) then ((intrusionref07_Before.f ((rd_T66 l0 (ji7)).f1.f0) ((rd_T66 l0 (ji7)).f1.f1) ((rd_T66 l0 (ji7)).f1.f2) ((rd_T66 l0 x3_1).f0.f0) ((rd_T66 l0 x3_1).f0.f1) ((rd_T66 l0 x3_1).f0.f2)).bind fun t643 => (if t643 = true then ((intrusionref07_joined.f ((rd_T66 l0 (ji7)).f0.f0) ((rd_T66 l0 (ji7)).f0.f1) ((rd_T66 l0 (ji7)).f0.f2) ((rd_T66 l0 (ji7)).f1.f0) ((rd_T66 l0 (ji7)).f1.f1) ((rd_T66 l0 (ji7)).f1.f2) ((rd_T66 l0 x3_1).f0.f0) ((rd_T66 l0 x3_1).f0.f1) ((rd_T66 l0 x3_1).f0.f2) ((rd_T66 l0 x3_1).f1.f0) ((rd_T66 l0 x3_1).f1.f1) ((rd_T66 l0 x3_1).f1.f2)).bind fun t646 => (if t646 = true then (some false) else (intrusionref07_Valid.l0 k1 l0 (wrap64 (x3_1 + 1))))) else (some false))) else (none)) else (none)) = some r := by first | (rw [hji7] at H; exact H) | (simp only [hji7] at H ⊢; exact H)
           (try rw [hji7] at A4)
           have hji7w : (IntKind.i64.wrap (x3_1 - 1)) = ji7 := (i64_w _).trans hji7
           by_cases c8 : 0 ≤ (ji7)
           · rw [if_pos c8] at H
             have c8b0 : decide (0 ≤ (ji7)) = true := decide_eq_true c8
             clear c8
             by_cases c9 : (ji7) < (l0.length : Int)
             · rw [if_pos c9] at H
               have c9b0 : decide ((ji7) < (l0.length : Int)) = true := decide_eq_true c9
               clear c9
               replace H := Option.bind_eq_some_iff.mp H
               obtain ⟨t643, A100, H⟩ := H
               try dsimp only at H
               have A10 := Aside0.mk A100
               clear A100
               by_cases c11 : t643 = true
               · subst c11
                 rw [if_pos rfl] at H
                 replace H := Option.bind_eq_some_iff.mp H
                 obtain ⟨t646, A120, H⟩ := H
                 try dsimp only at H
                 have A12 := Aside0.mk A120
                 clear A120
                 by_cases c13 : t646 = true
                 · subst c13
                   rw [if_pos rfl] at H
                   obtain rfl := Option.some.inj H
                   try go_wp2
                   replace HB := Aside0.mk (below_drew1 HB.out)
                   have p639 : 0 ≤ (x3_1 : Int) := za
                   have q639 : x3_1 < (l0.length : Int) := za
                   obtain ⟨ad639, e639, hx639_0, hx639_1, hx639_2, hx639_3, hx639_4, hx639_5⟩ := at_T66 HR0.out x3_1 p639 q639
                   have hw639_5 := hx639_5
                   have hw639_4 := hx639_4
                   have hw639_3 := hx639_3
                   have hw639_2 := hx639_2
                   have hw639_1 := hx639_1
                   have hw639_0 := hx639_0
                   cases e639
                   replace hx639_0 := zh HB hx639_0
                   replace hx639_1 := zh HB hx639_1
                   replace hx639_2 := zh HB hx639_2
                   replace hx639_3 := zh HB hx639_3
                   replace hx639_4 := zh HB hx639_4
                   replace hx639_5 := zh HB hx639_5
                   replace p639 := eq_true p639
                   replace q639 := eq_true q639
                   have p641 : 0 ≤ ((ji7) : Int) := za
                   have q641 : (ji7) < (l0.length : Int) := za
                   obtain ⟨ad641, e641, hx641_0, hx641_1, hx641_2, hx641_3, hx641_4, hx641_5⟩ := at_T66 HR0.out (ji7) p641 q641
                   have hw641_5 := hx641_5
                   have hw641_4 := hx641_4
                   have hw641_3 := hx641_3
                   have hw641_2 := hx641_2
                   have hw641_1 := hx641_1
                   have hw641_0 := hx641_0
                   obtain rfl : ad639 = ad641 := (by injection e641)
                   replace hx641_0 := zh HB hx641_0
                   replace hx641_1 := zh HB hx641_1
                   replace hx641_2 := zh HB hx641_2
                   replace hx641_3 := zh HB hx641_3
                   replace hx641_4 := zh HB hx641_4
                   replace hx641_5 := zh HB hx641_5
                   replace p641 := eq_true p641
                   replace q641 := eq_true q641
                   have p642 : 0 ≤ (x3_1 : Int) := za
                   have q642 : x3_1 < (l0.length : Int) := za
                   obtain ⟨ad642, e642, hx642_0, hx642_1, hx642_2, hx642_3, hx642_4, hx642_5⟩ := at_T66 HR0.out x3_1 p642 q642
                   have hw642_5 := hx642_5
                   have hw642_4 := hx642_4
                   have hw642_3 := hx642_3
                   have hw642_2 := hx642_2
                   have hw642_1 := hx642_1
                   have hw642_0 := hx642_0
                   obtain rfl : ad639 = ad642 := (by injection e642)
                   replace hx642_0 := zh HB hx642_0
                   replace hx642_1 := zh HB hx642_1
                   replace hx642_2 := zh HB hx642_2
                   replace hx642_3 := zh HB hx642_3
                   replace hx642_4 := zh HB hx642_4
                   replace hx642_5 := zh HB hx642_5
                   replace p642 := eq_true p642
                   replace q642 := eq_true q642
                   have p644 : 0 ≤ ((ji7) : Int) := za
                   have q644 : (ji7) < (l0.length : Int) := za
                   obtain ⟨ad644, e644, hx644_0, hx644_1, hx644_2, hx644_3, hx644_4, hx644_5⟩ := at_T66 HR0.out (ji7) p644 q644
                   have hw644_5 := hx644_5
                   have hw644_4 := hx644_4
                   have hw644_3 := hx644_3
                   have hw644_2 := hx644_2
                   have hw644_1 := hx644_1
                   have hw644_0 := hx644_0
                   obtain rfl : ad639 = ad644 := (by injection e644)
                   replace hx644_0 := zh HB hx644_0
                   replace hx644_1 := zh HB hx644_1
                   replace hx644_2 := zh HB hx644_2
                   replace hx644_3 := zh HB hx644_3
                   replace hx644_4 := zh HB hx644_4
                   replace hx644_5 := zh HB hx644_5
                   replace p644 := eq_true p644
                   replace q644 := eq_true q644
                   have p645 : 0 ≤ (x3_1 : Int) := za
                   have q645 : x3_1 < (l0.length : Int) := za
                   obtain ⟨ad645, e645, hx645_0, hx645_1, hx645_2, hx645_3, hx645_4, hx645_5⟩ := at_T66 HR0.out x3_1 p645 q645
                   have hw645_5 := hx645_5
                   have hw645_4 := hx645_4
                   have hw645_3 := hx645_3
                   have hw645_2 := hx645_2
                   have hw645_1 := hx645_1
                   have hw645_0 := hx645_0
                   obtain rfl : ad639 = ad645 := (by injection e645)
                   replace hx645_0 := zh HB hx645_0
                   replace hx645_1 := zh HB hx645_1
                   replace hx645_2 := zh HB hx645_2
                   replace hx645_3 := zh HB hx645_3
                   replace hx645_4 := zh HB hx645_4
                   replace hx645_5 := zh HB hx645_5
                   replace p645 := eq_true p645
                   replace q645 := eq_true q645
                   refine start_ (n := 37) (S := fun w' => w'.cell? (ad639.add ((x3_1).toNat * 6)) = some (.bool ((rd_T66 l0 x3_1).f0.f0)) ∧ w'.cell? ⟨(ad639.add ((x3_1).toNat * 6)).block, (ad639.add ((x3_1).toNat * 6)).off + 1, none⟩ = some (.int .u64 ((rd_T66 l0 x3_1).f0.f1)) ∧ w'.cell? ⟨(ad639.add ((x3_1).toNat * 6)).block, (ad639.add ((x3_1).toNat * 6)).off + 2, none⟩ = some (.int .u64 ((rd_T66 l0 x3_1).f0.f2)) ∧ w'.cell? ⟨(ad639.add ((x3_1).toNat * 6)).block, (ad639.add ((x3_1).toNat * 6)).off + 3, none⟩ = some (.bool ((rd_T66 l0 x3_1).f1.f0)) ∧ w'.cell? ⟨(ad639.add ((x3_1).toNat * 6)).block, (ad639.add ((x3_1).toNat * 6)).off + 4, none⟩ = some (.int .u64 ((rd_T66 l0 x3_1).f1.f1)) ∧ w'.cell? ⟨(ad639.add ((x3_1).toNat * 6)).block, (ad639.add ((x3_1).toNat * 6)).off + 5, none⟩ = some (.int .u64 ((rd_T66 l0 x3_1).f1.f2)) ∧ w'.cell? (ad639.add (((ji7)).toNat * 6)) = some (.bool ((rd_T66 l0 (ji7)).f0.f0)) ∧ w'.cell? ⟨(ad639.add (((ji7)).toNat * 6)).block, (ad639.add (((ji7)).toNat * 6)).off + 1, none⟩ = some (.int .u64 ((rd_T66 l0 (ji7)).f0.f1)) ∧ w'.cell? ⟨(ad639.add (((ji7)).toNat * 6)).block, (ad639.add (((ji7)).toNat * 6)).off + 2, none⟩ = some (.int .u64 ((rd_T66 l0 (ji7)).f0.f2)) ∧ w'.cell? ⟨(ad639.add (((ji7)).toNat * 6)).block, (ad639.add (((ji7)).toNat * 6)).off + 3, none⟩ = some (.bool ((rd_T66 l0 (ji7)).f1.f0)) ∧ w'.cell? ⟨(ad639.add (((ji7)).toNat * 6)).block, (ad639.add (((ji7)).toNat * 6)).off + 4, none⟩ = some (.int .u64 ((rd_T66 l0 (ji7)).f1.f1)) ∧ w'.cell? ⟨(ad639.add (((ji7)).toNat * 6)).block, (ad639.add (((ji7)).toNat * 6)).off + 5, none⟩ = some (.int .u64 ((rd_T66 l0 (ji7)).f1.f2)) ∧ w'.cell? (ad639.add ((x3_1).toNat * 6)) = some (.bool ((rd_T66 l0 x3_1).f0.f0)) ∧ w'.cell? ⟨(ad639.add ((x3_1).toNat * 6)).block, (ad639.add ((x3_1).toNat * 6)).off + 1, none⟩ = some (.int .u64 ((rd_T66 l0 x3_1).f0.f1)) ∧ w'.cell? ⟨(ad639.add ((x3_1).toNat * 6)).block, (ad639.add ((x3_1).toNat * 6)).off + 2, none⟩ = some (.int .u64 ((rd_T66 l0 x3_1).f0.f2)) ∧ w'.cell? ⟨(ad639.add ((x3_1).toNat * 6)).block, (ad639.add ((x3_1).toNat * 6)).off + 3, none⟩ = some (.bool ((rd_T66 l0 x3_1).f1.f0)) ∧ w'.cell? ⟨(ad639.add ((x3_1).toNat * 6)).block, (ad639.add ((x3_1).toNat * 6)).off + 4, none⟩ = some (.int .u64 ((rd_T66 l0 x3_1).f1.f1)) ∧ w'.cell? ⟨(ad639.add ((x3_1).toNat * 6)).block, (ad639.add ((x3_1).toNat * 6)).off + 5, none⟩ = some (.int .u64 ((rd_T66 l0 x3_1).f1.f2)) ∧ w'.cell? (ad639.add (((ji7)).toNat * 6)) = some (.bool ((rd_T66 l0 (ji7)).f0.f0)) ∧ w'.cell? ⟨(ad639.add (((ji7)).toNat * 6)).block, (ad639.add (((ji7)).toNat * 6)).off + 1, none⟩ = some (.int .u64 ((rd_T66 l0 (ji7)).f0.f1)) ∧ w'.cell? ⟨(ad639.add (((ji7)).toNat * 6)).block, (ad639.add (((ji7)).toNat * 6)).off + 2, none⟩ = some (.int .u64 ((rd_T66 l0 (ji7)).f0.f2)) ∧ w'.cell? ⟨(ad639.add (((ji7)).toNat * 6)).block, (ad639.add (((ji7)).toNat * 6)).off + 3, none⟩ = some (.bool ((rd_T66 l0 (ji7)).f1.f0)) ∧ w'.cell? ⟨(ad639.add (((ji7)).toNat * 6)).block, (ad639.add (((ji7)).toNat * 6)).off + 4, none⟩ = some (.int .u64 ((rd_T66 l0 (ji7)).f1.f1)) ∧ w'.cell? ⟨(ad639.add (((ji7)).toNat * 6)).block, (ad639.add (((ji7)).toNat * 6)).off + 5, none⟩ = some (.int .u64 ((rd_T66 l0 (ji7)).f1.f2)) ∧ w'.cell? (ad639.add ((x3_1).toNat * 6)) = some (.bool ((rd_T66 l0 x3_1).f0.f0)) ∧ w'.cell? ⟨(ad639.add ((x3_1).toNat * 6)).block, (ad639.add ((x3_1).toNat * 6)).off + 1, none⟩ = some (.int .u64 ((rd_T66 l0 x3_1).f0.f1)) ∧ w'.cell? ⟨(ad639.add ((x3_1).toNat * 6)).block, (ad639.add ((x3_1).toNat * 6)).off + 2, none⟩ = some (.int .u64 ((rd_T66 l0 x3_1).f0.f2)) ∧ w'.cell? ⟨(ad639.add ((x3_1).toNat * 6)).block, (ad639.add ((x3_1).toNat * 6)).off + 3, none⟩ = some (.bool ((rd_T66 l0 x3_1).f1.f0)) ∧ w'.cell? ⟨(ad639.add ((x3_1).toNat * 6)).block, (ad639.add ((x3_1).toNat * 6)).off + 4, none⟩ = some (.int .u64 ((rd_T66 l0 x3_1).f1.f1)) ∧ w'.cell? ⟨(ad639.add ((x3_1).toNat * 6)).block, (ad639.add ((x3_1).toNat * 6)).off + 5, none⟩ = some (.int .u64 ((rd_T66 l0 x3_1).f1.f2))) (ds := []) #[false, false, false, false, false, false, false, false, false, false, false, false, false, false, false, false, false, false, false, false, false, false, false, false, false, false, false, false, false, false, false, false, false, false, false, false, false] (by kernel_rfl) rfl rfl ⟨(zh HB hw639_0), (zh HB hw639_1), (zh HB hw639_2), (zh HB hw639_3), (zh HB hw639_4), (zh HB hw639_5), (zh HB hw641_0), (zh HB hw641_1), (zh HB hw641_2), (zh HB hw641_3), (zh HB hw641_4), (zh HB hw641_5), (zh HB hw642_0), (zh HB hw642_1), (zh HB hw642_2), (zh HB hw642_3), (zh HB hw642_4), (zh HB hw642_5), (zh HB hw644_0), (zh HB hw644_1), (zh HB hw644_2), (zh HB hw644_3), (zh HB hw644_4), (zh HB hw644_5), (zh HB hw645_0), (zh HB hw645_1), (zh HB hw645_2), (zh HB hw645_3), (zh HB hw645_4), (zh HB hw645_5)⟩ (fun hHeld => ?_); refine with_tabW intrusionref07_Valid.tab4 intrusionref07_Valid.bits4 (fun HT_ HW_ => ?_)
                   generalize wr.drew = w14 at HB hx639_0 hx639_1 hx639_2 hx639_3 hx639_4 hx639_5 hx641_0 hx641_1 hx641_2 hx641_3 hx641_4 hx641_5 hx642_0 hx642_1 hx642_2 hx642_3 hx642_4 hx642_5 hx644_0 hx644_1 hx644_2 hx644_3 hx644_4 hx644_5 hx645_0 hx645_1 hx645_2 hx645_3 hx645_4 hx645_5 hHeld ⊢
                   refine zp 0 10 HT_ ?_; refine zp 1 11 HT_ ?_; refine zp 2 12 HT_ ?_; refine zt 3 13 HT_ HW_ hHeld ?_; refine zo 4 14 HT_ (fun K hK => ?_)
                   refine zg Try.func78 #[.agg #[.bool ((rd_T66 l0 x3_1).f0.f0), .int .u64 ((rd_T66 l0 x3_1).f0.f1), .int .u64 ((rd_T66 l0 x3_1).f0.f2), .bool ((rd_T66 l0 x3_1).f1.f0), .int .u64 ((rd_T66 l0 x3_1).f1.f1), .int .u64 ((rd_T66 l0 x3_1).f1.f2)]] ?_
                   with_reducible refine (intrusionref07_Some.calls ((rd_T66 l0 x3_1).f0.f0) ((rd_T66 l0 x3_1).f0.f1) ((rd_T66 l0 x3_1).f0.f2) ((rd_T66 l0 x3_1).f1.f0) ((rd_T66 l0 x3_1).f1.f1) ((rd_T66 l0 x3_1).f1.f2) true _ A4.out).mono ?_
                   rintro e w15 ⟨rfl, hb⟩
                   refine ⟨_, rfl, ?_⟩
                   replace HB := Aside0.mk (below_step (zB HB) hb)
                   (try clear hb)
                   refine hK.out _ _ ⟨(zh HB hw639_0), (zh HB hw639_1), (zh HB hw639_2), (zh HB hw639_3), (zh HB hw639_4), (zh HB hw639_5), (zh HB hw641_0), (zh HB hw641_1), (zh HB hw641_2), (zh HB hw641_3), (zh HB hw641_4), (zh HB hw641_5), (zh HB hw642_0), (zh HB hw642_1), (zh HB hw642_2), (zh HB hw642_3), (zh HB hw642_4), (zh HB hw642_5), (zh HB hw644_0), (zh HB hw644_1), (zh HB hw644_2), (zh HB hw644_3), (zh HB hw644_4), (zh HB hw644_5), (zh HB hw645_0), (zh HB hw645_1), (zh HB hw645_2), (zh HB hw645_3), (zh HB hw645_4), (zh HB hw645_5)⟩ (fun hHeld => ?_)
                   clear hK K
                   refine zn 14 ?_; refine zp 5 15 HT_ ?_; refine zp 6 16 HT_ ?_; refine zp 7 17 HT_ ?_; refine zp 8 18 HT_ ?_; refine zp 9 19 HT_ ?_; refine zp 10 20 HT_ ?_; refine zp 11 21 HT_ ?_; refine zp 12 22 HT_ ?_; refine zp 13 23 HT_ ?_; refine zp 14 24 HT_ ?_; refine zp 16 26 HT_ ?_; refine zp 17 27 HT_ ?_; refine zp 18 28 HT_ ?_; refine zp 19 29 HT_ ?_; refine zt 15 25 HT_ HW_ hHeld ?_; refine zt 20 30 HT_ HW_ hHeld ?_; refine zo 21 31 HT_ (fun K hK => ?_)
                   refine goes_ Try.func80 (by kernel_rfl) rfl #[.agg #[.bool ((rd_T66 l0 (ji7)).f1.f0), .int .u64 ((rd_T66 l0 (ji7)).f1.f1), .int .u64 ((rd_T66 l0 (ji7)).f1.f2)], .agg #[.bool ((rd_T66 l0 x3_1).f0.f0), .int .u64 ((rd_T66 l0 x3_1).f0.f1), .int .u64 ((rd_T66 l0 x3_1).f0.f2)]] (by rfl) rfl rfl (by (try simp only [List.map_toArray, List.map_cons, List.map_nil]); first | done | (simp only [hji7]; rfl) | rfl | (simp only [List.length_drop, List.length_take]; rfl)) ?_
                   with_reducible refine (intrusionref07_Before.calls ((rd_T66 l0 (ji7)).f1.f0) ((rd_T66 l0 (ji7)).f1.f1) ((rd_T66 l0 (ji7)).f1.f2) ((rd_T66 l0 x3_1).f0.f0) ((rd_T66 l0 x3_1).f0.f1) ((rd_T66 l0 x3_1).f0.f2) true _ A10.out).mono ?_
                   rintro e w16 ⟨rfl, hb⟩
                   refine ⟨_, rfl, ?_⟩
                   replace HB := Aside0.mk (below_step (zB HB) hb)
                   (try clear hb)
                   refine hK.out _ _ ⟨(zh HB hw639_0), (zh HB hw639_1), (zh HB hw639_2), (zh HB hw639_3), (zh HB hw639_4), (zh HB hw639_5), (zh HB hw641_0), (zh HB hw641_1), (zh HB hw641_2), (zh HB hw641_3), (zh HB hw641_4), (zh HB hw641_5), (zh HB hw642_0), (zh HB hw642_1), (zh HB hw642_2), (zh HB hw642_3), (zh HB hw642_4), (zh HB hw642_5), (zh HB hw644_0), (zh HB hw644_1), (zh HB hw644_2), (zh HB hw644_3), (zh HB hw644_4), (zh HB hw644_5), (zh HB hw645_0), (zh HB hw645_1), (zh HB hw645_2), (zh HB hw645_3), (zh HB hw645_4), (zh HB hw645_5)⟩ (fun hHeld => ?_)
                   clear hK K
                   refine zn 31 ?_; refine zp 22 32 HT_ ?_; refine zp 23 33 HT_ ?_; refine zp 24 34 HT_ ?_; refine zp 25 35 HT_ ?_; refine zp 26 36 HT_ ?_; refine zp 27 37 HT_ ?_; refine zp 29 39 HT_ ?_; refine zp 30 40 HT_ ?_; refine zp 31 41 HT_ ?_; refine zt 28 38 HT_ HW_ hHeld ?_; refine zt 32 42 HT_ HW_ hHeld ?_; refine zo 33 43 HT_ (fun K hK => ?_)
                   refine goes_ Try.func81 (by kernel_rfl) rfl #[.agg #[.bool ((rd_T66 l0 (ji7)).f0.f0), .int .u64 ((rd_T66 l0 (ji7)).f0.f1), .int .u64 ((rd_T66 l0 (ji7)).f0.f2), .bool ((rd_T66 l0 (ji7)).f1.f0), .int .u64 ((rd_T66 l0 (ji7)).f1.f1), .int .u64 ((rd_T66 l0 (ji7)).f1.f2)], .agg #[.bool ((rd_T66 l0 x3_1).f0.f0), .int .u64 ((rd_T66 l0 x3_1).f0.f1), .int .u64 ((rd_T66 l0 x3_1).f0.f2), .bool ((rd_T66 l0 x3_1).f1.f0), .int .u64 ((rd_T66 l0 x3_1).f1.f1), .int .u64 ((rd_T66 l0 x3_1).f1.f2)]] (by rfl) rfl rfl (by (try simp only [List.map_toArray, List.map_cons, List.map_nil]); first | done | (simp only [hji7]; rfl) | rfl | (simp only [List.length_drop, List.length_take]; rfl)) ?_
                   with_reducible refine (intrusionref07_joined.calls ((rd_T66 l0 (ji7)).f0.f0) ((rd_T66 l0 (ji7)).f0.f1) ((rd_T66 l0 (ji7)).f0.f2) ((rd_T66 l0 (ji7)).f1.f0) ((rd_T66 l0 (ji7)).f1.f1) ((rd_T66 l0 (ji7)).f1.f2) ((rd_T66 l0 x3_1).f0.f0) ((rd_T66 l0 x3_1).f0.f1) ((rd_T66 l0 x3_1).f0.f2) ((rd_T66 l0 x3_1).f1.f0) ((rd_T66 l0 x3_1).f1.f1) ((rd_T66 l0 x3_1).f1.f2) true _ A12.out).mono ?_
                   rintro e w17 ⟨rfl, hb⟩
                   refine ⟨_, rfl, ?_⟩
                   replace HB := Aside0.mk (below_step (zB HB) hb)
                   (try clear hb)
                   refine hK.out _ _ ⟨(zh HB hw639_0), (zh HB hw639_1), (zh HB hw639_2), (zh HB hw639_3), (zh HB hw639_4), (zh HB hw639_5), (zh HB hw641_0), (zh HB hw641_1), (zh HB hw641_2), (zh HB hw641_3), (zh HB hw641_4), (zh HB hw641_5), (zh HB hw642_0), (zh HB hw642_1), (zh HB hw642_2), (zh HB hw642_3), (zh HB hw642_4), (zh HB hw642_5), (zh HB hw644_0), (zh HB hw644_1), (zh HB hw644_2), (zh HB hw644_3), (zh HB hw644_4), (zh HB hw644_5), (zh HB hw645_0), (zh HB hw645_1), (zh HB hw645_2), (zh HB hw645_3), (zh HB hw645_4), (zh HB hw645_5)⟩ (fun hHeld => ?_)
                   clear hK K
                   refine zn 43 ?_; refine zp 34 44 HT_ ?_; refine zp 35 45 HT_ ?_; refine zp 36 46 HT_ ?_; refine zd HT_ ?_
                   try go_wp2
                   go_ret
                   exact ⟨by first | rfl | (simp [errW_none, errW_some] <;> rfl) | (simp only [← hji7]; first | rfl | (simp [errW_none, errW_some] <;> rfl)) | (simp [*, errW_none, errW_some] <;> rfl), by repeat (first | (with_reducible first | exact HB.out | apply below_alloc | apply pw_below_drewN | apply below_drew1) | exact HB.out)⟩
                 · replace c13 := Bool.eq_false_iff.mpr c13
                   subst c13
                   rw [if_neg zF] at H
                   have H' := Aside0.mk H
                   clear H
                   try go_wp2
                   replace HB := Aside0.mk (below_drew1 HB.out)
                   have p639 : 0 ≤ (x3_1 : Int) := za
                   have q639 : x3_1 < (l0.length : Int) := za
                   obtain ⟨ad639, e639, hx639_0, hx639_1, hx639_2, hx639_3, hx639_4, hx639_5⟩ := at_T66 HR0.out x3_1 p639 q639
                   have hw639_5 := hx639_5
                   have hw639_4 := hx639_4
                   have hw639_3 := hx639_3
                   have hw639_2 := hx639_2
                   have hw639_1 := hx639_1
                   have hw639_0 := hx639_0
                   cases e639
                   replace hx639_0 := zh HB hx639_0
                   replace hx639_1 := zh HB hx639_1
                   replace hx639_2 := zh HB hx639_2
                   replace hx639_3 := zh HB hx639_3
                   replace hx639_4 := zh HB hx639_4
                   replace hx639_5 := zh HB hx639_5
                   replace p639 := eq_true p639
                   replace q639 := eq_true q639
                   have p641 : 0 ≤ ((ji7) : Int) := za
                   have q641 : (ji7) < (l0.length : Int) := za
                   obtain ⟨ad641, e641, hx641_0, hx641_1, hx641_2, hx641_3, hx641_4, hx641_5⟩ := at_T66 HR0.out (ji7) p641 q641
                   have hw641_5 := hx641_5
                   have hw641_4 := hx641_4
                   have hw641_3 := hx641_3
                   have hw641_2 := hx641_2
                   have hw641_1 := hx641_1
                   have hw641_0 := hx641_0
                   obtain rfl : ad639 = ad641 := (by injection e641)
                   replace hx641_0 := zh HB hx641_0
                   replace hx641_1 := zh HB hx641_1
                   replace hx641_2 := zh HB hx641_2
                   replace hx641_3 := zh HB hx641_3
                   replace hx641_4 := zh HB hx641_4
                   replace hx641_5 := zh HB hx641_5
                   replace p641 := eq_true p641
                   replace q641 := eq_true q641
                   have p642 : 0 ≤ (x3_1 : Int) := za
                   have q642 : x3_1 < (l0.length : Int) := za
                   obtain ⟨ad642, e642, hx642_0, hx642_1, hx642_2, hx642_3, hx642_4, hx642_5⟩ := at_T66 HR0.out x3_1 p642 q642
                   have hw642_5 := hx642_5
                   have hw642_4 := hx642_4
                   have hw642_3 := hx642_3
                   have hw642_2 := hx642_2
                   have hw642_1 := hx642_1
                   have hw642_0 := hx642_0
                   obtain rfl : ad639 = ad642 := (by injection e642)
                   replace hx642_0 := zh HB hx642_0
                   replace hx642_1 := zh HB hx642_1
                   replace hx642_2 := zh HB hx642_2
                   replace hx642_3 := zh HB hx642_3
                   replace hx642_4 := zh HB hx642_4
                   replace hx642_5 := zh HB hx642_5
                   replace p642 := eq_true p642
                   replace q642 := eq_true q642
                   have p644 : 0 ≤ ((ji7) : Int) := za
                   have q644 : (ji7) < (l0.length : Int) := za
                   obtain ⟨ad644, e644, hx644_0, hx644_1, hx644_2, hx644_3, hx644_4, hx644_5⟩ := at_T66 HR0.out (ji7) p644 q644
                   have hw644_5 := hx644_5
                   have hw644_4 := hx644_4
                   have hw644_3 := hx644_3
                   have hw644_2 := hx644_2
                   have hw644_1 := hx644_1
                   have hw644_0 := hx644_0
                   obtain rfl : ad639 = ad644 := (by injection e644)
                   replace hx644_0 := zh HB hx644_0
                   replace hx644_1 := zh HB hx644_1
                   replace hx644_2 := zh HB hx644_2
                   replace hx644_3 := zh HB hx644_3
                   replace hx644_4 := zh HB hx644_4
                   replace hx644_5 := zh HB hx644_5
                   replace p644 := eq_true p644
                   replace q644 := eq_true q644
                   have p645 : 0 ≤ (x3_1 : Int) := za
                   have q645 : x3_1 < (l0.length : Int) := za
                   obtain ⟨ad645, e645, hx645_0, hx645_1, hx645_2, hx645_3, hx645_4, hx645_5⟩ := at_T66 HR0.out x3_1 p645 q645
                   have hw645_5 := hx645_5
                   have hw645_4 := hx645_4
                   have hw645_3 := hx645_3
                   have hw645_2 := hx645_2
                   have hw645_1 := hx645_1
                   have hw645_0 := hx645_0
                   obtain rfl : ad639 = ad645 := (by injection e645)
                   replace hx645_0 := zh HB hx645_0
                   replace hx645_1 := zh HB hx645_1
                   replace hx645_2 := zh HB hx645_2
                   replace hx645_3 := zh HB hx645_3
                   replace hx645_4 := zh HB hx645_4
                   replace hx645_5 := zh HB hx645_5
                   replace p645 := eq_true p645
                   replace q645 := eq_true q645
                   refine start_ (n := 37) (S := fun w' => w'.cell? (ad639.add ((x3_1).toNat * 6)) = some (.bool ((rd_T66 l0 x3_1).f0.f0)) ∧ w'.cell? ⟨(ad639.add ((x3_1).toNat * 6)).block, (ad639.add ((x3_1).toNat * 6)).off + 1, none⟩ = some (.int .u64 ((rd_T66 l0 x3_1).f0.f1)) ∧ w'.cell? ⟨(ad639.add ((x3_1).toNat * 6)).block, (ad639.add ((x3_1).toNat * 6)).off + 2, none⟩ = some (.int .u64 ((rd_T66 l0 x3_1).f0.f2)) ∧ w'.cell? ⟨(ad639.add ((x3_1).toNat * 6)).block, (ad639.add ((x3_1).toNat * 6)).off + 3, none⟩ = some (.bool ((rd_T66 l0 x3_1).f1.f0)) ∧ w'.cell? ⟨(ad639.add ((x3_1).toNat * 6)).block, (ad639.add ((x3_1).toNat * 6)).off + 4, none⟩ = some (.int .u64 ((rd_T66 l0 x3_1).f1.f1)) ∧ w'.cell? ⟨(ad639.add ((x3_1).toNat * 6)).block, (ad639.add ((x3_1).toNat * 6)).off + 5, none⟩ = some (.int .u64 ((rd_T66 l0 x3_1).f1.f2)) ∧ w'.cell? (ad639.add (((ji7)).toNat * 6)) = some (.bool ((rd_T66 l0 (ji7)).f0.f0)) ∧ w'.cell? ⟨(ad639.add (((ji7)).toNat * 6)).block, (ad639.add (((ji7)).toNat * 6)).off + 1, none⟩ = some (.int .u64 ((rd_T66 l0 (ji7)).f0.f1)) ∧ w'.cell? ⟨(ad639.add (((ji7)).toNat * 6)).block, (ad639.add (((ji7)).toNat * 6)).off + 2, none⟩ = some (.int .u64 ((rd_T66 l0 (ji7)).f0.f2)) ∧ w'.cell? ⟨(ad639.add (((ji7)).toNat * 6)).block, (ad639.add (((ji7)).toNat * 6)).off + 3, none⟩ = some (.bool ((rd_T66 l0 (ji7)).f1.f0)) ∧ w'.cell? ⟨(ad639.add (((ji7)).toNat * 6)).block, (ad639.add (((ji7)).toNat * 6)).off + 4, none⟩ = some (.int .u64 ((rd_T66 l0 (ji7)).f1.f1)) ∧ w'.cell? ⟨(ad639.add (((ji7)).toNat * 6)).block, (ad639.add (((ji7)).toNat * 6)).off + 5, none⟩ = some (.int .u64 ((rd_T66 l0 (ji7)).f1.f2)) ∧ w'.cell? (ad639.add ((x3_1).toNat * 6)) = some (.bool ((rd_T66 l0 x3_1).f0.f0)) ∧ w'.cell? ⟨(ad639.add ((x3_1).toNat * 6)).block, (ad639.add ((x3_1).toNat * 6)).off + 1, none⟩ = some (.int .u64 ((rd_T66 l0 x3_1).f0.f1)) ∧ w'.cell? ⟨(ad639.add ((x3_1).toNat * 6)).block, (ad639.add ((x3_1).toNat * 6)).off + 2, none⟩ = some (.int .u64 ((rd_T66 l0 x3_1).f0.f2)) ∧ w'.cell? ⟨(ad639.add ((x3_1).toNat * 6)).block, (ad639.add ((x3_1).toNat * 6)).off + 3, none⟩ = some (.bool ((rd_T66 l0 x3_1).f1.f0)) ∧ w'.cell? ⟨(ad639.add ((x3_1).toNat * 6)).block, (ad639.add ((x3_1).toNat * 6)).off + 4, none⟩ = some (.int .u64 ((rd_T66 l0 x3_1).f1.f1)) ∧ w'.cell? ⟨(ad639.add ((x3_1).toNat * 6)).block, (ad639.add ((x3_1).toNat * 6)).off + 5, none⟩ = some (.int .u64 ((rd_T66 l0 x3_1).f1.f2)) ∧ w'.cell? (ad639.add (((ji7)).toNat * 6)) = some (.bool ((rd_T66 l0 (ji7)).f0.f0)) ∧ w'.cell? ⟨(ad639.add (((ji7)).toNat * 6)).block, (ad639.add (((ji7)).toNat * 6)).off + 1, none⟩ = some (.int .u64 ((rd_T66 l0 (ji7)).f0.f1)) ∧ w'.cell? ⟨(ad639.add (((ji7)).toNat * 6)).block, (ad639.add (((ji7)).toNat * 6)).off + 2, none⟩ = some (.int .u64 ((rd_T66 l0 (ji7)).f0.f2)) ∧ w'.cell? ⟨(ad639.add (((ji7)).toNat * 6)).block, (ad639.add (((ji7)).toNat * 6)).off + 3, none⟩ = some (.bool ((rd_T66 l0 (ji7)).f1.f0)) ∧ w'.cell? ⟨(ad639.add (((ji7)).toNat * 6)).block, (ad639.add (((ji7)).toNat * 6)).off + 4, none⟩ = some (.int .u64 ((rd_T66 l0 (ji7)).f1.f1)) ∧ w'.cell? ⟨(ad639.add (((ji7)).toNat * 6)).block, (ad639.add (((ji7)).toNat * 6)).off + 5, none⟩ = some (.int .u64 ((rd_T66 l0 (ji7)).f1.f2)) ∧ w'.cell? (ad639.add ((x3_1).toNat * 6)) = some (.bool ((rd_T66 l0 x3_1).f0.f0)) ∧ w'.cell? ⟨(ad639.add ((x3_1).toNat * 6)).block, (ad639.add ((x3_1).toNat * 6)).off + 1, none⟩ = some (.int .u64 ((rd_T66 l0 x3_1).f0.f1)) ∧ w'.cell? ⟨(ad639.add ((x3_1).toNat * 6)).block, (ad639.add ((x3_1).toNat * 6)).off + 2, none⟩ = some (.int .u64 ((rd_T66 l0 x3_1).f0.f2)) ∧ w'.cell? ⟨(ad639.add ((x3_1).toNat * 6)).block, (ad639.add ((x3_1).toNat * 6)).off + 3, none⟩ = some (.bool ((rd_T66 l0 x3_1).f1.f0)) ∧ w'.cell? ⟨(ad639.add ((x3_1).toNat * 6)).block, (ad639.add ((x3_1).toNat * 6)).off + 4, none⟩ = some (.int .u64 ((rd_T66 l0 x3_1).f1.f1)) ∧ w'.cell? ⟨(ad639.add ((x3_1).toNat * 6)).block, (ad639.add ((x3_1).toNat * 6)).off + 5, none⟩ = some (.int .u64 ((rd_T66 l0 x3_1).f1.f2))) (ds := []) #[false, false, false, false, false, false, false, false, false, false, false, false, false, false, false, false, false, false, false, false, false, false, false, false, false, false, false, false, false, false, false, false, false, false, false, false, false] (by kernel_rfl) rfl rfl ⟨(zh HB hw639_0), (zh HB hw639_1), (zh HB hw639_2), (zh HB hw639_3), (zh HB hw639_4), (zh HB hw639_5), (zh HB hw641_0), (zh HB hw641_1), (zh HB hw641_2), (zh HB hw641_3), (zh HB hw641_4), (zh HB hw641_5), (zh HB hw642_0), (zh HB hw642_1), (zh HB hw642_2), (zh HB hw642_3), (zh HB hw642_4), (zh HB hw642_5), (zh HB hw644_0), (zh HB hw644_1), (zh HB hw644_2), (zh HB hw644_3), (zh HB hw644_4), (zh HB hw644_5), (zh HB hw645_0), (zh HB hw645_1), (zh HB hw645_2), (zh HB hw645_3), (zh HB hw645_4), (zh HB hw645_5)⟩ (fun hHeld => ?_); refine with_tabW intrusionref07_Valid.tab4 intrusionref07_Valid.bits4 (fun HT_ HW_ => ?_)
                   generalize wr.drew = w18 at HB hx639_0 hx639_1 hx639_2 hx639_3 hx639_4 hx639_5 hx641_0 hx641_1 hx641_2 hx641_3 hx641_4 hx641_5 hx642_0 hx642_1 hx642_2 hx642_3 hx642_4 hx642_5 hx644_0 hx644_1 hx644_2 hx644_3 hx644_4 hx644_5 hx645_0 hx645_1 hx645_2 hx645_3 hx645_4 hx645_5 hHeld ⊢
                   refine zp 0 10 HT_ ?_; refine zp 1 11 HT_ ?_; refine zp 2 12 HT_ ?_; refine zt 3 13 HT_ HW_ hHeld ?_; refine zo 4 14 HT_ (fun K hK => ?_)
                   refine zg Try.func78 #[.agg #[.bool ((rd_T66 l0 x3_1).f0.f0), .int .u64 ((rd_T66 l0 x3_1).f0.f1), .int .u64 ((rd_T66 l0 x3_1).f0.f2), .bool ((rd_T66 l0 x3_1).f1.f0), .int .u64 ((rd_T66 l0 x3_1).f1.f1), .int .u64 ((rd_T66 l0 x3_1).f1.f2)]] ?_
                   with_reducible refine (intrusionref07_Some.calls ((rd_T66 l0 x3_1).f0.f0) ((rd_T66 l0 x3_1).f0.f1) ((rd_T66 l0 x3_1).f0.f2) ((rd_T66 l0 x3_1).f1.f0) ((rd_T66 l0 x3_1).f1.f1) ((rd_T66 l0 x3_1).f1.f2) true _ A4.out).mono ?_
                   rintro e w19 ⟨rfl, hb⟩
                   refine ⟨_, rfl, ?_⟩
                   replace HB := Aside0.mk (below_step (zB HB) hb)
                   (try clear hb)
                   refine hK.out _ _ ⟨(zh HB hw639_0), (zh HB hw639_1), (zh HB hw639_2), (zh HB hw639_3), (zh HB hw639_4), (zh HB hw639_5), (zh HB hw641_0), (zh HB hw641_1), (zh HB hw641_2), (zh HB hw641_3), (zh HB hw641_4), (zh HB hw641_5), (zh HB hw642_0), (zh HB hw642_1), (zh HB hw642_2), (zh HB hw642_3), (zh HB hw642_4), (zh HB hw642_5), (zh HB hw644_0), (zh HB hw644_1), (zh HB hw644_2), (zh HB hw644_3), (zh HB hw644_4), (zh HB hw644_5), (zh HB hw645_0), (zh HB hw645_1), (zh HB hw645_2), (zh HB hw645_3), (zh HB hw645_4), (zh HB hw645_5)⟩ (fun hHeld => ?_)
                   clear hK K
                   refine zn 14 ?_; refine zp 5 15 HT_ ?_; refine zp 6 16 HT_ ?_; refine zp 7 17 HT_ ?_; refine zp 8 18 HT_ ?_; refine zp 9 19 HT_ ?_; refine zp 10 20 HT_ ?_; refine zp 11 21 HT_ ?_; refine zp 12 22 HT_ ?_; refine zp 13 23 HT_ ?_; refine zp 14 24 HT_ ?_; refine zp 16 26 HT_ ?_; refine zp 17 27 HT_ ?_; refine zp 18 28 HT_ ?_; refine zp 19 29 HT_ ?_; refine zt 15 25 HT_ HW_ hHeld ?_; refine zt 20 30 HT_ HW_ hHeld ?_; refine zo 21 31 HT_ (fun K hK => ?_)
                   refine goes_ Try.func80 (by kernel_rfl) rfl #[.agg #[.bool ((rd_T66 l0 (ji7)).f1.f0), .int .u64 ((rd_T66 l0 (ji7)).f1.f1), .int .u64 ((rd_T66 l0 (ji7)).f1.f2)], .agg #[.bool ((rd_T66 l0 x3_1).f0.f0), .int .u64 ((rd_T66 l0 x3_1).f0.f1), .int .u64 ((rd_T66 l0 x3_1).f0.f2)]] (by rfl) rfl rfl (by (try simp only [List.map_toArray, List.map_cons, List.map_nil]); first | done | (simp only [hji7]; rfl) | rfl | (simp only [List.length_drop, List.length_take]; rfl)) ?_
                   with_reducible refine (intrusionref07_Before.calls ((rd_T66 l0 (ji7)).f1.f0) ((rd_T66 l0 (ji7)).f1.f1) ((rd_T66 l0 (ji7)).f1.f2) ((rd_T66 l0 x3_1).f0.f0) ((rd_T66 l0 x3_1).f0.f1) ((rd_T66 l0 x3_1).f0.f2) true _ A10.out).mono ?_
                   rintro e w20 ⟨rfl, hb⟩
                   refine ⟨_, rfl, ?_⟩
                   replace HB := Aside0.mk (below_step (zB HB) hb)
                   (try clear hb)
                   refine hK.out _ _ ⟨(zh HB hw639_0), (zh HB hw639_1), (zh HB hw639_2), (zh HB hw639_3), (zh HB hw639_4), (zh HB hw639_5), (zh HB hw641_0), (zh HB hw641_1), (zh HB hw641_2), (zh HB hw641_3), (zh HB hw641_4), (zh HB hw641_5), (zh HB hw642_0), (zh HB hw642_1), (zh HB hw642_2), (zh HB hw642_3), (zh HB hw642_4), (zh HB hw642_5), (zh HB hw644_0), (zh HB hw644_1), (zh HB hw644_2), (zh HB hw644_3), (zh HB hw644_4), (zh HB hw644_5), (zh HB hw645_0), (zh HB hw645_1), (zh HB hw645_2), (zh HB hw645_3), (zh HB hw645_4), (zh HB hw645_5)⟩ (fun hHeld => ?_)
                   clear hK K
                   refine zn 31 ?_; refine zp 22 32 HT_ ?_; refine zp 23 33 HT_ ?_; refine zp 24 34 HT_ ?_; refine zp 25 35 HT_ ?_; refine zp 26 36 HT_ ?_; refine zp 27 37 HT_ ?_; refine zp 29 39 HT_ ?_; refine zp 30 40 HT_ ?_; refine zp 31 41 HT_ ?_; refine zt 28 38 HT_ HW_ hHeld ?_; refine zt 32 42 HT_ HW_ hHeld ?_; refine zo 33 43 HT_ (fun K hK => ?_)
                   refine goes_ Try.func81 (by kernel_rfl) rfl #[.agg #[.bool ((rd_T66 l0 (ji7)).f0.f0), .int .u64 ((rd_T66 l0 (ji7)).f0.f1), .int .u64 ((rd_T66 l0 (ji7)).f0.f2), .bool ((rd_T66 l0 (ji7)).f1.f0), .int .u64 ((rd_T66 l0 (ji7)).f1.f1), .int .u64 ((rd_T66 l0 (ji7)).f1.f2)], .agg #[.bool ((rd_T66 l0 x3_1).f0.f0), .int .u64 ((rd_T66 l0 x3_1).f0.f1), .int .u64 ((rd_T66 l0 x3_1).f0.f2), .bool ((rd_T66 l0 x3_1).f1.f0), .int .u64 ((rd_T66 l0 x3_1).f1.f1), .int .u64 ((rd_T66 l0 x3_1).f1.f2)]] (by rfl) rfl rfl (by (try simp only [List.map_toArray, List.map_cons, List.map_nil]); first | done | (simp only [hji7]; rfl) | rfl | (simp only [List.length_drop, List.length_take]; rfl)) ?_
                   with_reducible refine (intrusionref07_joined.calls ((rd_T66 l0 (ji7)).f0.f0) ((rd_T66 l0 (ji7)).f0.f1) ((rd_T66 l0 (ji7)).f0.f2) ((rd_T66 l0 (ji7)).f1.f0) ((rd_T66 l0 (ji7)).f1.f1) ((rd_T66 l0 (ji7)).f1.f2) ((rd_T66 l0 x3_1).f0.f0) ((rd_T66 l0 x3_1).f0.f1) ((rd_T66 l0 x3_1).f0.f2) ((rd_T66 l0 x3_1).f1.f0) ((rd_T66 l0 x3_1).f1.f1) ((rd_T66 l0 x3_1).f1.f2) false _ A12.out).mono ?_
                   rintro e w21 ⟨rfl, hb⟩
                   refine ⟨_, rfl, ?_⟩
                   replace HB := Aside0.mk (below_step (zB HB) hb)
                   (try clear hb)
                   refine hK.out _ _ ⟨(zh HB hw639_0), (zh HB hw639_1), (zh HB hw639_2), (zh HB hw639_3), (zh HB hw639_4), (zh HB hw639_5), (zh HB hw641_0), (zh HB hw641_1), (zh HB hw641_2), (zh HB hw641_3), (zh HB hw641_4), (zh HB hw641_5), (zh HB hw642_0), (zh HB hw642_1), (zh HB hw642_2), (zh HB hw642_3), (zh HB hw642_4), (zh HB hw642_5), (zh HB hw644_0), (zh HB hw644_1), (zh HB hw644_2), (zh HB hw644_3), (zh HB hw644_4), (zh HB hw644_5), (zh HB hw645_0), (zh HB hw645_1), (zh HB hw645_2), (zh HB hw645_3), (zh HB hw645_4), (zh HB hw645_5)⟩ (fun hHeld => ?_)
                   clear hK K
                   refine zn 43 ?_; refine zp 34 44 HT_ ?_; refine zp 35 45 HT_ ?_; refine zp 36 46 HT_ ?_; refine zd HT_ ?_
                   try go_wp2
                   go_roundg k1
                   case measure => have := HK1.out; omega
                   case rel => exact ⟨(wrap64 (x3_1 + 1)), (by first | rfl | (simp; done) | (simp [*]; done)), H', ⟨by have := HK1.out; omega⟩, ⟨zB HB⟩⟩
               · replace c11 := Bool.eq_false_iff.mpr c11
                 subst c11
                 rw [if_neg zF] at H
                 obtain rfl := Option.some.inj H
                 try go_wp2
                 replace HB := Aside0.mk (below_drew1 HB.out)
                 have p639 : 0 ≤ (x3_1 : Int) := za
                 have q639 : x3_1 < (l0.length : Int) := za
                 obtain ⟨ad639, e639, hx639_0, hx639_1, hx639_2, hx639_3, hx639_4, hx639_5⟩ := at_T66 HR0.out x3_1 p639 q639
                 have hw639_5 := hx639_5
                 have hw639_4 := hx639_4
                 have hw639_3 := hx639_3
                 have hw639_2 := hx639_2
                 have hw639_1 := hx639_1
                 have hw639_0 := hx639_0
                 cases e639
                 replace hx639_0 := zh HB hx639_0
                 replace hx639_1 := zh HB hx639_1
                 replace hx639_2 := zh HB hx639_2
                 replace hx639_3 := zh HB hx639_3
                 replace hx639_4 := zh HB hx639_4
                 replace hx639_5 := zh HB hx639_5
                 replace p639 := eq_true p639
                 replace q639 := eq_true q639
                 have p641 : 0 ≤ ((ji7) : Int) := za
                 have q641 : (ji7) < (l0.length : Int) := za
                 obtain ⟨ad641, e641, hx641_0, hx641_1, hx641_2, hx641_3, hx641_4, hx641_5⟩ := at_T66 HR0.out (ji7) p641 q641
                 have hw641_5 := hx641_5
                 have hw641_4 := hx641_4
                 have hw641_3 := hx641_3
                 have hw641_2 := hx641_2
                 have hw641_1 := hx641_1
                 have hw641_0 := hx641_0
                 obtain rfl : ad639 = ad641 := (by injection e641)
                 replace hx641_0 := zh HB hx641_0
                 replace hx641_1 := zh HB hx641_1
                 replace hx641_2 := zh HB hx641_2
                 replace hx641_3 := zh HB hx641_3
                 replace hx641_4 := zh HB hx641_4
                 replace hx641_5 := zh HB hx641_5
                 replace p641 := eq_true p641
                 replace q641 := eq_true q641
                 have p642 : 0 ≤ (x3_1 : Int) := za
                 have q642 : x3_1 < (l0.length : Int) := za
                 obtain ⟨ad642, e642, hx642_0, hx642_1, hx642_2, hx642_3, hx642_4, hx642_5⟩ := at_T66 HR0.out x3_1 p642 q642
                 have hw642_5 := hx642_5
                 have hw642_4 := hx642_4
                 have hw642_3 := hx642_3
                 have hw642_2 := hx642_2
                 have hw642_1 := hx642_1
                 have hw642_0 := hx642_0
                 obtain rfl : ad639 = ad642 := (by injection e642)
                 replace hx642_0 := zh HB hx642_0
                 replace hx642_1 := zh HB hx642_1
                 replace hx642_2 := zh HB hx642_2
                 replace hx642_3 := zh HB hx642_3
                 replace hx642_4 := zh HB hx642_4
                 replace hx642_5 := zh HB hx642_5
                 replace p642 := eq_true p642
                 replace q642 := eq_true q642
                 refine start_ (n := 37) (S := fun w' => w'.cell? (ad639.add ((x3_1).toNat * 6)) = some (.bool ((rd_T66 l0 x3_1).f0.f0)) ∧ w'.cell? ⟨(ad639.add ((x3_1).toNat * 6)).block, (ad639.add ((x3_1).toNat * 6)).off + 1, none⟩ = some (.int .u64 ((rd_T66 l0 x3_1).f0.f1)) ∧ w'.cell? ⟨(ad639.add ((x3_1).toNat * 6)).block, (ad639.add ((x3_1).toNat * 6)).off + 2, none⟩ = some (.int .u64 ((rd_T66 l0 x3_1).f0.f2)) ∧ w'.cell? ⟨(ad639.add ((x3_1).toNat * 6)).block, (ad639.add ((x3_1).toNat * 6)).off + 3, none⟩ = some (.bool ((rd_T66 l0 x3_1).f1.f0)) ∧ w'.cell? ⟨(ad639.add ((x3_1).toNat * 6)).block, (ad639.add ((x3_1).toNat * 6)).off + 4, none⟩ = some (.int .u64 ((rd_T66 l0 x3_1).f1.f1)) ∧ w'.cell? ⟨(ad639.add ((x3_1).toNat * 6)).block, (ad639.add ((x3_1).toNat * 6)).off + 5, none⟩ = some (.int .u64 ((rd_T66 l0 x3_1).f1.f2)) ∧ w'.cell? (ad639.add (((ji7)).toNat * 6)) = some (.bool ((rd_T66 l0 (ji7)).f0.f0)) ∧ w'.cell? ⟨(ad639.add (((ji7)).toNat * 6)).block, (ad639.add (((ji7)).toNat * 6)).off + 1, none⟩ = some (.int .u64 ((rd_T66 l0 (ji7)).f0.f1)) ∧ w'.cell? ⟨(ad639.add (((ji7)).toNat * 6)).block, (ad639.add (((ji7)).toNat * 6)).off + 2, none⟩ = some (.int .u64 ((rd_T66 l0 (ji7)).f0.f2)) ∧ w'.cell? ⟨(ad639.add (((ji7)).toNat * 6)).block, (ad639.add (((ji7)).toNat * 6)).off + 3, none⟩ = some (.bool ((rd_T66 l0 (ji7)).f1.f0)) ∧ w'.cell? ⟨(ad639.add (((ji7)).toNat * 6)).block, (ad639.add (((ji7)).toNat * 6)).off + 4, none⟩ = some (.int .u64 ((rd_T66 l0 (ji7)).f1.f1)) ∧ w'.cell? ⟨(ad639.add (((ji7)).toNat * 6)).block, (ad639.add (((ji7)).toNat * 6)).off + 5, none⟩ = some (.int .u64 ((rd_T66 l0 (ji7)).f1.f2)) ∧ w'.cell? (ad639.add ((x3_1).toNat * 6)) = some (.bool ((rd_T66 l0 x3_1).f0.f0)) ∧ w'.cell? ⟨(ad639.add ((x3_1).toNat * 6)).block, (ad639.add ((x3_1).toNat * 6)).off + 1, none⟩ = some (.int .u64 ((rd_T66 l0 x3_1).f0.f1)) ∧ w'.cell? ⟨(ad639.add ((x3_1).toNat * 6)).block, (ad639.add ((x3_1).toNat * 6)).off + 2, none⟩ = some (.int .u64 ((rd_T66 l0 x3_1).f0.f2)) ∧ w'.cell? ⟨(ad639.add ((x3_1).toNat * 6)).block, (ad639.add ((x3_1).toNat * 6)).off + 3, none⟩ = some (.bool ((rd_T66 l0 x3_1).f1.f0)) ∧ w'.cell? ⟨(ad639.add ((x3_1).toNat * 6)).block, (ad639.add ((x3_1).toNat * 6)).off + 4, none⟩ = some (.int .u64 ((rd_T66 l0 x3_1).f1.f1)) ∧ w'.cell? ⟨(ad639.add ((x3_1).toNat * 6)).block, (ad639.add ((x3_1).toNat * 6)).off + 5, none⟩ = some (.int .u64 ((rd_T66 l0 x3_1).f1.f2))) (ds := []) #[false, false, false, false, false, false, false, false, false, false, false, false, false, false, false, false, false, false, false, false, false, false, false, false, false, false, false, false, false, false, false, false, false, false, false, false, false] (by kernel_rfl) rfl rfl ⟨(zh HB hw639_0), (zh HB hw639_1), (zh HB hw639_2), (zh HB hw639_3), (zh HB hw639_4), (zh HB hw639_5), (zh HB hw641_0), (zh HB hw641_1), (zh HB hw641_2), (zh HB hw641_3), (zh HB hw641_4), (zh HB hw641_5), (zh HB hw642_0), (zh HB hw642_1), (zh HB hw642_2), (zh HB hw642_3), (zh HB hw642_4), (zh HB hw642_5)⟩ (fun hHeld => ?_); refine with_tabW intrusionref07_Valid.tab4 intrusionref07_Valid.bits4 (fun HT_ HW_ => ?_)
                 generalize wr.drew = w22 at HB hx639_0 hx639_1 hx639_2 hx639_3 hx639_4 hx639_5 hx641_0 hx641_1 hx641_2 hx641_3 hx641_4 hx641_5 hx642_0 hx642_1 hx642_2 hx642_3 hx642_4 hx642_5 hHeld ⊢
                 refine zp 0 10 HT_ ?_; refine zp 1 11 HT_ ?_; refine zp 2 12 HT_ ?_; refine zt 3 13 HT_ HW_ hHeld ?_; refine zo 4 14 HT_ (fun K hK => ?_)
                 refine zg Try.func78 #[.agg #[.bool ((rd_T66 l0 x3_1).f0.f0), .int .u64 ((rd_T66 l0 x3_1).f0.f1), .int .u64 ((rd_T66 l0 x3_1).f0.f2), .bool ((rd_T66 l0 x3_1).f1.f0), .int .u64 ((rd_T66 l0 x3_1).f1.f1), .int .u64 ((rd_T66 l0 x3_1).f1.f2)]] ?_
                 with_reducible refine (intrusionref07_Some.calls ((rd_T66 l0 x3_1).f0.f0) ((rd_T66 l0 x3_1).f0.f1) ((rd_T66 l0 x3_1).f0.f2) ((rd_T66 l0 x3_1).f1.f0) ((rd_T66 l0 x3_1).f1.f1) ((rd_T66 l0 x3_1).f1.f2) true _ A4.out).mono ?_
                 rintro e w23 ⟨rfl, hb⟩
                 refine ⟨_, rfl, ?_⟩
                 replace HB := Aside0.mk (below_step (zB HB) hb)
                 (try clear hb)
                 refine hK.out _ _ ⟨(zh HB hw639_0), (zh HB hw639_1), (zh HB hw639_2), (zh HB hw639_3), (zh HB hw639_4), (zh HB hw639_5), (zh HB hw641_0), (zh HB hw641_1), (zh HB hw641_2), (zh HB hw641_3), (zh HB hw641_4), (zh HB hw641_5), (zh HB hw642_0), (zh HB hw642_1), (zh HB hw642_2), (zh HB hw642_3), (zh HB hw642_4), (zh HB hw642_5)⟩ (fun hHeld => ?_)
                 clear hK K
                 refine zn 14 ?_; refine zp 5 15 HT_ ?_; refine zp 6 16 HT_ ?_; refine zp 7 17 HT_ ?_; refine zp 8 18 HT_ ?_; refine zp 9 19 HT_ ?_; refine zp 10 20 HT_ ?_; refine zp 11 21 HT_ ?_; refine zp 12 22 HT_ ?_; refine zp 13 23 HT_ ?_; refine zp 14 24 HT_ ?_; refine zp 16 26 HT_ ?_; refine zp 17 27 HT_ ?_; refine zp 18 28 HT_ ?_; refine zp 19 29 HT_ ?_; refine zt 15 25 HT_ HW_ hHeld ?_; refine zt 20 30 HT_ HW_ hHeld ?_; refine zo 21 31 HT_ (fun K hK => ?_)
                 refine goes_ Try.func80 (by kernel_rfl) rfl #[.agg #[.bool ((rd_T66 l0 (ji7)).f1.f0), .int .u64 ((rd_T66 l0 (ji7)).f1.f1), .int .u64 ((rd_T66 l0 (ji7)).f1.f2)], .agg #[.bool ((rd_T66 l0 x3_1).f0.f0), .int .u64 ((rd_T66 l0 x3_1).f0.f1), .int .u64 ((rd_T66 l0 x3_1).f0.f2)]] (by rfl) rfl rfl (by (try simp only [List.map_toArray, List.map_cons, List.map_nil]); first | done | (simp only [hji7]; rfl) | rfl | (simp only [List.length_drop, List.length_take]; rfl)) ?_
                 with_reducible refine (intrusionref07_Before.calls ((rd_T66 l0 (ji7)).f1.f0) ((rd_T66 l0 (ji7)).f1.f1) ((rd_T66 l0 (ji7)).f1.f2) ((rd_T66 l0 x3_1).f0.f0) ((rd_T66 l0 x3_1).f0.f1) ((rd_T66 l0 x3_1).f0.f2) false _ A10.out).mono ?_
                 rintro e w24 ⟨rfl, hb⟩
                 refine ⟨_, rfl, ?_⟩
                 replace HB := Aside0.mk (below_step (zB HB) hb)
                 (try clear hb)
                 refine hK.out _ _ ⟨(zh HB hw639_0), (zh HB hw639_1), (zh HB hw639_2), (zh HB hw639_3), (zh HB hw639_4), (zh HB hw639_5), (zh HB hw641_0), (zh HB hw641_1), (zh HB hw641_2), (zh HB hw641_3), (zh HB hw641_4), (zh HB hw641_5), (zh HB hw642_0), (zh HB hw642_1), (zh HB hw642_2), (zh HB hw642_3), (zh HB hw642_4), (zh HB hw642_5)⟩ (fun hHeld => ?_)
                 clear hK K
                 refine zn 31 ?_; refine zp 22 32 HT_ ?_; refine zp 23 33 HT_ ?_; refine zu 24 34 HT_ ?_; refine zu 25 35 HT_ ?_; refine zu 26 36 HT_ ?_; refine zu 27 37 HT_ ?_; refine zu 28 38 HT_ ?_; refine zu 29 39 HT_ ?_; refine zu 30 40 HT_ ?_; refine zu 31 41 HT_ ?_; refine zu 32 42 HT_ ?_; refine zu 33 43 HT_ ?_; refine zp 34 44 HT_ ?_; refine zp 35 45 HT_ ?_; refine zp 36 46 HT_ ?_; refine zd HT_ ?_
                 try go_wp2
                 go_ret
                 exact ⟨by first | rfl | (simp [errW_none, errW_some] <;> rfl) | (simp only [← hji7]; first | rfl | (simp [errW_none, errW_some] <;> rfl)) | (simp [*, errW_none, errW_some] <;> rfl), by repeat (first | (with_reducible first | exact HB.out | apply below_alloc | apply pw_below_drewN | apply below_drew1) | exact HB.out)⟩
             · rw [if_neg c9] at H
               exact absurd H (by simp)
           · rw [if_neg c8] at H
             exact absurd H (by simp)
         · rw [if_neg c6] at H
           have c6b0 : decide (0 < x3_1) = false := decide_eq_false c6
           clear c6
           have H' := Aside0.mk H
           clear H
           try go_wp2
           replace HB := Aside0.mk (below_drew1 HB.out)
           have p639 : 0 ≤ (x3_1 : Int) := za
           have q639 : x3_1 < (l0.length : Int) := za
           obtain ⟨ad639, e639, hx639_0, hx639_1, hx639_2, hx639_3, hx639_4, hx639_5⟩ := at_T66 HR0.out x3_1 p639 q639
           have hw639_5 := hx639_5
           have hw639_4 := hx639_4
           have hw639_3 := hx639_3
           have hw639_2 := hx639_2
           have hw639_1 := hx639_1
           have hw639_0 := hx639_0
           cases e639
           replace hx639_0 := zh HB hx639_0
           replace hx639_1 := zh HB hx639_1
           replace hx639_2 := zh HB hx639_2
           replace hx639_3 := zh HB hx639_3
           replace hx639_4 := zh HB hx639_4
           replace hx639_5 := zh HB hx639_5
           replace p639 := eq_true p639
           replace q639 := eq_true q639
           refine start_ (n := 37) (S := fun w' => w'.cell? (ad639.add ((x3_1).toNat * 6)) = some (.bool ((rd_T66 l0 x3_1).f0.f0)) ∧ w'.cell? ⟨(ad639.add ((x3_1).toNat * 6)).block, (ad639.add ((x3_1).toNat * 6)).off + 1, none⟩ = some (.int .u64 ((rd_T66 l0 x3_1).f0.f1)) ∧ w'.cell? ⟨(ad639.add ((x3_1).toNat * 6)).block, (ad639.add ((x3_1).toNat * 6)).off + 2, none⟩ = some (.int .u64 ((rd_T66 l0 x3_1).f0.f2)) ∧ w'.cell? ⟨(ad639.add ((x3_1).toNat * 6)).block, (ad639.add ((x3_1).toNat * 6)).off + 3, none⟩ = some (.bool ((rd_T66 l0 x3_1).f1.f0)) ∧ w'.cell? ⟨(ad639.add ((x3_1).toNat * 6)).block, (ad639.add ((x3_1).toNat * 6)).off + 4, none⟩ = some (.int .u64 ((rd_T66 l0 x3_1).f1.f1)) ∧ w'.cell? ⟨(ad639.add ((x3_1).toNat * 6)).block, (ad639.add ((x3_1).toNat * 6)).off + 5, none⟩ = some (.int .u64 ((rd_T66 l0 x3_1).f1.f2))) (ds := []) #[false, false, false, false, false, false, false, false, false, false, false, false, false, false, false, false, false, false, false, false, false, false, false, false, false, false, false, false, false, false, false, false, false, false, false, false, false] (by kernel_rfl) rfl rfl ⟨(zh HB hw639_0), (zh HB hw639_1), (zh HB hw639_2), (zh HB hw639_3), (zh HB hw639_4), (zh HB hw639_5)⟩ (fun hHeld => ?_); refine with_tabW intrusionref07_Valid.tab4 intrusionref07_Valid.bits4 (fun HT_ HW_ => ?_)
           generalize wr.drew = w25 at HB hx639_0 hx639_1 hx639_2 hx639_3 hx639_4 hx639_5 hHeld ⊢
           refine zp 0 10 HT_ ?_; refine zp 1 11 HT_ ?_; refine zp 2 12 HT_ ?_; refine zt 3 13 HT_ HW_ hHeld ?_; refine zo 4 14 HT_ (fun K hK => ?_)
           refine zg Try.func78 #[.agg #[.bool ((rd_T66 l0 x3_1).f0.f0), .int .u64 ((rd_T66 l0 x3_1).f0.f1), .int .u64 ((rd_T66 l0 x3_1).f0.f2), .bool ((rd_T66 l0 x3_1).f1.f0), .int .u64 ((rd_T66 l0 x3_1).f1.f1), .int .u64 ((rd_T66 l0 x3_1).f1.f2)]] ?_
           with_reducible refine (intrusionref07_Some.calls ((rd_T66 l0 x3_1).f0.f0) ((rd_T66 l0 x3_1).f0.f1) ((rd_T66 l0 x3_1).f0.f2) ((rd_T66 l0 x3_1).f1.f0) ((rd_T66 l0 x3_1).f1.f1) ((rd_T66 l0 x3_1).f1.f2) true _ A4.out).mono ?_
           rintro e w26 ⟨rfl, hb⟩
           refine ⟨_, rfl, ?_⟩
           replace HB := Aside0.mk (below_step (zB HB) hb)
           (try clear hb)
           refine hK.out _ _ ⟨(zh HB hw639_0), (zh HB hw639_1), (zh HB hw639_2), (zh HB hw639_3), (zh HB hw639_4), (zh HB hw639_5)⟩ (fun hHeld => ?_)
           clear hK K
           refine zn 14 ?_; refine zp 5 15 HT_ ?_; refine zp 6 16 HT_ ?_; refine zp 7 17 HT_ ?_; refine zp 8 18 HT_ ?_; refine zp 9 19 HT_ ?_; refine zu 10 20 HT_ ?_; refine zu 11 21 HT_ ?_; refine zu 12 22 HT_ ?_; refine zu 13 23 HT_ ?_; refine zu 14 24 HT_ ?_; refine zu 15 25 HT_ ?_; refine zu 16 26 HT_ ?_; refine zu 17 27 HT_ ?_; refine zu 18 28 HT_ ?_; refine zu 19 29 HT_ ?_; refine zu 20 30 HT_ ?_; refine zu 21 31 HT_ ?_; refine zu 22 32 HT_ ?_; refine zu 23 33 HT_ ?_; refine zu 24 34 HT_ ?_; refine zu 25 35 HT_ ?_; refine zu 26 36 HT_ ?_; refine zu 27 37 HT_ ?_; refine zu 28 38 HT_ ?_; refine zu 29 39 HT_ ?_; refine zu 30 40 HT_ ?_; refine zu 31 41 HT_ ?_; refine zu 32 42 HT_ ?_; refine zu 33 43 HT_ ?_; refine zu 34 44 HT_ ?_; refine zp 35 45 HT_ ?_; refine zp 36 46 HT_ ?_; refine zd HT_ ?_
           try go_wp2
           go_roundg k1
           case measure => have := HK1.out; omega
           case rel => exact ⟨(wrap64 (x3_1 + 1)), (by first | rfl | (simp; done) | (simp [*]; done)), H', ⟨by have := HK1.out; omega⟩, ⟨zB HB⟩⟩
       · replace c5 := Bool.eq_false_iff.mpr c5
         subst c5
         rw [if_neg zF] at H
         obtain rfl := Option.some.inj H
         try go_wp2
         replace HB := Aside0.mk (below_drew1 HB.out)
         have p639 : 0 ≤ (x3_1 : Int) := za
         have q639 : x3_1 < (l0.length : Int) := za
         obtain ⟨ad639, e639, hx639_0, hx639_1, hx639_2, hx639_3, hx639_4, hx639_5⟩ := at_T66 HR0.out x3_1 p639 q639
         have hw639_5 := hx639_5
         have hw639_4 := hx639_4
         have hw639_3 := hx639_3
         have hw639_2 := hx639_2
         have hw639_1 := hx639_1
         have hw639_0 := hx639_0
         cases e639
         replace hx639_0 := zh HB hx639_0
         replace hx639_1 := zh HB hx639_1
         replace hx639_2 := zh HB hx639_2
         replace hx639_3 := zh HB hx639_3
         replace hx639_4 := zh HB hx639_4
         replace hx639_5 := zh HB hx639_5
         replace p639 := eq_true p639
         replace q639 := eq_true q639
         refine start_ (n := 37) (S := fun w' => w'.cell? (ad639.add ((x3_1).toNat * 6)) = some (.bool ((rd_T66 l0 x3_1).f0.f0)) ∧ w'.cell? ⟨(ad639.add ((x3_1).toNat * 6)).block, (ad639.add ((x3_1).toNat * 6)).off + 1, none⟩ = some (.int .u64 ((rd_T66 l0 x3_1).f0.f1)) ∧ w'.cell? ⟨(ad639.add ((x3_1).toNat * 6)).block, (ad639.add ((x3_1).toNat * 6)).off + 2, none⟩ = some (.int .u64 ((rd_T66 l0 x3_1).f0.f2)) ∧ w'.cell? ⟨(ad639.add ((x3_1).toNat * 6)).block, (ad639.add ((x3_1).toNat * 6)).off + 3, none⟩ = some (.bool ((rd_T66 l0 x3_1).f1.f0)) ∧ w'.cell? ⟨(ad639.add ((x3_1).toNat * 6)).block, (ad639.add ((x3_1).toNat * 6)).off + 4, none⟩ = some (.int .u64 ((rd_T66 l0 x3_1).f1.f1)) ∧ w'.cell? ⟨(ad639.add ((x3_1).toNat * 6)).block, (ad639.add ((x3_1).toNat * 6)).off + 5, none⟩ = some (.int .u64 ((rd_T66 l0 x3_1).f1.f2))) (ds := []) #[false, false, false, false, false, false, false, false, false, false, false, false, false, false, false, false, false, false, false, false, false, false, false, false, false, false, false, false, false, false, false, false, false, false, false, false, false] (by kernel_rfl) rfl rfl ⟨(zh HB hw639_0), (zh HB hw639_1), (zh HB hw639_2), (zh HB hw639_3), (zh HB hw639_4), (zh HB hw639_5)⟩ (fun hHeld => ?_); refine with_tabW intrusionref07_Valid.tab4 intrusionref07_Valid.bits4 (fun HT_ HW_ => ?_)
         generalize wr.drew = w27 at HB hx639_0 hx639_1 hx639_2 hx639_3 hx639_4 hx639_5 hHeld ⊢
         refine zp 0 10 HT_ ?_; refine zp 1 11 HT_ ?_; refine zp 2 12 HT_ ?_; refine zt 3 13 HT_ HW_ hHeld ?_; refine zo 4 14 HT_ (fun K hK => ?_)
         refine zg Try.func78 #[.agg #[.bool ((rd_T66 l0 x3_1).f0.f0), .int .u64 ((rd_T66 l0 x3_1).f0.f1), .int .u64 ((rd_T66 l0 x3_1).f0.f2), .bool ((rd_T66 l0 x3_1).f1.f0), .int .u64 ((rd_T66 l0 x3_1).f1.f1), .int .u64 ((rd_T66 l0 x3_1).f1.f2)]] ?_
         with_reducible refine (intrusionref07_Some.calls ((rd_T66 l0 x3_1).f0.f0) ((rd_T66 l0 x3_1).f0.f1) ((rd_T66 l0 x3_1).f0.f2) ((rd_T66 l0 x3_1).f1.f0) ((rd_T66 l0 x3_1).f1.f1) ((rd_T66 l0 x3_1).f1.f2) false _ A4.out).mono ?_
         rintro e w28 ⟨rfl, hb⟩
         refine ⟨_, rfl, ?_⟩
         replace HB := Aside0.mk (below_step (zB HB) hb)
         (try clear hb)
         refine hK.out _ _ ⟨(zh HB hw639_0), (zh HB hw639_1), (zh HB hw639_2), (zh HB hw639_3), (zh HB hw639_4), (zh HB hw639_5)⟩ (fun hHeld => ?_)
         clear hK K
         refine zn 14 ?_; refine zp 5 15 HT_ ?_; refine zp 6 16 HT_ ?_; refine zu 7 17 HT_ ?_; refine zu 8 18 HT_ ?_; refine zu 9 19 HT_ ?_; refine zu 10 20 HT_ ?_; refine zu 11 21 HT_ ?_; refine zu 12 22 HT_ ?_; refine zu 13 23 HT_ ?_; refine zu 14 24 HT_ ?_; refine zu 15 25 HT_ ?_; refine zu 16 26 HT_ ?_; refine zu 17 27 HT_ ?_; refine zu 18 28 HT_ ?_; refine zu 19 29 HT_ ?_; refine zu 20 30 HT_ ?_; refine zu 21 31 HT_ ?_; refine zu 22 32 HT_ ?_; refine zu 23 33 HT_ ?_; refine zu 24 34 HT_ ?_; refine zu 25 35 HT_ ?_; refine zu 26 36 HT_ ?_; refine zu 27 37 HT_ ?_; refine zu 28 38 HT_ ?_; refine zu 29 39 HT_ ?_; refine zu 30 40 HT_ ?_; refine zu 31 41 HT_ ?_; refine zu 32 42 HT_ ?_; refine zu 33 43 HT_ ?_; refine zu 34 44 HT_ ?_; refine zu 35 45 HT_ ?_; refine zp 36 46 HT_ ?_; refine zd HT_ ?_
         try go_wp2
         go_ret
         exact ⟨by first | rfl | (simp [errW_none, errW_some] <;> rfl) | (simp [*, errW_none, errW_some] <;> rfl), by repeat (first | (with_reducible first | exact HB.out | apply below_alloc | apply pw_below_drewN | apply below_drew1) | exact HB.out)⟩
     · rw [if_neg c3] at H
       exact absurd H (by simp)
   · rw [if_neg c2] at H
     have c2b0 : decide (x3_1 < (l0.length : Int)) = false := decide_eq_false c2
     clear c2
     obtain rfl := Option.some.inj H
     go_wp2
     go_ret
     exact ⟨by first | rfl | (simp [errW_none, errW_some] <;> rfl) | (simp [*, errW_none, errW_some] <;> rfl), by repeat (first | (with_reducible first | exact HB.out | apply below_alloc | apply pw_below_drewN | apply below_drew1) | exact HB.out)⟩
end Go.Proofs.Ytcgfpffgiimgmaa.Q
end

section
namespace Go.Proofs.Ytcgfpffgiimgmaa.Q
open Go.RowKit Go.Proofs.YtcgfpffgiimgmaaW.PrintWords Go.Proofs.YtcgfpffgiimgmaaW.PrintLast Go.Proofs.YtcgfpffgiimgmaaW.PrintMore
attribute [local go_sem] max2_int min2_int max_two min_two max_three min_three max_four min_four
set_option linter.unusedVariables false
set_option linter.unusedSimpArgs false
def intrusionref07_Contains.l0 : Nat → List (S66) → Int → Bool → Int → Int → Option (Bool)
  | 0, _, _, _, _, _ => none
  | k + 1, x0, x5, x648000, x648001, x648002 => if x5 < (x0.length : Int) then ((intrusionref07_Fine.f x648000 x648001 x648002).bind fun t648 => (if t648 = true then (if 0 ≤ x5 then ((intrusionref07_Some.f ((rd_T66 x0 x5).f0.f0) ((rd_T66 x0 x5).f0.f1) ((rd_T66 x0 x5).f0.f2) ((rd_T66 x0 x5).f1.f0) ((rd_T66 x0 x5).f1.f1) ((rd_T66 x0 x5).f1.f2)).bind fun t650 => (if t650 = true then (if (((rd_T66 x0 x5).f0.f0) == x648000) = true then ((intrusionref07_Before.f x648000 x648001 x648002 ((rd_T66 x0 x5).f0.f0) ((rd_T66 x0 x5).f0.f1) ((rd_T66 x0 x5).f0.f2)).bind fun t653 => (if t653 = true then (intrusionref07_Contains.l0 k x0 (wrap64 (x5 + 1)) x648000 x648001 x648002) else ((intrusionref07_Before.f ((rd_T66 x0 x5).f1.f0) ((rd_T66 x0 x5).f1.f1) ((rd_T66 x0 x5).f1.f2) x648000 x648001 x648002).bind fun t655 => (if t655 = true then (intrusionref07_Contains.l0 k x0 (wrap64 (x5 + 1)) x648000 x648001 x648002) else (some true))))) else (intrusionref07_Contains.l0 k x0 (wrap64 (x5 + 1)) x648000 x648001 x648002)) else (intrusionref07_Contains.l0 k x0 (wrap64 (x5 + 1)) x648000 x648001 x648002))) else (none)) else (intrusionref07_Contains.l0 k x0 (wrap64 (x5 + 1)) x648000 x648001 x648002))) else (some false)
def intrusionref07_Contains.f (k : Nat) (l0 : List (S66)) (a1_0 : Bool) (a1_1 : Int) (a1_2 : Int) : Option (Bool) := intrusionref07_Contains.l0 k l0 0 a1_0 a1_1 a1_2
theorem intrusionref07_Contains.mono_l : ∀ k, (∀ y0 y1 y2 y3 y4, LeO (intrusionref07_Contains.l0 k y0 y1 y2 y3 y4) (intrusionref07_Contains.l0 (k + 1) y0 y1 y2 y3 y4))
  | 0 => fun _ _ _ _ _ r h => by simp [intrusionref07_Contains.l0] at h
  | k + 1 => by
    have ih0 := intrusionref07_Contains.mono_l k
    · intro y0 y1 y2 y3 y4
      unfold intrusionref07_Contains.l0
      repeat' first
      | (with_reducible exact ih0 _ _ _ _ _)
      | (with_reducible exact LeO.refl _)
      | (with_reducible exact LeO.none _)
      | (with_reducible refine LeO.ite ?_ ?_)
      | (with_reducible refine LeO.bind ?_ (fun _ => ?_))
      | exact ih0 _ _ _ _ _
      | exact LeO.none _
      | refine LeO.ite ?_ ?_
      | refine LeO.bind ?_ (fun _ => ?_)
theorem intrusionref07_Contains.mono : ∀ a0 a1 a2 a3 k, LeO (intrusionref07_Contains.f k a0 a1 a2 a3) (intrusionref07_Contains.f (k + 1) a0 a1 a2 a3) := by
  intro a0 a1 a2 a3 k
  have ih0 := intrusionref07_Contains.mono_l k
  unfold intrusionref07_Contains.f
  repeat' first
      | (with_reducible exact ih0 _ _ _ _ _)
      | (with_reducible exact LeO.refl _)
      | (with_reducible exact LeO.none _)
      | (with_reducible refine LeO.ite ?_ ?_)
      | (with_reducible refine LeO.bind ?_ (fun _ => ?_))
      | exact ih0 _ _ _ _ _
      | exact LeO.none _
      | refine LeO.ite ?_ ?_
      | refine LeO.bind ?_ (fun _ => ?_)
def intrusionref07_Contains.T4 : Bool × List (List Nat × List Nat) := (true, [([], []), ([0], [0]), ([1, 1], [1]), ([2], [2]), ([2], [2]), ([3, 4, 2], [2, 3, 4]), ([5, 2], [2, 5]), ([6, 2, 2], [2, 6]), ([2, 7], [2, 7]), ([8, 7], [8]), ([9], [9]), ([9], [9]), ([10, 11, 9], [9, 10, 11]), ([12, 9], [9, 12]), ([13, 9], [9, 13]), ([14, 9], [9, 14]), ([9], [9]), ([16, 9], [9, 16]), ([15, 17, 9], [9, 15, 17]), ([9, 18], [9, 18]), ([19, 9], [19]), ([20], [20]), ([20], [20]), ([20], [20]), ([22, 23, 20], [20, 22, 23]), ([24, 20], [20, 24]), ([25, 20], [20, 25]), ([21, 26, 20, 20], [20, 21, 26]), ([27, 20], [20, 27]), ([20, 28], [20, 28]), ([29, 27], [29]), ([30], [30]), ([30], [30]), ([31, 32, 30], [30, 31, 32]), ([33, 30], [30, 33]), ([34, 30], [30, 34]), ([30], [30]), ([35, 36, 30, 30], [30, 35, 36]), ([37, 30], [30, 37]), ([30, 38], [30, 38])])
def intrusionref07_Contains.B4 : List Nat := [0, 1, 3, 7, 7, 31, 63, 127, 255, 511, 1023, 1023, 4095, 8191, 16383, 32767, 1023, 66559, 262143, 524287, 1048575, 2097151, 2097151, 2097151, 14680063, 31457279, 65011711, 134217727, 268435455, 536870911, 1073741823, 2147483647, 2147483647, 8589934591, 17179869183, 34359738367, 2147483647, 137438953471, 274877906943, 549755813887]
theorem intrusionref07_Contains.tab4 : rtab .any (opsOf Try.f43 4) = intrusionref07_Contains.T4 := by kernel_rfl
theorem intrusionref07_Contains.bits4 : waitsOk intrusionref07_Contains.T4.2 intrusionref07_Contains.B4 = true := by kernel_rfl
set_option maxHeartbeats 8000000 in
set_option maxRecDepth 100000 in
theorem intrusionref07_Contains.calls (k : Nat) (A0 : Option Addr) (c0 : Nat) (l0 : List (S66)) (a1_0 : Bool) (a1_1 : Int) (a1_2 : Int) (r : Bool) (w : World) (hr0 : Kd.C k66 w A0 l0.length l0) (hc0 : l0.length ≤ c0) (h : intrusionref07_Contains.f k l0 a1_0 a1_1 a1_2 = some r) :
 Calls Try.prog 43 #[.slice A0 l0.length c0, .agg #[.bool a1_0, .int .u64 a1_1, .int .u64 a1_2]] w fun e w' => e = .returned (.bool r) ∧ Below w.heap.size w w' := by
 have hu36 := Try.underlying36
 have hu66 := Try.underlying66
 have HR0 := Aside0.mk hr0
 have HC0 := Aside0.mk hc0
 clear hr0 hc0
 have HB := Aside0.mk (Below.refl w.heap.size w)
 have H : (intrusionref07_Contains.l0 k l0 0 a1_0 a1_1 a1_2) = some r := h
 clear h
 have H' := Aside0.mk H
 clear H
 go_enter Try.func43, Try.ntmps43
 go_wp2_with (first | ((with_reducible refine gate_dst (N := 3) rfl ?_); refine zx 3 #[.bool a1_0, .int .u64 a1_1, .int .u64 a1_2] 36 ?_; intro gb647 hg w3 hbox hb; have BK647 := Aside0.mk (hbox); have GW647 := Aside0.mk ((by rw [hg]; exact (below_size (zB HB)) : w.heap.size ≤ gb647)); have GE647 := Aside0.mk ((by rw [hg]; exact (below_size (zB HB)) : w.heap.size ≤ gb647)); replace HB := Aside0.mk (below_step (zB HB) hb); clear hb hbox hg))
 go_loopg [5] k (fun kq v5 w' => ∃ (x5_1 : Int), v5 = .int .i64 x5_1 ∧ Aside0 (intrusionref07_Contains.l0 kq l0 x5_1 a1_0 a1_1 a1_2 = some r) ∧ Aside0 (kq ≤ k) ∧ Aside0 (w'.heap[gb647]? = some (.cells #[.bool a1_0, .int .u64 a1_1, .int .u64 a1_2] 36 (0, 0))) ∧ Aside0 (Below w.heap.size w w'))
 case atStart => exact ⟨(0), (by first | rfl | (simp; done) | (simp [*]; done)), H', ⟨Nat.le_refl _⟩, ⟨zK BK647⟩, ⟨zB HB⟩⟩
 case round =>
  clear H'
  try clear p2
  obtain ⟨x5_1, rfl, HA, HK1, BK647, HB⟩ := hrel
  cases gk with
  | zero => exact absurd HA.out (by simp [intrusionref07_Contains.l0])
  | succ k1 =>
   have H := HA.out
   clear HA
   simp only [intrusionref07_Contains.l0] at H
   by_cases c4 : x5_1 < (l0.length : Int)
   · rw [if_pos c4] at H
     have c4b0 : decide (x5_1 < (l0.length : Int)) = true := decide_eq_true c4
     clear c4
     replace H := Option.bind_eq_some_iff.mp H
     obtain ⟨t648, A50, H⟩ := H
     try dsimp only at H
     have A5 := Aside0.mk A50
     clear A50
     by_cases c6 : t648 = true
     · subst c6
       rw [if_pos rfl] at H
       by_cases c7 : 0 ≤ x5_1
       · rw [if_pos c7] at H
         have c7b0 : decide (0 ≤ x5_1) = true := decide_eq_true c7
         clear c7
         replace H := Option.bind_eq_some_iff.mp H
         obtain ⟨t650, A80, H⟩ := H
         try dsimp only at H
         have A8 := Aside0.mk A80
         clear A80
         by_cases c9 : t650 = true
         · subst c9
           rw [if_pos rfl] at H
           by_cases c10 : (((rd_T66 l0 x5_1).f0.f0) == a1_0) = true
           · rw [if_pos c10] at H
             have c10b0 : (((rd_T66 l0 x5_1).f0.f0) == a1_0) = true := c10
             (try (have c10b1 : decide (((rd_T66 l0 x5_1).f0.f0) = a1_0) = true := by first | (simpa using c10) | exact decide_eq_true (Decidable.not_not.1 (fun hn => c10 (bne_iff_ne.2 hn))) | exact beq_iff_eq.2 (Decidable.not_not.1 (fun hn => c10 (bne_iff_ne.2 hn))) | exact decide_eq_false (bne_iff_ne.1 c10) | exact beq_eq_false_iff_ne.2 (bne_iff_ne.1 c10) | exact bne_iff_ne.1 c10))
             (try (have c10b2 : (((rd_T66 l0 x5_1).f0.f0) == a1_0) = true := by first | (simpa using c10) | exact decide_eq_true (Decidable.not_not.1 (fun hn => c10 (bne_iff_ne.2 hn))) | exact beq_iff_eq.2 (Decidable.not_not.1 (fun hn => c10 (bne_iff_ne.2 hn))) | exact decide_eq_false (bne_iff_ne.1 c10) | exact beq_eq_false_iff_ne.2 (bne_iff_ne.1 c10) | exact bne_iff_ne.1 c10))
             clear c10
             replace H := Option.bind_eq_some_iff.mp H
             obtain ⟨t653, A110, H⟩ := H
             try dsimp only at H
             have A11 := Aside0.mk A110
             clear A110
             by_cases c12 : t653 = true
             · subst c12
               rw [if_pos rfl] at H
               have H' := Aside0.mk H
               clear H
               try go_wp2
               replace BK647 := Aside0.mk (blk_drew BK647.out)
               replace HB := Aside0.mk (below_drew1 HB.out)
               have p649 : 0 ≤ (x5_1 : Int) := za
               have q649 : x5_1 < (l0.length : Int) := za
               obtain ⟨ad649, e649, hx649_0, hx649_1, hx649_2, hx649_3, hx649_4, hx649_5⟩ := at_T66 HR0.out x5_1 p649 q649
               have hw649_5 := hx649_5
               have hw649_4 := hx649_4
               have hw649_3 := hx649_3
               have hw649_2 := hx649_2
               have hw649_1 := hx649_1
               have hw649_0 := hx649_0
               cases e649
               replace hx649_0 := zh HB hx649_0
               replace hx649_1 := zh HB hx649_1
               replace hx649_2 := zh HB hx649_2
               replace hx649_3 := zh HB hx649_3
               replace hx649_4 := zh HB hx649_4
               replace hx649_5 := zh HB hx649_5
               replace p649 := eq_true p649
               replace q649 := eq_true q649
               have p651 : 0 ≤ (x5_1 : Int) := za
               have q651 : x5_1 < (l0.length : Int) := za
               obtain ⟨ad651, e651, hx651_0, hx651_1, hx651_2, hx651_3, hx651_4, hx651_5⟩ := at_T66 HR0.out x5_1 p651 q651
               have hw651_5 := hx651_5
               have hw651_4 := hx651_4
               have hw651_3 := hx651_3
               have hw651_2 := hx651_2
               have hw651_1 := hx651_1
               have hw651_0 := hx651_0
               obtain rfl : ad649 = ad651 := (by injection e651)
               replace hx651_0 := zh HB hx651_0
               replace hx651_1 := zh HB hx651_1
               replace hx651_2 := zh HB hx651_2
               replace hx651_3 := zh HB hx651_3
               replace hx651_4 := zh HB hx651_4
               replace hx651_5 := zh HB hx651_5
               replace p651 := eq_true p651
               replace q651 := eq_true q651
               have p652 : 0 ≤ (x5_1 : Int) := za
               have q652 : x5_1 < (l0.length : Int) := za
               obtain ⟨ad652, e652, hx652_0, hx652_1, hx652_2, hx652_3, hx652_4, hx652_5⟩ := at_T66 HR0.out x5_1 p652 q652
               have hw652_5 := hx652_5
               have hw652_4 := hx652_4
               have hw652_3 := hx652_3
               have hw652_2 := hx652_2
               have hw652_1 := hx652_1
               have hw652_0 := hx652_0
               obtain rfl : ad649 = ad652 := (by injection e652)
               replace hx652_0 := zh HB hx652_0
               replace hx652_1 := zh HB hx652_1
               replace hx652_2 := zh HB hx652_2
               replace hx652_3 := zh HB hx652_3
               replace hx652_4 := zh HB hx652_4
               replace hx652_5 := zh HB hx652_5
               replace p652 := eq_true p652
               replace q652 := eq_true q652
               refine start_ (n := 40) (S := fun w' => w'.cell? ⟨gb647, 0, none⟩ = some (.bool a1_0) ∧ w'.cell? ⟨gb647, 1, none⟩ = some (.int .u64 a1_1) ∧ w'.cell? ⟨gb647, 2, none⟩ = some (.int .u64 a1_2) ∧ w'.cell? (ad649.add ((x5_1).toNat * 6)) = some (.bool ((rd_T66 l0 x5_1).f0.f0)) ∧ w'.cell? ⟨(ad649.add ((x5_1).toNat * 6)).block, (ad649.add ((x5_1).toNat * 6)).off + 1, none⟩ = some (.int .u64 ((rd_T66 l0 x5_1).f0.f1)) ∧ w'.cell? ⟨(ad649.add ((x5_1).toNat * 6)).block, (ad649.add ((x5_1).toNat * 6)).off + 2, none⟩ = some (.int .u64 ((rd_T66 l0 x5_1).f0.f2)) ∧ w'.cell? ⟨(ad649.add ((x5_1).toNat * 6)).block, (ad649.add ((x5_1).toNat * 6)).off + 3, none⟩ = some (.bool ((rd_T66 l0 x5_1).f1.f0)) ∧ w'.cell? ⟨(ad649.add ((x5_1).toNat * 6)).block, (ad649.add ((x5_1).toNat * 6)).off + 4, none⟩ = some (.int .u64 ((rd_T66 l0 x5_1).f1.f1)) ∧ w'.cell? ⟨(ad649.add ((x5_1).toNat * 6)).block, (ad649.add ((x5_1).toNat * 6)).off + 5, none⟩ = some (.int .u64 ((rd_T66 l0 x5_1).f1.f2)) ∧ w'.cell? (ad649.add ((x5_1).toNat * 6)) = some (.bool ((rd_T66 l0 x5_1).f0.f0)) ∧ w'.cell? ⟨(ad649.add ((x5_1).toNat * 6)).block, (ad649.add ((x5_1).toNat * 6)).off + 1, none⟩ = some (.int .u64 ((rd_T66 l0 x5_1).f0.f1)) ∧ w'.cell? ⟨(ad649.add ((x5_1).toNat * 6)).block, (ad649.add ((x5_1).toNat * 6)).off + 2, none⟩ = some (.int .u64 ((rd_T66 l0 x5_1).f0.f2)) ∧ w'.cell? ⟨(ad649.add ((x5_1).toNat * 6)).block, (ad649.add ((x5_1).toNat * 6)).off + 3, none⟩ = some (.bool ((rd_T66 l0 x5_1).f1.f0)) ∧ w'.cell? ⟨(ad649.add ((x5_1).toNat * 6)).block, (ad649.add ((x5_1).toNat * 6)).off + 4, none⟩ = some (.int .u64 ((rd_T66 l0 x5_1).f1.f1)) ∧ w'.cell? ⟨(ad649.add ((x5_1).toNat * 6)).block, (ad649.add ((x5_1).toNat * 6)).off + 5, none⟩ = some (.int .u64 ((rd_T66 l0 x5_1).f1.f2)) ∧ w'.cell? (ad649.add ((x5_1).toNat * 6)) = some (.bool ((rd_T66 l0 x5_1).f0.f0)) ∧ w'.cell? ⟨(ad649.add ((x5_1).toNat * 6)).block, (ad649.add ((x5_1).toNat * 6)).off + 1, none⟩ = some (.int .u64 ((rd_T66 l0 x5_1).f0.f1)) ∧ w'.cell? ⟨(ad649.add ((x5_1).toNat * 6)).block, (ad649.add ((x5_1).toNat * 6)).off + 2, none⟩ = some (.int .u64 ((rd_T66 l0 x5_1).f0.f2)) ∧ w'.cell? ⟨(ad649.add ((x5_1).toNat * 6)).block, (ad649.add ((x5_1).toNat * 6)).off + 3, none⟩ = some (.bool ((rd_T66 l0 x5_1).f1.f0)) ∧ w'.cell? ⟨(ad649.add ((x5_1).toNat * 6)).block, (ad649.add ((x5_1).toNat * 6)).off + 4, none⟩ = some (.int .u64 ((rd_T66 l0 x5_1).f1.f1)) ∧ w'.cell? ⟨(ad649.add ((x5_1).toNat * 6)).block, (ad649.add ((x5_1).toNat * 6)).off + 5, none⟩ = some (.int .u64 ((rd_T66 l0 x5_1).f1.f2))) (ds := []) #[false, false, false, false, false, false, false, false, false, false, false, false, false, false, false, false, false, false, false, false, false, false, false, false, false, false, false, false, false, false, false, false, false, false, false, false, false, false, false, false] (by kernel_rfl) rfl rfl ⟨zc BK647 0, zc BK647 1, zc BK647 2, (zh HB hw649_0), (zh HB hw649_1), (zh HB hw649_2), (zh HB hw649_3), (zh HB hw649_4), (zh HB hw649_5), (zh HB hw651_0), (zh HB hw651_1), (zh HB hw651_2), (zh HB hw651_3), (zh HB hw651_4), (zh HB hw651_5), (zh HB hw652_0), (zh HB hw652_1), (zh HB hw652_2), (zh HB hw652_3), (zh HB hw652_4), (zh HB hw652_5)⟩ (fun hHeld => ?_); refine with_tabW intrusionref07_Contains.tab4 intrusionref07_Contains.bits4 (fun HT_ HW_ => ?_)
               generalize wr.drew = w13 at BK647 HB hx649_0 hx649_1 hx649_2 hx649_3 hx649_4 hx649_5 hx651_0 hx651_1 hx651_2 hx651_3 hx651_4 hx651_5 hx652_0 hx652_1 hx652_2 hx652_3 hx652_4 hx652_5 hHeld ⊢
               refine zt 0 12 HT_ HW_ hHeld ?_; refine zo 1 13 HT_ (fun K hK => ?_)
               refine zg Try.func85 #[.agg #[.bool a1_0, .int .u64 a1_1, .int .u64 a1_2]] ?_
               with_reducible refine (intrusionref07_Fine.calls a1_0 a1_1 a1_2 true _ A5.out).mono ?_
               rintro e w14 ⟨rfl, hb⟩
               refine ⟨_, rfl, ?_⟩
               replace BK647 := Aside0.mk (blk_below (g := gb647) (o := .cells #[.bool a1_0, .int .u64 a1_1, .int .u64 a1_2] 36 (0, 0)) (zK BK647) hb)
               replace HB := Aside0.mk (below_step (zB HB) hb)
               (try clear hb)
               refine hK.out _ _ ⟨zc BK647 0, zc BK647 1, zc BK647 2, (zh HB hw649_0), (zh HB hw649_1), (zh HB hw649_2), (zh HB hw649_3), (zh HB hw649_4), (zh HB hw649_5), (zh HB hw651_0), (zh HB hw651_1), (zh HB hw651_2), (zh HB hw651_3), (zh HB hw651_4), (zh HB hw651_5), (zh HB hw652_0), (zh HB hw652_1), (zh HB hw652_2), (zh HB hw652_3), (zh HB hw652_4), (zh HB hw652_5)⟩ (fun hHeld => ?_)
               clear hK K
               refine zn 13 ?_; refine zp 2 14 HT_ ?_; refine zp 3 15 HT_ ?_; refine zp 4 16 HT_ ?_; refine zp 5 17 HT_ ?_; refine zt 6 18 HT_ HW_ hHeld ?_; refine zo 7 19 HT_ (fun K hK => ?_)
               refine zg Try.func78 #[.agg #[.bool ((rd_T66 l0 x5_1).f0.f0), .int .u64 ((rd_T66 l0 x5_1).f0.f1), .int .u64 ((rd_T66 l0 x5_1).f0.f2), .bool ((rd_T66 l0 x5_1).f1.f0), .int .u64 ((rd_T66 l0 x5_1).f1.f1), .int .u64 ((rd_T66 l0 x5_1).f1.f2)]] ?_
               with_reducible refine (intrusionref07_Some.calls ((rd_T66 l0 x5_1).f0.f0) ((rd_T66 l0 x5_1).f0.f1) ((rd_T66 l0 x5_1).f0.f2) ((rd_T66 l0 x5_1).f1.f0) ((rd_T66 l0 x5_1).f1.f1) ((rd_T66 l0 x5_1).f1.f2) true _ A8.out).mono ?_
               rintro e w15 ⟨rfl, hb⟩
               refine ⟨_, rfl, ?_⟩
               replace BK647 := Aside0.mk (blk_below (g := gb647) (o := .cells #[.bool a1_0, .int .u64 a1_1, .int .u64 a1_2] 36 (0, 0)) (zK BK647) hb)
               replace HB := Aside0.mk (below_step (zB HB) hb)
               (try clear hb)
               refine hK.out _ _ ⟨zc BK647 0, zc BK647 1, zc BK647 2, (zh HB hw649_0), (zh HB hw649_1), (zh HB hw649_2), (zh HB hw649_3), (zh HB hw649_4), (zh HB hw649_5), (zh HB hw651_0), (zh HB hw651_1), (zh HB hw651_2), (zh HB hw651_3), (zh HB hw651_4), (zh HB hw651_5), (zh HB hw652_0), (zh HB hw652_1), (zh HB hw652_2), (zh HB hw652_3), (zh HB hw652_4), (zh HB hw652_5)⟩ (fun hHeld => ?_)
               clear hK K
               refine zn 19 ?_; refine zp 8 20 HT_ ?_; refine zp 9 21 HT_ ?_; refine zp 10 22 HT_ ?_; refine zp 11 23 HT_ ?_; refine zp 12 24 HT_ ?_; refine zp 13 25 HT_ ?_; refine zp 14 26 HT_ ?_; refine zp 16 28 HT_ ?_; refine zt 15 27 HT_ HW_ hHeld ?_; refine zt 17 29 HT_ HW_ hHeld ?_; refine zp 18 30 HT_ ?_; refine zp 19 31 HT_ ?_; refine zp 20 32 HT_ ?_; refine zp 22 34 HT_ ?_; refine zp 23 35 HT_ ?_; refine zp 24 36 HT_ ?_; refine zp 25 37 HT_ ?_; refine zt 21 33 HT_ HW_ hHeld ?_; refine zt 26 38 HT_ HW_ hHeld ?_; refine zo 27 39 HT_ (fun K hK => ?_)
               refine zg Try.func80 #[.agg #[.bool a1_0, .int .u64 a1_1, .int .u64 a1_2], .agg #[.bool ((rd_T66 l0 x5_1).f0.f0), .int .u64 ((rd_T66 l0 x5_1).f0.f1), .int .u64 ((rd_T66 l0 x5_1).f0.f2)]] ?_
               with_reducible refine (intrusionref07_Before.calls a1_0 a1_1 a1_2 ((rd_T66 l0 x5_1).f0.f0) ((rd_T66 l0 x5_1).f0.f1) ((rd_T66 l0 x5_1).f0.f2) true _ A11.out).mono ?_
               rintro e w16 ⟨rfl, hb⟩
               refine ⟨_, rfl, ?_⟩
               replace BK647 := Aside0.mk (blk_below (g := gb647) (o := .cells #[.bool a1_0, .int .u64 a1_1, .int .u64 a1_2] 36 (0, 0)) (zK BK647) hb)
               replace HB := Aside0.mk (below_step (zB HB) hb)
               (try clear hb)
               refine hK.out _ _ ⟨zc BK647 0, zc BK647 1, zc BK647 2, (zh HB hw649_0), (zh HB hw649_1), (zh HB hw649_2), (zh HB hw649_3), (zh HB hw649_4), (zh HB hw649_5), (zh HB hw651_0), (zh HB hw651_1), (zh HB hw651_2), (zh HB hw651_3), (zh HB hw651_4), (zh HB hw651_5), (zh HB hw652_0), (zh HB hw652_1), (zh HB hw652_2), (zh HB hw652_3), (zh HB hw652_4), (zh HB hw652_5)⟩ (fun hHeld => ?_)
               clear hK K
               refine zn 39 ?_; refine zp 28 40 HT_ ?_; refine zp 29 41 HT_ ?_; refine zp 30 42 HT_ ?_; refine zu 31 43 HT_ ?_; refine zu 32 44 HT_ ?_; refine zu 33 45 HT_ ?_; refine zu 34 46 HT_ ?_; refine zu 35 47 HT_ ?_; refine zu 36 48 HT_ ?_; refine zu 37 49 HT_ ?_; refine zu 38 50 HT_ ?_; refine zp 39 51 HT_ ?_; refine zd HT_ ?_
               try go_wp2
               go_roundg k1
               case measure => have := HK1.out; omega
               case rel => exact ⟨(wrap64 (x5_1 + 1)), (by first | rfl | (simp; done) | (simp [*]; done)), H', ⟨by have := HK1.out; omega⟩, ⟨zK BK647⟩, ⟨zB HB⟩⟩
             · replace c12 := Bool.eq_false_iff.mpr c12
               subst c12
               rw [if_neg zF] at H
               replace H := Option.bind_eq_some_iff.mp H
               obtain ⟨t655, A170, H⟩ := H
               try dsimp only at H
               have A17 := Aside0.mk A170
               clear A170
               by_cases c18 : t655 = true
               · subst c18
                 rw [if_pos rfl] at H
                 have H' := Aside0.mk H
                 clear H
                 try go_wp2
                 replace BK647 := Aside0.mk (blk_drew BK647.out)
                 replace HB := Aside0.mk (below_drew1 HB.out)
                 have p649 : 0 ≤ (x5_1 : Int) := za
                 have q649 : x5_1 < (l0.length : Int) := za
                 obtain ⟨ad649, e649, hx649_0, hx649_1, hx649_2, hx649_3, hx649_4, hx649_5⟩ := at_T66 HR0.out x5_1 p649 q649
                 have hw649_5 := hx649_5
                 have hw649_4 := hx649_4
                 have hw649_3 := hx649_3
                 have hw649_2 := hx649_2
                 have hw649_1 := hx649_1
                 have hw649_0 := hx649_0
                 cases e649
                 replace hx649_0 := zh HB hx649_0
                 replace hx649_1 := zh HB hx649_1
                 replace hx649_2 := zh HB hx649_2
                 replace hx649_3 := zh HB hx649_3
                 replace hx649_4 := zh HB hx649_4
                 replace hx649_5 := zh HB hx649_5
                 replace p649 := eq_true p649
                 replace q649 := eq_true q649
                 have p651 : 0 ≤ (x5_1 : Int) := za
                 have q651 : x5_1 < (l0.length : Int) := za
                 obtain ⟨ad651, e651, hx651_0, hx651_1, hx651_2, hx651_3, hx651_4, hx651_5⟩ := at_T66 HR0.out x5_1 p651 q651
                 have hw651_5 := hx651_5
                 have hw651_4 := hx651_4
                 have hw651_3 := hx651_3
                 have hw651_2 := hx651_2
                 have hw651_1 := hx651_1
                 have hw651_0 := hx651_0
                 obtain rfl : ad649 = ad651 := (by injection e651)
                 replace hx651_0 := zh HB hx651_0
                 replace hx651_1 := zh HB hx651_1
                 replace hx651_2 := zh HB hx651_2
                 replace hx651_3 := zh HB hx651_3
                 replace hx651_4 := zh HB hx651_4
                 replace hx651_5 := zh HB hx651_5
                 replace p651 := eq_true p651
                 replace q651 := eq_true q651
                 have p652 : 0 ≤ (x5_1 : Int) := za
                 have q652 : x5_1 < (l0.length : Int) := za
                 obtain ⟨ad652, e652, hx652_0, hx652_1, hx652_2, hx652_3, hx652_4, hx652_5⟩ := at_T66 HR0.out x5_1 p652 q652
                 have hw652_5 := hx652_5
                 have hw652_4 := hx652_4
                 have hw652_3 := hx652_3
                 have hw652_2 := hx652_2
                 have hw652_1 := hx652_1
                 have hw652_0 := hx652_0
                 obtain rfl : ad649 = ad652 := (by injection e652)
                 replace hx652_0 := zh HB hx652_0
                 replace hx652_1 := zh HB hx652_1
                 replace hx652_2 := zh HB hx652_2
                 replace hx652_3 := zh HB hx652_3
                 replace hx652_4 := zh HB hx652_4
                 replace hx652_5 := zh HB hx652_5
                 replace p652 := eq_true p652
                 replace q652 := eq_true q652
                 have p654 : 0 ≤ (x5_1 : Int) := za
                 have q654 : x5_1 < (l0.length : Int) := za
                 obtain ⟨ad654, e654, hx654_0, hx654_1, hx654_2, hx654_3, hx654_4, hx654_5⟩ := at_T66 HR0.out x5_1 p654 q654
                 have hw654_5 := hx654_5
                 have hw654_4 := hx654_4
                 have hw654_3 := hx654_3
                 have hw654_2 := hx654_2
                 have hw654_1 := hx654_1
                 have hw654_0 := hx654_0
                 obtain rfl : ad649 = ad654 := (by injection e654)
                 replace hx654_0 := zh HB hx654_0
                 replace hx654_1 := zh HB hx654_1
                 replace hx654_2 := zh HB hx654_2
                 replace hx654_3 := zh HB hx654_3
                 replace hx654_4 := zh HB hx654_4
                 replace hx654_5 := zh HB hx654_5
                 replace p654 := eq_true p654
                 replace q654 := eq_true q654
                 refine start_ (n := 40) (S := fun w' => w'.cell? ⟨gb647, 0, none⟩ = some (.bool a1_0) ∧ w'.cell? ⟨gb647, 1, none⟩ = some (.int .u64 a1_1) ∧ w'.cell? ⟨gb647, 2, none⟩ = some (.int .u64 a1_2) ∧ w'.cell? (ad649.add ((x5_1).toNat * 6)) = some (.bool ((rd_T66 l0 x5_1).f0.f0)) ∧ w'.cell? ⟨(ad649.add ((x5_1).toNat * 6)).block, (ad649.add ((x5_1).toNat * 6)).off + 1, none⟩ = some (.int .u64 ((rd_T66 l0 x5_1).f0.f1)) ∧ w'.cell? ⟨(ad649.add ((x5_1).toNat * 6)).block, (ad649.add ((x5_1).toNat * 6)).off + 2, none⟩ = some (.int .u64 ((rd_T66 l0 x5_1).f0.f2)) ∧ w'.cell? ⟨(ad649.add ((x5_1).toNat * 6)).block, (ad649.add ((x5_1).toNat * 6)).off + 3, none⟩ = some (.bool ((rd_T66 l0 x5_1).f1.f0)) ∧ w'.cell? ⟨(ad649.add ((x5_1).toNat * 6)).block, (ad649.add ((x5_1).toNat * 6)).off + 4, none⟩ = some (.int .u64 ((rd_T66 l0 x5_1).f1.f1)) ∧ w'.cell? ⟨(ad649.add ((x5_1).toNat * 6)).block, (ad649.add ((x5_1).toNat * 6)).off + 5, none⟩ = some (.int .u64 ((rd_T66 l0 x5_1).f1.f2)) ∧ w'.cell? (ad649.add ((x5_1).toNat * 6)) = some (.bool ((rd_T66 l0 x5_1).f0.f0)) ∧ w'.cell? ⟨(ad649.add ((x5_1).toNat * 6)).block, (ad649.add ((x5_1).toNat * 6)).off + 1, none⟩ = some (.int .u64 ((rd_T66 l0 x5_1).f0.f1)) ∧ w'.cell? ⟨(ad649.add ((x5_1).toNat * 6)).block, (ad649.add ((x5_1).toNat * 6)).off + 2, none⟩ = some (.int .u64 ((rd_T66 l0 x5_1).f0.f2)) ∧ w'.cell? ⟨(ad649.add ((x5_1).toNat * 6)).block, (ad649.add ((x5_1).toNat * 6)).off + 3, none⟩ = some (.bool ((rd_T66 l0 x5_1).f1.f0)) ∧ w'.cell? ⟨(ad649.add ((x5_1).toNat * 6)).block, (ad649.add ((x5_1).toNat * 6)).off + 4, none⟩ = some (.int .u64 ((rd_T66 l0 x5_1).f1.f1)) ∧ w'.cell? ⟨(ad649.add ((x5_1).toNat * 6)).block, (ad649.add ((x5_1).toNat * 6)).off + 5, none⟩ = some (.int .u64 ((rd_T66 l0 x5_1).f1.f2)) ∧ w'.cell? (ad649.add ((x5_1).toNat * 6)) = some (.bool ((rd_T66 l0 x5_1).f0.f0)) ∧ w'.cell? ⟨(ad649.add ((x5_1).toNat * 6)).block, (ad649.add ((x5_1).toNat * 6)).off + 1, none⟩ = some (.int .u64 ((rd_T66 l0 x5_1).f0.f1)) ∧ w'.cell? ⟨(ad649.add ((x5_1).toNat * 6)).block, (ad649.add ((x5_1).toNat * 6)).off + 2, none⟩ = some (.int .u64 ((rd_T66 l0 x5_1).f0.f2)) ∧ w'.cell? ⟨(ad649.add ((x5_1).toNat * 6)).block, (ad649.add ((x5_1).toNat * 6)).off + 3, none⟩ = some (.bool ((rd_T66 l0 x5_1).f1.f0)) ∧ w'.cell? ⟨(ad649.add ((x5_1).toNat * 6)).block, (ad649.add ((x5_1).toNat * 6)).off + 4, none⟩ = some (.int .u64 ((rd_T66 l0 x5_1).f1.f1)) ∧ w'.cell? ⟨(ad649.add ((x5_1).toNat * 6)).block, (ad649.add ((x5_1).toNat * 6)).off + 5, none⟩ = some (.int .u64 ((rd_T66 l0 x5_1).f1.f2)) ∧ w'.cell? (ad649.add ((x5_1).toNat * 6)) = some (.bool ((rd_T66 l0 x5_1).f0.f0)) ∧ w'.cell? ⟨(ad649.add ((x5_1).toNat * 6)).block, (ad649.add ((x5_1).toNat * 6)).off + 1, none⟩ = some (.int .u64 ((rd_T66 l0 x5_1).f0.f1)) ∧ w'.cell? ⟨(ad649.add ((x5_1).toNat * 6)).block, (ad649.add ((x5_1).toNat * 6)).off + 2, none⟩ = some (.int .u64 ((rd_T66 l0 x5_1).f0.f2)) ∧ w'.cell? ⟨(ad649.add ((x5_1).toNat * 6)).block, (ad649.add ((x5_1).toNat * 6)).off + 3, none⟩ = some (.bool ((rd_T66 l0 x5_1).f1.f0)) ∧ w'.cell? ⟨(ad649.add ((x5_1).toNat * 6)).block, (ad649.add ((x5_1).toNat * 6)).off + 4, none⟩ = some (.int .u64 ((rd_T66 l0 x5_1).f1.f1)) ∧ w'.cell? ⟨(ad649.add ((x5_1).toNat * 6)).block, (ad649.add ((x5_1).toNat * 6)).off + 5, none⟩ = some (.int .u64 ((rd_T66 l0 x5_1).f1.f2))) (ds := []) #[false, false, false, false, false, false, false, false, false, false, false, false, false, false, false, false, false, false, false, false, false, false, false, false, false, false, false, false, false, false, false, false, false, false, false, false, false, false, false, false] (by kernel_rfl) rfl rfl ⟨zc BK647 0, zc BK647 1, zc BK647 2, (zh HB hw649_0), (zh HB hw649_1), (zh HB hw649_2), (zh HB hw649_3), (zh HB hw649_4), (zh HB hw649_5), (zh HB hw651_0), (zh HB hw651_1), (zh HB hw651_2), (zh HB hw651_3), (zh HB hw651_4), (zh HB hw651_5), (zh HB hw652_0), (zh HB hw652_1), (zh HB hw652_2), (zh HB hw652_3), (zh HB hw652_4), (zh HB hw652_5), (zh HB hw654_0), (zh HB hw654_1), (zh HB hw654_2), (zh HB hw654_3), (zh HB hw654_4), (zh HB hw654_5)⟩ (fun hHeld => ?_); refine with_tabW intrusionref07_Contains.tab4 intrusionref07_Contains.bits4 (fun HT_ HW_ => ?_)
                 generalize wr.drew = w19 at BK647 HB hx649_0 hx649_1 hx649_2 hx649_3 hx649_4 hx649_5 hx651_0 hx651_1 hx651_2 hx651_3 hx651_4 hx651_5 hx652_0 hx652_1 hx652_2 hx652_3 hx652_4 hx652_5 hx654_0 hx654_1 hx654_2 hx654_3 hx654_4 hx654_5 hHeld ⊢
                 refine zt 0 12 HT_ HW_ hHeld ?_; refine zo 1 13 HT_ (fun K hK => ?_)
                 refine zg Try.func85 #[.agg #[.bool a1_0, .int .u64 a1_1, .int .u64 a1_2]] ?_
                 with_reducible refine (intrusionref07_Fine.calls a1_0 a1_1 a1_2 true _ A5.out).mono ?_
                 rintro e w20 ⟨rfl, hb⟩
                 refine ⟨_, rfl, ?_⟩
                 replace BK647 := Aside0.mk (blk_below (g := gb647) (o := .cells #[.bool a1_0, .int .u64 a1_1, .int .u64 a1_2] 36 (0, 0)) (zK BK647) hb)
                 replace HB := Aside0.mk (below_step (zB HB) hb)
                 (try clear hb)
                 refine hK.out _ _ ⟨zc BK647 0, zc BK647 1, zc BK647 2, (zh HB hw649_0), (zh HB hw649_1), (zh HB hw649_2), (zh HB hw649_3), (zh HB hw649_4), (zh HB hw649_5), (zh HB hw651_0), (zh HB hw651_1), (zh HB hw651_2), (zh HB hw651_3), (zh HB hw651_4), (zh HB hw651_5), (zh HB hw652_0), (zh HB hw652_1), (zh HB hw652_2), (zh HB hw652_3), (zh HB hw652_4), (zh HB hw652_5), (zh HB hw654_0), (zh HB hw654_1), (zh HB hw654_2), (zh HB hw654_3), (zh HB hw654_4), (zh HB hw654_5)⟩ (fun hHeld => ?_)
                 clear hK K
                 refine zn 13 ?_; refine zp 2 14 HT_ ?_; refine zp 3 15 HT_ ?_; refine zp 4 16 HT_ ?_; refine zp 5 17 HT_ ?_; refine zt 6 18 HT_ HW_ hHeld ?_; refine zo 7 19 HT_ (fun K hK => ?_)
                 refine zg Try.func78 #[.agg #[.bool ((rd_T66 l0 x5_1).f0.f0), .int .u64 ((rd_T66 l0 x5_1).f0.f1), .int .u64 ((rd_T66 l0 x5_1).f0.f2), .bool ((rd_T66 l0 x5_1).f1.f0), .int .u64 ((rd_T66 l0 x5_1).f1.f1), .int .u64 ((rd_T66 l0 x5_1).f1.f2)]] ?_
                 with_reducible refine (intrusionref07_Some.calls ((rd_T66 l0 x5_1).f0.f0) ((rd_T66 l0 x5_1).f0.f1) ((rd_T66 l0 x5_1).f0.f2) ((rd_T66 l0 x5_1).f1.f0) ((rd_T66 l0 x5_1).f1.f1) ((rd_T66 l0 x5_1).f1.f2) true _ A8.out).mono ?_
                 rintro e w21 ⟨rfl, hb⟩
                 refine ⟨_, rfl, ?_⟩
                 replace BK647 := Aside0.mk (blk_below (g := gb647) (o := .cells #[.bool a1_0, .int .u64 a1_1, .int .u64 a1_2] 36 (0, 0)) (zK BK647) hb)
                 replace HB := Aside0.mk (below_step (zB HB) hb)
                 (try clear hb)
                 refine hK.out _ _ ⟨zc BK647 0, zc BK647 1, zc BK647 2, (zh HB hw649_0), (zh HB hw649_1), (zh HB hw649_2), (zh HB hw649_3), (zh HB hw649_4), (zh HB hw649_5), (zh HB hw651_0), (zh HB hw651_1), (zh HB hw651_2), (zh HB hw651_3), (zh HB hw651_4), (zh HB hw651_5), (zh HB hw652_0), (zh HB hw652_1), (zh HB hw652_2), (zh HB hw652_3), (zh HB hw652_4), (zh HB hw652_5), (zh HB hw654_0), (zh HB hw654_1), (zh HB hw654_2), (zh HB hw654_3), (zh HB hw654_4), (zh HB hw654_5)⟩ (fun hHeld => ?_)
                 clear hK K
                 refine zn 19 ?_; refine zp 8 20 HT_ ?_; refine zp 9 21 HT_ ?_; refine zp 10 22 HT_ ?_; refine zp 11 23 HT_ ?_; refine zp 12 24 HT_ ?_; refine zp 13 25 HT_ ?_; refine zp 14 26 HT_ ?_; refine zp 16 28 HT_ ?_; refine zt 15 27 HT_ HW_ hHeld ?_; refine zt 17 29 HT_ HW_ hHeld ?_; refine zp 18 30 HT_ ?_; refine zp 19 31 HT_ ?_; refine zp 20 32 HT_ ?_; refine zp 22 34 HT_ ?_; refine zp 23 35 HT_ ?_; refine zp 24 36 HT_ ?_; refine zp 25 37 HT_ ?_; refine zt 21 33 HT_ HW_ hHeld ?_; refine zt 26 38 HT_ HW_ hHeld ?_; refine zo 27 39 HT_ (fun K hK => ?_)
                 refine zg Try.func80 #[.agg #[.bool a1_0, .int .u64 a1_1, .int .u64 a1_2], .agg #[.bool ((rd_T66 l0 x5_1).f0.f0), .int .u64 ((rd_T66 l0 x5_1).f0.f1), .int .u64 ((rd_T66 l0 x5_1).f0.f2)]] ?_
                 with_reducible refine (intrusionref07_Before.calls a1_0 a1_1 a1_2 ((rd_T66 l0 x5_1).f0.f0) ((rd_T66 l0 x5_1).f0.f1) ((rd_T66 l0 x5_1).f0.f2) false _ A11.out).mono ?_
                 rintro e w22 ⟨rfl, hb⟩
                 refine ⟨_, rfl, ?_⟩
                 replace BK647 := Aside0.mk (blk_below (g := gb647) (o := .cells #[.bool a1_0, .int .u64 a1_1, .int .u64 a1_2] 36 (0, 0)) (zK BK647) hb)
                 replace HB := Aside0.mk (below_step (zB HB) hb)
                 (try clear hb)
                 refine hK.out _ _ ⟨zc BK647 0, zc BK647 1, zc BK647 2, (zh HB hw649_0), (zh HB hw649_1), (zh HB hw649_2), (zh HB hw649_3), (zh HB hw649_4), (zh HB hw649_5), (zh HB hw651_0), (zh HB hw651_1), (zh HB hw651_2), (zh HB hw651_3), (zh HB hw651_4), (zh HB hw651_5), (zh HB hw652_0), (zh HB hw652_1), (zh HB hw652_2), (zh HB hw652_3), (zh HB hw652_4), (zh HB hw652_5), (zh HB hw654_0), (zh HB hw654_1), (zh HB hw654_2), (zh HB hw654_3), (zh HB hw654_4), (zh HB hw654_5)⟩ (fun hHeld => ?_)
                 clear hK K
                 refine zn 39 ?_; refine zp 28 40 HT_ ?_; refine zp 29 41 HT_ ?_; refine zp 30 42 HT_ ?_; refine zp 31 43 HT_ ?_; refine zp 32 44 HT_ ?_; refine zp 33 45 HT_ ?_; refine zp 34 46 HT_ ?_; refine zt 35 47 HT_ HW_ hHeld ?_; refine zt 36 48 HT_ HW_ hHeld ?_; refine zo 37 49 HT_ (fun K hK => ?_)
                 refine zg Try.func80 #[.agg #[.bool ((rd_T66 l0 x5_1).f1.f0), .int .u64 ((rd_T66 l0 x5_1).f1.f1), .int .u64 ((rd_T66 l0 x5_1).f1.f2)], .agg #[.bool a1_0, .int .u64 a1_1, .int .u64 a1_2]] ?_
                 with_reducible refine (intrusionref07_Before.calls ((rd_T66 l0 x5_1).f1.f0) ((rd_T66 l0 x5_1).f1.f1) ((rd_T66 l0 x5_1).f1.f2) a1_0 a1_1 a1_2 true _ A17.out).mono ?_
                 rintro e w23 ⟨rfl, hb⟩
                 refine ⟨_, rfl, ?_⟩
                 replace BK647 := Aside0.mk (blk_below (g := gb647) (o := .cells #[.bool a1_0, .int .u64 a1_1, .int .u64 a1_2] 36 (0, 0)) (zK BK647) hb)
                 replace HB := Aside0.mk (below_step (zB HB) hb)
                 (try clear hb)
                 refine hK.out _ _ ⟨zc BK647 0, zc BK647 1, zc BK647 2, (zh HB hw649_0), (zh HB hw649_1), (zh HB hw649_2), (zh HB hw649_3), (zh HB hw649_4), (zh HB hw649_5), (zh HB hw651_0), (zh HB hw651_1), (zh HB hw651_2), (zh HB hw651_3), (zh HB hw651_4), (zh HB hw651_5), (zh HB hw652_0), (zh HB hw652_1), (zh HB hw652_2), (zh HB hw652_3), (zh HB hw652_4), (zh HB hw652_5), (zh HB hw654_0), (zh HB hw654_1), (zh HB hw654_2), (zh HB hw654_3), (zh HB hw654_4), (zh HB hw654_5)⟩ (fun hHeld => ?_)
                 clear hK K
                 refine zn 49 ?_; refine zp 38 50 HT_ ?_; refine zp 39 51 HT_ ?_; refine zd HT_ ?_
                 try go_wp2
                 go_roundg k1
                 case measure => have := HK1.out; omega
                 case rel => exact ⟨(wrap64 (x5_1 + 1)), (by first | rfl | (simp; done) | (simp [*]; done)), H', ⟨by have := HK1.out; omega⟩, ⟨zK BK647⟩, ⟨zB HB⟩⟩
               · replace c18 := Bool.eq_false_iff.mpr c18
                 subst c18
                 rw [if_neg zF] at H
                 obtain rfl := Option.some.inj H
                 try go_wp2
                 replace BK647 := Aside0.mk (blk_drew BK647.out)
                 replace HB := Aside0.mk (below_drew1 HB.out)
                 have p649 : 0 ≤ (x5_1 : Int) := za
                 have q649 : x5_1 < (l0.length : Int) := za
                 obtain ⟨ad649, e649, hx649_0, hx649_1, hx649_2, hx649_3, hx649_4, hx649_5⟩ := at_T66 HR0.out x5_1 p649 q649
                 have hw649_5 := hx649_5
                 have hw649_4 := hx649_4
                 have hw649_3 := hx649_3
                 have hw649_2 := hx649_2
                 have hw649_1 := hx649_1
                 have hw649_0 := hx649_0
                 cases e649
                 replace hx649_0 := zh HB hx649_0
                 replace hx649_1 := zh HB hx649_1
                 replace hx649_2 := zh HB hx649_2
                 replace hx649_3 := zh HB hx649_3
                 replace hx649_4 := zh HB hx649_4
                 replace hx649_5 := zh HB hx649_5
                 replace p649 := eq_true p649
                 replace q649 := eq_true q649
                 have p651 : 0 ≤ (x5_1 : Int) := za
                 have q651 : x5_1 < (l0.length : Int) := za
                 obtain ⟨ad651, e651, hx651_0, hx651_1, hx651_2, hx651_3, hx651_4, hx651_5⟩ := at_T66 HR0.out x5_1 p651 q651
                 have hw651_5 := hx651_5
                 have hw651_4 := hx651_4
                 have hw651_3 := hx651_3
                 have hw651_2 := hx651_2
                 have hw651_1 := hx651_1
                 have hw651_0 := hx651_0
                 obtain rfl : ad649 = ad651 := (by injection e651)
                 replace hx651_0 := zh HB hx651_0
                 replace hx651_1 := zh HB hx651_1
                 replace hx651_2 := zh HB hx651_2
                 replace hx651_3 := zh HB hx651_3
                 replace hx651_4 := zh HB hx651_4
                 replace hx651_5 := zh HB hx651_5
                 replace p651 := eq_true p651
                 replace q651 := eq_true q651
                 have p652 : 0 ≤ (x5_1 : Int) := za
                 have q652 : x5_1 < (l0.length : Int) := za
                 obtain ⟨ad652, e652, hx652_0, hx652_1, hx652_2, hx652_3, hx652_4, hx652_5⟩ := at_T66 HR0.out x5_1 p652 q652
                 have hw652_5 := hx652_5
                 have hw652_4 := hx652_4
                 have hw652_3 := hx652_3
                 have hw652_2 := hx652_2
                 have hw652_1 := hx652_1
                 have hw652_0 := hx652_0
                 obtain rfl : ad649 = ad652 := (by injection e652)
                 replace hx652_0 := zh HB hx652_0
                 replace hx652_1 := zh HB hx652_1
                 replace hx652_2 := zh HB hx652_2
                 replace hx652_3 := zh HB hx652_3
                 replace hx652_4 := zh HB hx652_4
                 replace hx652_5 := zh HB hx652_5
                 replace p652 := eq_true p652
                 replace q652 := eq_true q652
                 have p654 : 0 ≤ (x5_1 : Int) := za
                 have q654 : x5_1 < (l0.length : Int) := za
                 obtain ⟨ad654, e654, hx654_0, hx654_1, hx654_2, hx654_3, hx654_4, hx654_5⟩ := at_T66 HR0.out x5_1 p654 q654
                 have hw654_5 := hx654_5
                 have hw654_4 := hx654_4
                 have hw654_3 := hx654_3
                 have hw654_2 := hx654_2
                 have hw654_1 := hx654_1
                 have hw654_0 := hx654_0
                 obtain rfl : ad649 = ad654 := (by injection e654)
                 replace hx654_0 := zh HB hx654_0
                 replace hx654_1 := zh HB hx654_1
                 replace hx654_2 := zh HB hx654_2
                 replace hx654_3 := zh HB hx654_3
                 replace hx654_4 := zh HB hx654_4
                 replace hx654_5 := zh HB hx654_5
                 replace p654 := eq_true p654
                 replace q654 := eq_true q654
                 refine start_ (n := 40) (S := fun w' => w'.cell? ⟨gb647, 0, none⟩ = some (.bool a1_0) ∧ w'.cell? ⟨gb647, 1, none⟩ = some (.int .u64 a1_1) ∧ w'.cell? ⟨gb647, 2, none⟩ = some (.int .u64 a1_2) ∧ w'.cell? (ad649.add ((x5_1).toNat * 6)) = some (.bool ((rd_T66 l0 x5_1).f0.f0)) ∧ w'.cell? ⟨(ad649.add ((x5_1).toNat * 6)).block, (ad649.add ((x5_1).toNat * 6)).off + 1, none⟩ = some (.int .u64 ((rd_T66 l0 x5_1).f0.f1)) ∧ w'.cell? ⟨(ad649.add ((x5_1).toNat * 6)).block, (ad649.add ((x5_1).toNat * 6)).off + 2, none⟩ = some (.int .u64 ((rd_T66 l0 x5_1).f0.f2)) ∧ w'.cell? ⟨(ad649.add ((x5_1).toNat * 6)).block, (ad649.add ((x5_1).toNat * 6)).off + 3, none⟩ = some (.bool ((rd_T66 l0 x5_1).f1.f0)) ∧ w'.cell? ⟨(ad649.add ((x5_1).toNat * 6)).block, (ad649.add ((x5_1).toNat * 6)).off + 4, none⟩ = some (.int .u64 ((rd_T66 l0 x5_1).f1.f1)) ∧ w'.cell? ⟨(ad649.add ((x5_1).toNat * 6)).block, (ad649.add ((x5_1).toNat * 6)).off + 5, none⟩ = some (.int .u64 ((rd_T66 l0 x5_1).f1.f2)) ∧ w'.cell? (ad649.add ((x5_1).toNat * 6)) = some (.bool ((rd_T66 l0 x5_1).f0.f0)) ∧ w'.cell? ⟨(ad649.add ((x5_1).toNat * 6)).block, (ad649.add ((x5_1).toNat * 6)).off + 1, none⟩ = some (.int .u64 ((rd_T66 l0 x5_1).f0.f1)) ∧ w'.cell? ⟨(ad649.add ((x5_1).toNat * 6)).block, (ad649.add ((x5_1).toNat * 6)).off + 2, none⟩ = some (.int .u64 ((rd_T66 l0 x5_1).f0.f2)) ∧ w'.cell? ⟨(ad649.add ((x5_1).toNat * 6)).block, (ad649.add ((x5_1).toNat * 6)).off + 3, none⟩ = some (.bool ((rd_T66 l0 x5_1).f1.f0)) ∧ w'.cell? ⟨(ad649.add ((x5_1).toNat * 6)).block, (ad649.add ((x5_1).toNat * 6)).off + 4, none⟩ = some (.int .u64 ((rd_T66 l0 x5_1).f1.f1)) ∧ w'.cell? ⟨(ad649.add ((x5_1).toNat * 6)).block, (ad649.add ((x5_1).toNat * 6)).off + 5, none⟩ = some (.int .u64 ((rd_T66 l0 x5_1).f1.f2)) ∧ w'.cell? (ad649.add ((x5_1).toNat * 6)) = some (.bool ((rd_T66 l0 x5_1).f0.f0)) ∧ w'.cell? ⟨(ad649.add ((x5_1).toNat * 6)).block, (ad649.add ((x5_1).toNat * 6)).off + 1, none⟩ = some (.int .u64 ((rd_T66 l0 x5_1).f0.f1)) ∧ w'.cell? ⟨(ad649.add ((x5_1).toNat * 6)).block, (ad649.add ((x5_1).toNat * 6)).off + 2, none⟩ = some (.int .u64 ((rd_T66 l0 x5_1).f0.f2)) ∧ w'.cell? ⟨(ad649.add ((x5_1).toNat * 6)).block, (ad649.add ((x5_1).toNat * 6)).off + 3, none⟩ = some (.bool ((rd_T66 l0 x5_1).f1.f0)) ∧ w'.cell? ⟨(ad649.add ((x5_1).toNat * 6)).block, (ad649.add ((x5_1).toNat * 6)).off + 4, none⟩ = some (.int .u64 ((rd_T66 l0 x5_1).f1.f1)) ∧ w'.cell? ⟨(ad649.add ((x5_1).toNat * 6)).block, (ad649.add ((x5_1).toNat * 6)).off + 5, none⟩ = some (.int .u64 ((rd_T66 l0 x5_1).f1.f2)) ∧ w'.cell? (ad649.add ((x5_1).toNat * 6)) = some (.bool ((rd_T66 l0 x5_1).f0.f0)) ∧ w'.cell? ⟨(ad649.add ((x5_1).toNat * 6)).block, (ad649.add ((x5_1).toNat * 6)).off + 1, none⟩ = some (.int .u64 ((rd_T66 l0 x5_1).f0.f1)) ∧ w'.cell? ⟨(ad649.add ((x5_1).toNat * 6)).block, (ad649.add ((x5_1).toNat * 6)).off + 2, none⟩ = some (.int .u64 ((rd_T66 l0 x5_1).f0.f2)) ∧ w'.cell? ⟨(ad649.add ((x5_1).toNat * 6)).block, (ad649.add ((x5_1).toNat * 6)).off + 3, none⟩ = some (.bool ((rd_T66 l0 x5_1).f1.f0)) ∧ w'.cell? ⟨(ad649.add ((x5_1).toNat * 6)).block, (ad649.add ((x5_1).toNat * 6)).off + 4, none⟩ = some (.int .u64 ((rd_T66 l0 x5_1).f1.f1)) ∧ w'.cell? ⟨(ad649.add ((x5_1).toNat * 6)).block, (ad649.add ((x5_1).toNat * 6)).off + 5, none⟩ = some (.int .u64 ((rd_T66 l0 x5_1).f1.f2))) (ds := []) #[false, false, false, false, false, false, false, false, false, false, false, false, false, false, false, false, false, false, false, false, false, false, false, false, false, false, false, false, false, false, false, false, false, false, false, false, false, false, false, false] (by kernel_rfl) rfl rfl ⟨zc BK647 0, zc BK647 1, zc BK647 2, (zh HB hw649_0), (zh HB hw649_1), (zh HB hw649_2), (zh HB hw649_3), (zh HB hw649_4), (zh HB hw649_5), (zh HB hw651_0), (zh HB hw651_1), (zh HB hw651_2), (zh HB hw651_3), (zh HB hw651_4), (zh HB hw651_5), (zh HB hw652_0), (zh HB hw652_1), (zh HB hw652_2), (zh HB hw652_3), (zh HB hw652_4), (zh HB hw652_5), (zh HB hw654_0), (zh HB hw654_1), (zh HB hw654_2), (zh HB hw654_3), (zh HB hw654_4), (zh HB hw654_5)⟩ (fun hHeld => ?_); refine with_tabW intrusionref07_Contains.tab4 intrusionref07_Contains.bits4 (fun HT_ HW_ => ?_)
                 generalize wr.drew = w24 at BK647 HB hx649_0 hx649_1 hx649_2 hx649_3 hx649_4 hx649_5 hx651_0 hx651_1 hx651_2 hx651_3 hx651_4 hx651_5 hx652_0 hx652_1 hx652_2 hx652_3 hx652_4 hx652_5 hx654_0 hx654_1 hx654_2 hx654_3 hx654_4 hx654_5 hHeld ⊢
                 refine zt 0 12 HT_ HW_ hHeld ?_; refine zo 1 13 HT_ (fun K hK => ?_)
                 refine zg Try.func85 #[.agg #[.bool a1_0, .int .u64 a1_1, .int .u64 a1_2]] ?_
                 with_reducible refine (intrusionref07_Fine.calls a1_0 a1_1 a1_2 true _ A5.out).mono ?_
                 rintro e w25 ⟨rfl, hb⟩
                 refine ⟨_, rfl, ?_⟩
                 replace BK647 := Aside0.mk (blk_below (g := gb647) (o := .cells #[.bool a1_0, .int .u64 a1_1, .int .u64 a1_2] 36 (0, 0)) (zK BK647) hb)
                 replace HB := Aside0.mk (below_step (zB HB) hb)
                 (try clear hb)
                 refine hK.out _ _ ⟨zc BK647 0, zc BK647 1, zc BK647 2, (zh HB hw649_0), (zh HB hw649_1), (zh HB hw649_2), (zh HB hw649_3), (zh HB hw649_4), (zh HB hw649_5), (zh HB hw651_0), (zh HB hw651_1), (zh HB hw651_2), (zh HB hw651_3), (zh HB hw651_4), (zh HB hw651_5), (zh HB hw652_0), (zh HB hw652_1), (zh HB hw652_2), (zh HB hw652_3), (zh HB hw652_4), (zh HB hw652_5), (zh HB hw654_0), (zh HB hw654_1), (zh HB hw654_2), (zh HB hw654_3), (zh HB hw654_4), (zh HB hw654_5)⟩ (fun hHeld => ?_)
                 clear hK K
                 refine zn 13 ?_; refine zp 2 14 HT_ ?_; refine zp 3 15 HT_ ?_; refine zp 4 16 HT_ ?_; refine zp 5 17 HT_ ?_; refine zt 6 18 HT_ HW_ hHeld ?_; refine zo 7 19 HT_ (fun K hK => ?_)
                 refine zg Try.func78 #[.agg #[.bool ((rd_T66 l0 x5_1).f0.f0), .int .u64 ((rd_T66 l0 x5_1).f0.f1), .int .u64 ((rd_T66 l0 x5_1).f0.f2), .bool ((rd_T66 l0 x5_1).f1.f0), .int .u64 ((rd_T66 l0 x5_1).f1.f1), .int .u64 ((rd_T66 l0 x5_1).f1.f2)]] ?_
                 with_reducible refine (intrusionref07_Some.calls ((rd_T66 l0 x5_1).f0.f0) ((rd_T66 l0 x5_1).f0.f1) ((rd_T66 l0 x5_1).f0.f2) ((rd_T66 l0 x5_1).f1.f0) ((rd_T66 l0 x5_1).f1.f1) ((rd_T66 l0 x5_1).f1.f2) true _ A8.out).mono ?_
                 rintro e w26 ⟨rfl, hb⟩
                 refine ⟨_, rfl, ?_⟩
                 replace BK647 := Aside0.mk (blk_below (g := gb647) (o := .cells #[.bool a1_0, .int .u64 a1_1, .int .u64 a1_2] 36 (0, 0)) (zK BK647) hb)
                 replace HB := Aside0.mk (below_step (zB HB) hb)
                 (try clear hb)
                 refine hK.out _ _ ⟨zc BK647 0, zc BK647 1, zc BK647 2, (zh HB hw649_0), (zh HB hw649_1), (zh HB hw649_2), (zh HB hw649_3), (zh HB hw649_4), (zh HB hw649_5), (zh HB hw651_0), (zh HB hw651_1), (zh HB hw651_2), (zh HB hw651_3), (zh HB hw651_4), (zh HB hw651_5), (zh HB hw652_0), (zh HB hw652_1), (zh HB hw652_2), (zh HB hw652_3), (zh HB hw652_4), (zh HB hw652_5), (zh HB hw654_0), (zh HB hw654_1), (zh HB hw654_2), (zh HB hw654_3), (zh HB hw654_4), (zh HB hw654_5)⟩ (fun hHeld => ?_)
                 clear hK K
                 refine zn 19 ?_; refine zp 8 20 HT_ ?_; refine zp 9 21 HT_ ?_; refine zp 10 22 HT_ ?_; refine zp 11 23 HT_ ?_; refine zp 12 24 HT_ ?_; refine zp 13 25 HT_ ?_; refine zp 14 26 HT_ ?_; refine zp 16 28 HT_ ?_; refine zt 15 27 HT_ HW_ hHeld ?_; refine zt 17 29 HT_ HW_ hHeld ?_; refine zp 18 30 HT_ ?_; refine zp 19 31 HT_ ?_; refine zp 20 32 HT_ ?_; refine zp 22 34 HT_ ?_; refine zp 23 35 HT_ ?_; refine zp 24 36 HT_ ?_; refine zp 25 37 HT_ ?_; refine zt 21 33 HT_ HW_ hHeld ?_; refine zt 26 38 HT_ HW_ hHeld ?_; refine zo 27 39 HT_ (fun K hK => ?_)
                 refine zg Try.func80 #[.agg #[.bool a1_0, .int .u64 a1_1, .int .u64 a1_2], .agg #[.bool ((rd_T66 l0 x5_1).f0.f0), .int .u64 ((rd_T66 l0 x5_1).f0.f1), .int .u64 ((rd_T66 l0 x5_1).f0.f2)]] ?_
                 with_reducible refine (intrusionref07_Before.calls a1_0 a1_1 a1_2 ((rd_T66 l0 x5_1).f0.f0) ((rd_T66 l0 x5_1).f0.f1) ((rd_T66 l0 x5_1).f0.f2) false _ A11.out).mono ?_
                 rintro e w27 ⟨rfl, hb⟩
                 refine ⟨_, rfl, ?_⟩
                 replace BK647 := Aside0.mk (blk_below (g := gb647) (o := .cells #[.bool a1_0, .int .u64 a1_1, .int .u64 a1_2] 36 (0, 0)) (zK BK647) hb)
                 replace HB := Aside0.mk (below_step (zB HB) hb)
                 (try clear hb)
                 refine hK.out _ _ ⟨zc BK647 0, zc BK647 1, zc BK647 2, (zh HB hw649_0), (zh HB hw649_1), (zh HB hw649_2), (zh HB hw649_3), (zh HB hw649_4), (zh HB hw649_5), (zh HB hw651_0), (zh HB hw651_1), (zh HB hw651_2), (zh HB hw651_3), (zh HB hw651_4), (zh HB hw651_5), (zh HB hw652_0), (zh HB hw652_1), (zh HB hw652_2), (zh HB hw652_3), (zh HB hw652_4), (zh HB hw652_5), (zh HB hw654_0), (zh HB hw654_1), (zh HB hw654_2), (zh HB hw654_3), (zh HB hw654_4), (zh HB hw654_5)⟩ (fun hHeld => ?_)
                 clear hK K
                 refine zn 39 ?_; refine zp 28 40 HT_ ?_; refine zp 29 41 HT_ ?_; refine zp 30 42 HT_ ?_; refine zp 31 43 HT_ ?_; refine zp 32 44 HT_ ?_; refine zp 33 45 HT_ ?_; refine zp 34 46 HT_ ?_; refine zt 35 47 HT_ HW_ hHeld ?_; refine zt 36 48 HT_ HW_ hHeld ?_; refine zo 37 49 HT_ (fun K hK => ?_)
                 refine zg Try.func80 #[.agg #[.bool ((rd_T66 l0 x5_1).f1.f0), .int .u64 ((rd_T66 l0 x5_1).f1.f1), .int .u64 ((rd_T66 l0 x5_1).f1.f2)], .agg #[.bool a1_0, .int .u64 a1_1, .int .u64 a1_2]] ?_
                 with_reducible refine (intrusionref07_Before.calls ((rd_T66 l0 x5_1).f1.f0) ((rd_T66 l0 x5_1).f1.f1) ((rd_T66 l0 x5_1).f1.f2) a1_0 a1_1 a1_2 false _ A17.out).mono ?_
                 rintro e w28 ⟨rfl, hb⟩
                 refine ⟨_, rfl, ?_⟩
                 replace BK647 := Aside0.mk (blk_below (g := gb647) (o := .cells #[.bool a1_0, .int .u64 a1_1, .int .u64 a1_2] 36 (0, 0)) (zK BK647) hb)
                 replace HB := Aside0.mk (below_step (zB HB) hb)
                 (try clear hb)
                 refine hK.out _ _ ⟨zc BK647 0, zc BK647 1, zc BK647 2, (zh HB hw649_0), (zh HB hw649_1), (zh HB hw649_2), (zh HB hw649_3), (zh HB hw649_4), (zh HB hw649_5), (zh HB hw651_0), (zh HB hw651_1), (zh HB hw651_2), (zh HB hw651_3), (zh HB hw651_4), (zh HB hw651_5), (zh HB hw652_0), (zh HB hw652_1), (zh HB hw652_2), (zh HB hw652_3), (zh HB hw652_4), (zh HB hw652_5), (zh HB hw654_0), (zh HB hw654_1), (zh HB hw654_2), (zh HB hw654_3), (zh HB hw654_4), (zh HB hw654_5)⟩ (fun hHeld => ?_)
                 clear hK K
                 refine zn 49 ?_; refine zp 38 50 HT_ ?_; refine zp 39 51 HT_ ?_; refine zd HT_ ?_
                 try go_wp2
                 go_ret
                 exact ⟨by first | rfl | (simp [errW_none, errW_some] <;> rfl) | (simp [*, errW_none, errW_some] <;> rfl), by repeat (first | (with_reducible first | exact HB.out | apply below_alloc | apply pw_below_drewN | apply below_drew1 | refine below_set ?_ GE647.out) | exact HB.out)⟩
           · rw [if_neg c10] at H
             have c10b0 : (((rd_T66 l0 x5_1).f0.f0) == a1_0) = false := by simpa using c10
             (try (have c10b1 : decide (((rd_T66 l0 x5_1).f0.f0) = a1_0) = false := by first | (simpa using c10) | exact decide_eq_true (Decidable.not_not.1 (fun hn => c10 (bne_iff_ne.2 hn))) | exact beq_iff_eq.2 (Decidable.not_not.1 (fun hn => c10 (bne_iff_ne.2 hn))) | exact decide_eq_false (bne_iff_ne.1 c10) | exact beq_eq_false_iff_ne.2 (bne_iff_ne.1 c10) | exact bne_iff_ne.1 c10))
             (try (have c10b2 : (((rd_T66 l0 x5_1).f0.f0) == a1_0) = false := by first | (simpa using c10) | exact decide_eq_true (Decidable.not_not.1 (fun hn => c10 (bne_iff_ne.2 hn))) | exact beq_iff_eq.2 (Decidable.not_not.1 (fun hn => c10 (bne_iff_ne.2 hn))) | exact decide_eq_false (bne_iff_ne.1 c10) | exact beq_eq_false_iff_ne.2 (bne_iff_ne.1 c10) | exact bne_iff_ne.1 c10))
             (try (have c10b3 : ¬ (((rd_T66 l0 x5_1).f0.f0) = a1_0) := by first | (simpa using c10) | exact decide_eq_true (Decidable.not_not.1 (fun hn => c10 (bne_iff_ne.2 hn))) | exact beq_iff_eq.2 (Decidable.not_not.1 (fun hn => c10 (bne_iff_ne.2 hn))) | exact decide_eq_false (bne_iff_ne.1 c10) | exact beq_eq_false_iff_ne.2 (bne_iff_ne.1 c10) | exact bne_iff_ne.1 c10))
             clear c10
             have H' := Aside0.mk H
             clear H
             try go_wp2
             replace BK647 := Aside0.mk (blk_drew BK647.out)
             replace HB := Aside0.mk (below_drew1 HB.out)
             have p649 : 0 ≤ (x5_1 : Int) := za
             have q649 : x5_1 < (l0.length : Int) := za
             obtain ⟨ad649, e649, hx649_0, hx649_1, hx649_2, hx649_3, hx649_4, hx649_5⟩ := at_T66 HR0.out x5_1 p649 q649
             have hw649_5 := hx649_5
             have hw649_4 := hx649_4
             have hw649_3 := hx649_3
             have hw649_2 := hx649_2
             have hw649_1 := hx649_1
             have hw649_0 := hx649_0
             cases e649
             replace hx649_0 := zh HB hx649_0
             replace hx649_1 := zh HB hx649_1
             replace hx649_2 := zh HB hx649_2
             replace hx649_3 := zh HB hx649_3
             replace hx649_4 := zh HB hx649_4
             replace hx649_5 := zh HB hx649_5
             replace p649 := eq_true p649
             replace q649 := eq_true q649
             have p651 : 0 ≤ (x5_1 : Int) := za
             have q651 : x5_1 < (l0.length : Int) := za
             obtain ⟨ad651, e651, hx651_0, hx651_1, hx651_2, hx651_3, hx651_4, hx651_5⟩ := at_T66 HR0.out x5_1 p651 q651
             have hw651_5 := hx651_5
             have hw651_4 := hx651_4
             have hw651_3 := hx651_3
             have hw651_2 := hx651_2
             have hw651_1 := hx651_1
             have hw651_0 := hx651_0
             obtain rfl : ad649 = ad651 := (by injection e651)
             replace hx651_0 := zh HB hx651_0
             replace hx651_1 := zh HB hx651_1
             replace hx651_2 := zh HB hx651_2
             replace hx651_3 := zh HB hx651_3
             replace hx651_4 := zh HB hx651_4
             replace hx651_5 := zh HB hx651_5
             replace p651 := eq_true p651
             replace q651 := eq_true q651
             refine start_ (n := 40) (S := fun w' => w'.cell? ⟨gb647, 0, none⟩ = some (.bool a1_0) ∧ w'.cell? ⟨gb647, 1, none⟩ = some (.int .u64 a1_1) ∧ w'.cell? ⟨gb647, 2, none⟩ = some (.int .u64 a1_2) ∧ w'.cell? (ad649.add ((x5_1).toNat * 6)) = some (.bool ((rd_T66 l0 x5_1).f0.f0)) ∧ w'.cell? ⟨(ad649.add ((x5_1).toNat * 6)).block, (ad649.add ((x5_1).toNat * 6)).off + 1, none⟩ = some (.int .u64 ((rd_T66 l0 x5_1).f0.f1)) ∧ w'.cell? ⟨(ad649.add ((x5_1).toNat * 6)).block, (ad649.add ((x5_1).toNat * 6)).off + 2, none⟩ = some (.int .u64 ((rd_T66 l0 x5_1).f0.f2)) ∧ w'.cell? ⟨(ad649.add ((x5_1).toNat * 6)).block, (ad649.add ((x5_1).toNat * 6)).off + 3, none⟩ = some (.bool ((rd_T66 l0 x5_1).f1.f0)) ∧ w'.cell? ⟨(ad649.add ((x5_1).toNat * 6)).block, (ad649.add ((x5_1).toNat * 6)).off + 4, none⟩ = some (.int .u64 ((rd_T66 l0 x5_1).f1.f1)) ∧ w'.cell? ⟨(ad649.add ((x5_1).toNat * 6)).block, (ad649.add ((x5_1).toNat * 6)).off + 5, none⟩ = some (.int .u64 ((rd_T66 l0 x5_1).f1.f2)) ∧ w'.cell? (ad649.add ((x5_1).toNat * 6)) = some (.bool ((rd_T66 l0 x5_1).f0.f0)) ∧ w'.cell? ⟨(ad649.add ((x5_1).toNat * 6)).block, (ad649.add ((x5_1).toNat * 6)).off + 1, none⟩ = some (.int .u64 ((rd_T66 l0 x5_1).f0.f1)) ∧ w'.cell? ⟨(ad649.add ((x5_1).toNat * 6)).block, (ad649.add ((x5_1).toNat * 6)).off + 2, none⟩ = some (.int .u64 ((rd_T66 l0 x5_1).f0.f2)) ∧ w'.cell? ⟨(ad649.add ((x5_1).toNat * 6)).block, (ad649.add ((x5_1).toNat * 6)).off + 3, none⟩ = some (.bool ((rd_T66 l0 x5_1).f1.f0)) ∧ w'.cell? ⟨(ad649.add ((x5_1).toNat * 6)).block, (ad649.add ((x5_1).toNat * 6)).off + 4, none⟩ = some (.int .u64 ((rd_T66 l0 x5_1).f1.f1)) ∧ w'.cell? ⟨(ad649.add ((x5_1).toNat * 6)).block, (ad649.add ((x5_1).toNat * 6)).off + 5, none⟩ = some (.int .u64 ((rd_T66 l0 x5_1).f1.f2))) (ds := []) #[false, false, false, false, false, false, false, false, false, false, false, false, false, false, false, false, false, false, false, false, false, false, false, false, false, false, false, false, false, false, false, false, false, false, false, false, false, false, false, false] (by kernel_rfl) rfl rfl ⟨zc BK647 0, zc BK647 1, zc BK647 2, (zh HB hw649_0), (zh HB hw649_1), (zh HB hw649_2), (zh HB hw649_3), (zh HB hw649_4), (zh HB hw649_5), (zh HB hw651_0), (zh HB hw651_1), (zh HB hw651_2), (zh HB hw651_3), (zh HB hw651_4), (zh HB hw651_5)⟩ (fun hHeld => ?_); refine with_tabW intrusionref07_Contains.tab4 intrusionref07_Contains.bits4 (fun HT_ HW_ => ?_)
             generalize wr.drew = w29 at BK647 HB hx649_0 hx649_1 hx649_2 hx649_3 hx649_4 hx649_5 hx651_0 hx651_1 hx651_2 hx651_3 hx651_4 hx651_5 hHeld ⊢
             refine zt 0 12 HT_ HW_ hHeld ?_; refine zo 1 13 HT_ (fun K hK => ?_)
             refine zg Try.func85 #[.agg #[.bool a1_0, .int .u64 a1_1, .int .u64 a1_2]] ?_
             with_reducible refine (intrusionref07_Fine.calls a1_0 a1_1 a1_2 true _ A5.out).mono ?_
             rintro e w30 ⟨rfl, hb⟩
             refine ⟨_, rfl, ?_⟩
             replace BK647 := Aside0.mk (blk_below (g := gb647) (o := .cells #[.bool a1_0, .int .u64 a1_1, .int .u64 a1_2] 36 (0, 0)) (zK BK647) hb)
             replace HB := Aside0.mk (below_step (zB HB) hb)
             (try clear hb)
             refine hK.out _ _ ⟨zc BK647 0, zc BK647 1, zc BK647 2, (zh HB hw649_0), (zh HB hw649_1), (zh HB hw649_2), (zh HB hw649_3), (zh HB hw649_4), (zh HB hw649_5), (zh HB hw651_0), (zh HB hw651_1), (zh HB hw651_2), (zh HB hw651_3), (zh HB hw651_4), (zh HB hw651_5)⟩ (fun hHeld => ?_)
             clear hK K
             refine zn 13 ?_; refine zp 2 14 HT_ ?_; refine zp 3 15 HT_ ?_; refine zp 4 16 HT_ ?_; refine zp 5 17 HT_ ?_; refine zt 6 18 HT_ HW_ hHeld ?_; refine zo 7 19 HT_ (fun K hK => ?_)
             refine zg Try.func78 #[.agg #[.bool ((rd_T66 l0 x5_1).f0.f0), .int .u64 ((rd_T66 l0 x5_1).f0.f1), .int .u64 ((rd_T66 l0 x5_1).f0.f2), .bool ((rd_T66 l0 x5_1).f1.f0), .int .u64 ((rd_T66 l0 x5_1).f1.f1), .int .u64 ((rd_T66 l0 x5_1).f1.f2)]] ?_
             with_reducible refine (intrusionref07_Some.calls ((rd_T66 l0 x5_1).f0.f0) ((rd_T66 l0 x5_1).f0.f1) ((rd_T66 l0 x5_1).f0.f2) ((rd_T66 l0 x5_1).f1.f0) ((rd_T66 l0 x5_1).f1.f1) ((rd_T66 l0 x5_1).f1.f2) true _ A8.out).mono ?_
             rintro e w31 ⟨rfl, hb⟩
             refine ⟨_, rfl, ?_⟩
             replace BK647 := Aside0.mk (blk_below (g := gb647) (o := .cells #[.bool a1_0, .int .u64 a1_1, .int .u64 a1_2] 36 (0, 0)) (zK BK647) hb)
             replace HB := Aside0.mk (below_step (zB HB) hb)
             (try clear hb)
             refine hK.out _ _ ⟨zc BK647 0, zc BK647 1, zc BK647 2, (zh HB hw649_0), (zh HB hw649_1), (zh HB hw649_2), (zh HB hw649_3), (zh HB hw649_4), (zh HB hw649_5), (zh HB hw651_0), (zh HB hw651_1), (zh HB hw651_2), (zh HB hw651_3), (zh HB hw651_4), (zh HB hw651_5)⟩ (fun hHeld => ?_)
             clear hK K
             refine zn 19 ?_; refine zp 8 20 HT_ ?_; refine zp 9 21 HT_ ?_; refine zp 10 22 HT_ ?_; refine zp 11 23 HT_ ?_; refine zp 12 24 HT_ ?_; refine zp 13 25 HT_ ?_; refine zp 14 26 HT_ ?_; refine zp 16 28 HT_ ?_; refine zt 15 27 HT_ HW_ hHeld ?_; refine zt 17 29 HT_ HW_ hHeld ?_; refine zp 18 30 HT_ ?_; refine zp 19 31 HT_ ?_; refine zp 20 32 HT_ ?_; refine zu 21 33 HT_ ?_; refine zu 22 34 HT_ ?_; refine zu 23 35 HT_ ?_; refine zu 24 36 HT_ ?_; refine zu 25 37 HT_ ?_; refine zu 26 38 HT_ ?_; refine zu 27 39 HT_ ?_; refine zu 28 40 HT_ ?_; refine zp 29 41 HT_ ?_; refine zp 30 42 HT_ ?_; refine zu 31 43 HT_ ?_; refine zu 32 44 HT_ ?_; refine zu 33 45 HT_ ?_; refine zu 34 46 HT_ ?_; refine zu 35 47 HT_ ?_; refine zu 36 48 HT_ ?_; refine zu 37 49 HT_ ?_; refine zu 38 50 HT_ ?_; refine zp 39 51 HT_ ?_; refine zd HT_ ?_
             try go_wp2
             go_roundg k1
             case measure => have := HK1.out; omega
             case rel => exact ⟨(wrap64 (x5_1 + 1)), (by first | rfl | (simp; done) | (simp [*]; done)), H', ⟨by have := HK1.out; omega⟩, ⟨zK BK647⟩, ⟨zB HB⟩⟩
         · replace c9 := Bool.eq_false_iff.mpr c9
           subst c9
           rw [if_neg zF] at H
           have H' := Aside0.mk H
           clear H
           try go_wp2
           replace BK647 := Aside0.mk (blk_drew BK647.out)
           replace HB := Aside0.mk (below_drew1 HB.out)
           have p649 : 0 ≤ (x5_1 : Int) := za
           have q649 : x5_1 < (l0.length : Int) := za
           obtain ⟨ad649, e649, hx649_0, hx649_1, hx649_2, hx649_3, hx649_4, hx649_5⟩ := at_T66 HR0.out x5_1 p649 q649
           have hw649_5 := hx649_5
           have hw649_4 := hx649_4
           have hw649_3 := hx649_3
           have hw649_2 := hx649_2
           have hw649_1 := hx649_1
           have hw649_0 := hx649_0
           cases e649
           replace hx649_0 := zh HB hx649_0
           replace hx649_1 := zh HB hx649_1
           replace hx649_2 := zh HB hx649_2
           replace hx649_3 := zh HB hx649_3
           replace hx649_4 := zh HB hx649_4
           replace hx649_5 := zh HB hx649_5
           replace p649 := eq_true p649
           replace q649 := eq_true q649
           refine start_ (n := 40) (S := fun w' => w'.cell? ⟨gb647, 0, none⟩ = some (.bool a1_0) ∧ w'.cell? ⟨gb647, 1, none⟩ = some (.int .u64 a1_1) ∧ w'.cell? ⟨gb647, 2, none⟩ = some (.int .u64 a1_2) ∧ w'.cell? (ad649.add ((x5_1).toNat * 6)) = some (.bool ((rd_T66 l0 x5_1).f0.f0)) ∧ w'.cell? ⟨(ad649.add ((x5_1).toNat * 6)).block, (ad649.add ((x5_1).toNat * 6)).off + 1, none⟩ = some (.int .u64 ((rd_T66 l0 x5_1).f0.f1)) ∧ w'.cell? ⟨(ad649.add ((x5_1).toNat * 6)).block, (ad649.add ((x5_1).toNat * 6)).off + 2, none⟩ = some (.int .u64 ((rd_T66 l0 x5_1).f0.f2)) ∧ w'.cell? ⟨(ad649.add ((x5_1).toNat * 6)).block, (ad649.add ((x5_1).toNat * 6)).off + 3, none⟩ = some (.bool ((rd_T66 l0 x5_1).f1.f0)) ∧ w'.cell? ⟨(ad649.add ((x5_1).toNat * 6)).block, (ad649.add ((x5_1).toNat * 6)).off + 4, none⟩ = some (.int .u64 ((rd_T66 l0 x5_1).f1.f1)) ∧ w'.cell? ⟨(ad649.add ((x5_1).toNat * 6)).block, (ad649.add ((x5_1).toNat * 6)).off + 5, none⟩ = some (.int .u64 ((rd_T66 l0 x5_1).f1.f2))) (ds := []) #[false, false, false, false, false, false, false, false, false, false, false, false, false, false, false, false, false, false, false, false, false, false, false, false, false, false, false, false, false, false, false, false, false, false, false, false, false, false, false, false] (by kernel_rfl) rfl rfl ⟨zc BK647 0, zc BK647 1, zc BK647 2, (zh HB hw649_0), (zh HB hw649_1), (zh HB hw649_2), (zh HB hw649_3), (zh HB hw649_4), (zh HB hw649_5)⟩ (fun hHeld => ?_); refine with_tabW intrusionref07_Contains.tab4 intrusionref07_Contains.bits4 (fun HT_ HW_ => ?_)
           generalize wr.drew = w32 at BK647 HB hx649_0 hx649_1 hx649_2 hx649_3 hx649_4 hx649_5 hHeld ⊢
           refine zt 0 12 HT_ HW_ hHeld ?_; refine zo 1 13 HT_ (fun K hK => ?_)
           refine zg Try.func85 #[.agg #[.bool a1_0, .int .u64 a1_1, .int .u64 a1_2]] ?_
           with_reducible refine (intrusionref07_Fine.calls a1_0 a1_1 a1_2 true _ A5.out).mono ?_
           rintro e w33 ⟨rfl, hb⟩
           refine ⟨_, rfl, ?_⟩
           replace BK647 := Aside0.mk (blk_below (g := gb647) (o := .cells #[.bool a1_0, .int .u64 a1_1, .int .u64 a1_2] 36 (0, 0)) (zK BK647) hb)
           replace HB := Aside0.mk (below_step (zB HB) hb)
           (try clear hb)
           refine hK.out _ _ ⟨zc BK647 0, zc BK647 1, zc BK647 2, (zh HB hw649_0), (zh HB hw649_1), (zh HB hw649_2), (zh HB hw649_3), (zh HB hw649_4), (zh HB hw649_5)⟩ (fun hHeld => ?_)
           clear hK K
           refine zn 13 ?_; refine zp 2 14 HT_ ?_; refine zp 3 15 HT_ ?_; refine zp 4 16 HT_ ?_; refine zp 5 17 HT_ ?_; refine zt 6 18 HT_ HW_ hHeld ?_; refine zo 7 19 HT_ (fun K hK => ?_)
           refine zg Try.func78 #[.agg #[.bool ((rd_T66 l0 x5_1).f0.f0), .int .u64 ((rd_T66 l0 x5_1).f0.f1), .int .u64 ((rd_T66 l0 x5_1).f0.f2), .bool ((rd_T66 l0 x5_1).f1.f0), .int .u64 ((rd_T66 l0 x5_1).f1.f1), .int .u64 ((rd_T66 l0 x5_1).f1.f2)]] ?_
           with_reducible refine (intrusionref07_Some.calls ((rd_T66 l0 x5_1).f0.f0) ((rd_T66 l0 x5_1).f0.f1) ((rd_T66 l0 x5_1).f0.f2) ((rd_T66 l0 x5_1).f1.f0) ((rd_T66 l0 x5_1).f1.f1) ((rd_T66 l0 x5_1).f1.f2) false _ A8.out).mono ?_
           rintro e w34 ⟨rfl, hb⟩
           refine ⟨_, rfl, ?_⟩
           replace BK647 := Aside0.mk (blk_below (g := gb647) (o := .cells #[.bool a1_0, .int .u64 a1_1, .int .u64 a1_2] 36 (0, 0)) (zK BK647) hb)
           replace HB := Aside0.mk (below_step (zB HB) hb)
           (try clear hb)
           refine hK.out _ _ ⟨zc BK647 0, zc BK647 1, zc BK647 2, (zh HB hw649_0), (zh HB hw649_1), (zh HB hw649_2), (zh HB hw649_3), (zh HB hw649_4), (zh HB hw649_5)⟩ (fun hHeld => ?_)
           clear hK K
           refine zn 19 ?_; refine zp 8 20 HT_ ?_; refine zp 9 21 HT_ ?_; refine zu 10 22 HT_ ?_; refine zu 11 23 HT_ ?_; refine zu 12 24 HT_ ?_; refine zu 13 25 HT_ ?_; refine zu 14 26 HT_ ?_; refine zu 15 27 HT_ ?_; refine zu 16 28 HT_ ?_; refine zu 17 29 HT_ ?_; refine zu 18 30 HT_ ?_; refine zp 19 31 HT_ ?_; refine zp 20 32 HT_ ?_; refine zu 21 33 HT_ ?_; refine zu 22 34 HT_ ?_; refine zu 23 35 HT_ ?_; refine zu 24 36 HT_ ?_; refine zu 25 37 HT_ ?_; refine zu 26 38 HT_ ?_; refine zu 27 39 HT_ ?_; refine zu 28 40 HT_ ?_; refine zp 29 41 HT_ ?_; refine zp 30 42 HT_ ?_; refine zu 31 43 HT_ ?_; refine zu 32 44 HT_ ?_; refine zu 33 45 HT_ ?_; refine zu 34 46 HT_ ?_; refine zu 35 47 HT_ ?_; refine zu 36 48 HT_ ?_; refine zu 37 49 HT_ ?_; refine zu 38 50 HT_ ?_; refine zp 39 51 HT_ ?_; refine zd HT_ ?_
           try go_wp2
           go_roundg k1
           case measure => have := HK1.out; omega
           case rel => exact ⟨(wrap64 (x5_1 + 1)), (by first | rfl | (simp; done) | (simp [*]; done)), H', ⟨by have := HK1.out; omega⟩, ⟨zK BK647⟩, ⟨zB HB⟩⟩
       · rw [if_neg c7] at H
         exact absurd H (by simp)
     · replace c6 := Bool.eq_false_iff.mpr c6
       subst c6
       rw [if_neg zF] at H
       have H' := Aside0.mk H
       clear H
       try go_wp2
       replace BK647 := Aside0.mk (blk_drew BK647.out)
       replace HB := Aside0.mk (below_drew1 HB.out)
       refine start_ (n := 40) (S := fun w' => w'.cell? ⟨gb647, 0, none⟩ = some (.bool a1_0) ∧ w'.cell? ⟨gb647, 1, none⟩ = some (.int .u64 a1_1) ∧ w'.cell? ⟨gb647, 2, none⟩ = some (.int .u64 a1_2)) (ds := []) #[false, false, false, false, false, false, false, false, false, false, false, false, false, false, false, false, false, false, false, false, false, false, false, false, false, false, false, false, false, false, false, false, false, false, false, false, false, false, false, false] (by kernel_rfl) rfl rfl ⟨zc BK647 0, zc BK647 1, zc BK647 2⟩ (fun hHeld => ?_); refine with_tabW intrusionref07_Contains.tab4 intrusionref07_Contains.bits4 (fun HT_ HW_ => ?_)
       generalize wr.drew = w35 at BK647 HB hHeld ⊢
       refine zt 0 12 HT_ HW_ hHeld ?_; refine zo 1 13 HT_ (fun K hK => ?_)
       refine zg Try.func85 #[.agg #[.bool a1_0, .int .u64 a1_1, .int .u64 a1_2]] ?_
       with_reducible refine (intrusionref07_Fine.calls a1_0 a1_1 a1_2 false _ A5.out).mono ?_
       rintro e w36 ⟨rfl, hb⟩
       refine ⟨_, rfl, ?_⟩
       replace BK647 := Aside0.mk (blk_below (g := gb647) (o := .cells #[.bool a1_0, .int .u64 a1_1, .int .u64 a1_2] 36 (0, 0)) (zK BK647) hb)
       replace HB := Aside0.mk (below_step (zB HB) hb)
       (try clear hb)
       refine hK.out _ _ ⟨zc BK647 0, zc BK647 1, zc BK647 2⟩ (fun hHeld => ?_)
       clear hK K
       refine zn 13 ?_; refine zp 2 14 HT_ ?_; refine zu 3 15 HT_ ?_; refine zu 4 16 HT_ ?_; refine zu 5 17 HT_ ?_; refine zu 6 18 HT_ ?_; refine zu 7 19 HT_ ?_; refine zp 8 20 HT_ ?_; refine zp 9 21 HT_ ?_; refine zu 10 22 HT_ ?_; refine zu 11 23 HT_ ?_; refine zu 12 24 HT_ ?_; refine zu 13 25 HT_ ?_; refine zu 14 26 HT_ ?_; refine zu 15 27 HT_ ?_; refine zu 16 28 HT_ ?_; refine zu 17 29 HT_ ?_; refine zu 18 30 HT_ ?_; refine zp 19 31 HT_ ?_; refine zp 20 32 HT_ ?_; refine zu 21 33 HT_ ?_; refine zu 22 34 HT_ ?_; refine zu 23 35 HT_ ?_; refine zu 24 36 HT_ ?_; refine zu 25 37 HT_ ?_; refine zu 26 38 HT_ ?_; refine zu 27 39 HT_ ?_; refine zu 28 40 HT_ ?_; refine zp 29 41 HT_ ?_; refine zp 30 42 HT_ ?_; refine zu 31 43 HT_ ?_; refine zu 32 44 HT_ ?_; refine zu 33 45 HT_ ?_; refine zu 34 46 HT_ ?_; refine zu 35 47 HT_ ?_; refine zu 36 48 HT_ ?_; refine zu 37 49 HT_ ?_; refine zu 38 50 HT_ ?_; refine zp 39 51 HT_ ?_; refine zd HT_ ?_
       try go_wp2
       go_roundg k1
       case measure => have := HK1.out; omega
       case rel => exact ⟨(wrap64 (x5_1 + 1)), (by first | rfl | (simp; done) | (simp [*]; done)), H', ⟨by have := HK1.out; omega⟩, ⟨zK BK647⟩, ⟨zB HB⟩⟩
   · rw [if_neg c4] at H
     have c4b0 : decide (x5_1 < (l0.length : Int)) = false := decide_eq_false c4
     clear c4
     obtain rfl := Option.some.inj H
     go_wp2
     go_ret
     exact ⟨by first | rfl | (simp [errW_none, errW_some] <;> rfl) | (simp [*, errW_none, errW_some] <;> rfl), by repeat (first | (with_reducible first | exact HB.out | apply below_alloc | apply pw_below_drewN | apply below_drew1 | refine below_set ?_ GE647.out) | exact HB.out)⟩
end Go.Proofs.Ytcgfpffgiimgmaa.Q
end

section
namespace Go.Proofs.Ytcgfpffgiimgmaa.Q
open Go.RowKit Go.Proofs.YtcgfpffgiimgmaaW.PrintWords Go.Proofs.YtcgfpffgiimgmaaW.PrintLast Go.Proofs.YtcgfpffgiimgmaaW.PrintMore
attribute [local go_sem] max2_int min2_int max_two min_two max_three min_three max_four min_four
set_option linter.unusedVariables false
set_option linter.unusedSimpArgs false
def intrusionref07_All.f  : Option ((List (S66))) := some (([(⟨(⟨false, 0, 0⟩ : S36), (⟨false, 0, 4294967295⟩ : S36)⟩ : S66), (⟨(⟨true, 0, 0⟩ : S36), (⟨true, 18446744073709551615, 18446744073709551615⟩ : S36)⟩ : S66)] : List (S66)))
set_option maxHeartbeats 8000000 in
set_option maxRecDepth 100000 in
theorem intrusionref07_All.calls  (r : List (S66)) (w : World) (h : intrusionref07_All.f  = some r) :
 Calls Try.prog 45 #[] w fun e w' => ∃ v0_ : Value, e = .returned (v0_) ∧ Kd.R k66 66 w' w.heap.size (fun _ => True) v0_ r ∧ Below w.heap.size w w' := by
 have hu36 := Try.underlying36
 have hu66 := Try.underlying66
 have HB := Aside0.mk (Below.refl w.heap.size w)
 have H : (some (([(⟨(⟨false, 0, 0⟩ : S36), (⟨false, 0, 4294967295⟩ : S36)⟩ : S66), (⟨(⟨true, 0, 0⟩ : S36), (⟨true, 18446744073709551615, 18446744073709551615⟩ : S36)⟩ : S66)] : List (S66)))) = some r := h
 clear h
 obtain ⟨y656, hy656⟩ : ∃ y_ : List (S66), y_ = (([(⟨(⟨false, 0, 0⟩ : S36), (⟨false, 0, 4294967295⟩ : S36)⟩ : S66), (⟨(⟨true, 0, 0⟩ : S36), (⟨true, 18446744073709551615, 18446744073709551615⟩ : S36)⟩ : S66)] : List (S66))) := ⟨_, rfl⟩
 replace H : (some y656) = some r := by first | (rw [hy656]; with_reducible exact H) | (have H2_ := (Option.bind_some _ _).symm.trans H; rw [hy656]; with_reducible exact H2_) | (have H2_ := (Option.bind_some _ _).symm.trans H; with_reducible exact H2_) | with_reducible exact H | (rw [hy656]; exact H) | exact H
 have Ny656 := Aside0.mk hy656
 clear hy656
 obtain rfl := Option.some.inj H
 go_enter Try.func45, Try.ntmps45
 go_wp2_with (first | ((with_reducible refine gate_dst (N := 10) rfl ?_); refine Kd.R_lit k66 _ 66 ?hg (N := 10) ?hd (xs := ([(⟨(⟨false, 0, 0⟩ : S36), (⟨false, 0, 4294967295⟩ : S36)⟩ : S66), (⟨(⟨true, 0, 0⟩ : S36), (⟨true, 18446744073709551615, 18446744073709551615⟩ : S36)⟩ : S66)] : List (S66))) (inner := [.bool false, .int .u64 0, .int .u64 0, .bool false, .int .u64 0, .int .u64 4294967295, .bool true, .int .u64 0, .int .u64 0, .bool true, .int .u64 18446744073709551615, .int .u64 18446744073709551615]) (ok := fun _ => True) (okp := fun _ => True) ?hr ?hp (fun _ hk => hk) trivial (Below.refl _ _) (Nat.le_refl _) (by simp) ?_; (case hd => rfl); (case hg => rfl); (case hr => first | (go_simp; done) | (go_simp; rfl)); (case hp => exact (Reps.c6 (show Kd.M k66 _ _ _ (⟨(⟨false, 0, 0⟩ : S36), (⟨false, 0, 4294967295⟩ : S36)⟩ : S66) [.bool false, .int .u64 0, .int .u64 0, .bool false, .int .u64 0, .int .u64 4294967295] from (k66_mkM _ _ _ (⟨(⟨false, 0, 0⟩ : S36), (⟨false, 0, 4294967295⟩ : S36)⟩ : S66) )) (Reps.c6 (show Kd.M k66 _ _ _ (⟨(⟨true, 0, 0⟩ : S36), (⟨true, 18446744073709551615, 18446744073709551615⟩ : S36)⟩ : S66) [.bool true, .int .u64 0, .int .u64 0, .bool true, .int .u64 18446744073709551615, .int .u64 18446744073709551615] from (k66_mkM _ _ _ (⟨(⟨true, 0, 0⟩ : S36), (⟨true, 18446744073709551615, 18446744073709551615⟩ : S36)⟩ : S66) )) (Reps.none _ _)))); intro v657 w1 ho2 hb hg_ hnew_; clear hg_ hnew_; (first | rw [← Ny656.out] at ho2 | (simp only [Int.reduceToNat] at ho2; rw [← Ny656.out] at ho2)); have HO658 := Aside0.mk (Kd.R_lower ho2 (below_size (zB HB))); replace HB := Aside0.mk (below_step (zB HB) hb); clear hb ho2))
 go_ret
 exact ⟨_, by first | rfl | (simp [errW_none, errW_some] <;> rfl) | (simp [*, errW_none, errW_some] <;> rfl), by (with_reducible repeat (first | apply Kd.R_alloc | apply Kd.R_drewN | apply Kd.R_drew)); exact HO658.out, by repeat (first | (with_reducible first | exact HB.out | apply below_alloc | apply pw_below_drewN | apply below_drew1) | exact HB.out)⟩
end Go.Proofs.Ytcgfpffgiimgmaa.Q
end

section
set_option linter.unusedVariables false
set_option linter.unusedSimpArgs false
namespace Go.Proofs.Ytcgfpffgiimgmaa.Q
open Go.RowKit Go.Proofs.YtcgfpffgiimgmaaW.PrintWords Go.Proofs.YtcgfpffgiimgmaaW.PrintLast Go.Proofs.YtcgfpffgiimgmaaW.PrintMore
def idxOf {α : Type} (p : α → Bool) (l : List α) : Int := match l.findIdx? p with | some i => (i : Int) | none => -1
theorem idxOf_hit {α : Type} (p : α → Bool) (l : List α) (k : Nat) (hk : k < l.length) (h : p l[k] = true) (hb : ∀ j (hj : j < k), p (l[j]'(by omega)) = false) : idxOf p l = k := by
  have : l.findIdx? p = some k := by
    rw [List.findIdx?_eq_some_iff_getElem]
    exact ⟨hk, h, fun j hj => by simp [hb j hj]⟩
  simp [idxOf, this]
theorem idxOf_miss {α : Type} (p : α → Bool) (l : List α) (hb : ∀ j (hj : j < l.length), p (l[j]'hj) = false) : idxOf p l = -1 := by
  have : l.findIdx? p = none := by
    rw [List.findIdx?_eq_none_iff]
    intro x hx
    obtain ⟨j, hj, rfl⟩ := List.getElem_of_mem hx
    exact hb j hj
  simp [idxOf, this]
theorem idxOf_nonneg {α : Type} (p : α → Bool) (l : List α) : decide (idxOf p l ≥ 0) = l.any p := by
  cases h : l.findIdx? p with
  | none =>
    rw [List.findIdx?_eq_none_iff] at h
    have h1 : l.findIdx? p = none := List.findIdx?_eq_none_iff.2 h
    have : l.any p = false := by
      rw [List.any_eq_false]
      intro x hx
      simp [h x hx]
    simp [idxOf, h1, this]
  | some i =>
    obtain ⟨hi, hp, _⟩ := List.findIdx?_eq_some_iff_getElem.1 h
    have : l.any p = true := List.any_eq_true.2 ⟨l[i], List.getElem_mem hi, hp⟩
    simp [idxOf, h, this]
def inSpan (n : Int) (x : S52) : Bool := decide (x.f0 ≤ n) && decide (n ≤ x.f1)
def interval_Contains.f (l0 : List S52) (a1 : Int) : Option Bool := some (decide (0 ≤ a1) && (decide (a1 ≤ 4294967296) && l0.any (inSpan a1)))
end Go.Proofs.Ytcgfpffgiimgmaa.Q
end

section
set_option linter.unusedVariables false
set_option linter.unusedSimpArgs false
namespace Go.Proofs.Ytcgfpffgiimgmaa.Q
open Go.RowKit Go.Proofs.YtcgfpffgiimgmaaW.PrintWords Go.Proofs.YtcgfpffgiimgmaaW.PrintLast Go.Proofs.YtcgfpffgiimgmaaW.PrintMore
theorem rd_getR (l : List S66) (k : Nat) (hk : k < l.length) : rd_T66 l (k : Int) = l[k] := by
  simp [rd_T66, List.getD_eq_getElem?_getD, List.getElem?_eq_getElem hk]
set_option maxHeartbeats 1000000 in
set_option maxRecDepth 100000 in
theorem indexFuncRange (p : S66 → Bool) (g : Nat) (cb : Array Value) (A : Option Addr) (c : Nat) (l : List S66) (w : World) (eg : ∀ args w, (callFunc g args).run Try.prog w = .ok (.enter g args) w)
    (hp : ∀ (W : World) (x : S66), Below w.heap.size w W → Calls Try.prog g (#[.agg #[.bool x.f0.f0, .int .u64 x.f0.f1, .int .u64 x.f0.f2, .bool x.f1.f0, .int .u64 x.f1.f1, .int .u64 x.f1.f2]] ++ cb) W fun e w' => e = .returned (.bool (p x)) ∧ Below w.heap.size w w')
    (hr : Kd.C k66 w A l.length l) :
    Calls Try.prog 107 #[.slice A l.length c, .func (.func g) #[] cb] w fun e w' => e = .returned (.int .i64 (idxOf p l)) ∧ Below w.heap.size w w' := by
  have hm : l.length ≤ 9223372036854775807 := hr.2.1
  have huS := Try.underlying66
  have HR := Aside0.mk hr
  have HP := Aside0.mk hp
  clear hr hp
  go_enter Try.func107, Try.ntmps107
  go_wp2
  go_loopg [5, 8] l.length (fun gg _ s8 wr => ∃ kk : Nat, kk ≤ l.length ∧ l.length - kk ≤ gg ∧ s8 = .int .i64 kk ∧ Aside0 (Below w.heap.size w wr) ∧ Aside0 (∀ j (hj : j < l.length), j < kk → p (l[j]'hj) = false))
  case atStart => exact ⟨0, Nat.zero_le _, by omega, rfl, ⟨Below.refl _ w⟩, ⟨fun j _ hj => absurd hj (Nat.not_lt_zero _)⟩⟩
  case round =>
    obtain ⟨kk, hkk, hg, rfl, BW, HA⟩ := hrel
    by_cases hlt : kk < l.length
    · have hltz : (kk : Int) < (l.length : Int) := by omega
      obtain ⟨ad, e, hx0, hx1, hx2, hx3, hx4, hx5⟩ := at_T66 HR.out kk (by omega) hltz
      cases e
      replace hx0 := (BW.out.cell (World.block_lt_of_cell? w _ hx0)).trans hx0
      replace hx1 := (BW.out.cell (World.block_lt_of_cell? w _ hx1)).trans hx1
      replace hx2 := (BW.out.cell (World.block_lt_of_cell? w _ hx2)).trans hx2
      replace hx3 := (BW.out.cell (World.block_lt_of_cell? w _ hx3)).trans hx3
      replace hx4 := (BW.out.cell (World.block_lt_of_cell? w _ hx4)).trans hx4
      replace hx5 := (BW.out.cell (World.block_lt_of_cell? w _ hx5)).trans hx5
      rw [rd_getR l kk hlt] at hx0 hx1 hx2 hx3 hx4 hx5
      simp only [Int.toNat_natCast] at hx0 hx1 hx2 hx3 hx4 hx5
      have hcall := HP.out wr l[kk] BW.out
      have HG := Aside0.mk (fun (h : p l[kk] = true) => idxOf_hit p l kk hlt h (fun j hj => HA.out j (by omega) hj))
      have HN := Aside0.mk (fun (h : p l[kk] = false) => (fun (j : Nat) (hj : j < l.length) (hk : j < kk + 1) => if e : j = kk then (by subst e; exact h : p (l[j]'hj) = false) else HA.out j hj (by omega)))
      generalize l[kk] = y at hx0 hx1 hx2 hx3 hx4 hx5 hcall HG HN
      cases hq : p y with
      | true =>
        rw [hq] at hcall
        have HE := Aside0.mk (HG.out hq)
        clear hq
        go_wp2_with (go_at_fn g; refine hcall.mono ?_; rintro e w' ⟨rfl, hb'⟩)
        go_ret
        exact ⟨by rw [HE.out]; rfl, hb'⟩
      | false =>
        rw [hq] at hcall
        have HE := Aside0.mk (HN.out hq)
        clear hq
        go_wp2_with (go_at_fn g; refine hcall.mono ?_; rintro e w' ⟨rfl, hb'⟩)
        go_roundg (l.length - (kk + 1))
        case measure => omega
        case rel => exact ⟨kk + 1, by omega, by omega, by go_num, ⟨hb'⟩, ⟨HE.out⟩⟩
    · have hltz : ¬ (kk : Int) < (l.length : Int) := by omega
      have he := idxOf_miss p l (fun j hj => HA.out j hj (by omega))
      have HE := Aside0.mk he
      clear he
      go_wp2
      go_ret
      exact ⟨by rw [HE.out]; rfl, BW.out⟩
set_option maxHeartbeats 1000000 in
set_option maxRecDepth 100000 in
theorem containsFuncRange (p : S66 → Bool) (g : Nat) (cb : Array Value) (A : Option Addr) (c : Nat) (l : List S66) (w : World) (eg : ∀ args w, (callFunc g args).run Try.prog w = .ok (.enter g args) w)
    (hp : ∀ (W : World) (x : S66), Below w.heap.size w W → Calls Try.prog g (#[.agg #[.bool x.f0.f0, .int .u64 x.f0.f1, .int .u64 x.f0.f2, .bool x.f1.f0, .int .u64 x.f1.f1, .int .u64 x.f1.f2]] ++ cb) W fun e w' => e = .returned (.bool (p x)) ∧ Below w.heap.size w w')
    (hr : Kd.C k66 w A l.length l) :
    Calls Try.prog 83 #[.slice A l.length c, .func (.func g) #[] cb] w fun e w' => e = .returned (.bool (l.any p)) ∧ Below w.heap.size w w' := by
  have h := indexFuncRange p g cb A c l w eg hp hr
  rw [← idxOf_nonneg]
  clear hp hr
  generalize idxOf p l = n at h ⊢
  go_enter Try.func83, Try.ntmps83
  go_wp2_with (go_at_call 107; refine h.mono ?_; rintro e w' ⟨rfl, hb'⟩)
  go_ret
  exact ⟨rfl, hb'⟩
def inRange (a : S36) (x : S66) : Bool := someB x && ((x.f0.f0 == a.f0) && (decide (cmpA x.f0 a ≤ 0) && decide (cmpA a x.f1 ≤ 0)))
set_option maxHeartbeats 1000000 in
set_option maxRecDepth 100000 in
theorem closureInR (a : S36) (B : Nat) (x : S66) (W : World) (hB : W.heap[B]? = some (.cells #[.bool a.f0, .int .u64 a.f1, .int .u64 a.f2] 36 (0, 0))) :
    Calls Try.prog 84 #[.agg #[.bool x.f0.f0, .int .u64 x.f0.f1, .int .u64 x.f0.f2, .bool x.f1.f0, .int .u64 x.f1.f1, .int .u64 x.f1.f2], .pointer (some ⟨B, 0, none⟩)] W fun e w' => e = .returned (.bool (inRange a x)) ∧ Below W.heap.size W w' := by
  have hu := Try.underlying66
  have hu2 := Try.underlying36
  have HX1 : Aside0 ((W.alloc (.cells #[.bool x.f0.f0, .int .u64 x.f0.f1, .int .u64 x.f0.f2, .bool x.f1.f0, .int .u64 x.f1.f1, .int .u64 x.f1.f2] 66)).heap[W.heap.size]? = some (.cells #[.bool x.f0.f0, .int .u64 x.f0.f1, .int .u64 x.f0.f2, .bool x.f1.f0, .int .u64 x.f1.f1, .int .u64 x.f1.f2] 66 (0, 0))) := ⟨heap_alloc_new _ _⟩
  have HB1 := Aside0.mk (blk_alloc hB (.cells #[.bool x.f0.f0, .int .u64 x.f0.f1, .int .u64 x.f0.f2, .bool x.f1.f0, .int .u64 x.f1.f1, .int .u64 x.f1.f2] 66))
  have HL1 : Aside0 (Below W.heap.size W (W.alloc (.cells #[.bool x.f0.f0, .int .u64 x.f0.f1, .int .u64 x.f0.f2, .bool x.f1.f0, .int .u64 x.f1.f1, .int .u64 x.f1.f2] 66))) := ⟨(Below.refl _ _).alloc (Nat.le_refl _) _⟩
  clear hB
  cases h1 : someB x with
  | false =>
    rw [show inRange a x = false by simp [inRange, h1]]
    go_enter Try.func84, Try.ntmps84
    go_wp2_with (go_at_call 71; refine (addrset_some.calls x.f0.f0 x.f0.f1 x.f0.f2 x.f1.f0 x.f1.f1 x.f1.f2 (someB x) _ (some_eq x)).mono ?_; rintro e w2 ⟨rfl, hb⟩; rw [h1]; have HB2 := Aside0.mk (blk_below HB1.out hb); have HX2 := Aside0.mk (blk_below HX1.out hb); have HL2 := Aside0.mk (HL1.out.trans (hb.mono HL1.out.size)); have cb2_0 := (blk_cell HB2.out 0).trans rfl; have cb2_1 := (blk_cell HB2.out 1).trans rfl; have cb2_2 := (blk_cell HB2.out 2).trans rfl; have cx2_0 := (blk_cell HX2.out 0).trans rfl; have cx2_1 := (blk_cell HX2.out 1).trans rfl; have cx2_2 := (blk_cell HX2.out 2).trans rfl; have cx2_3 := (blk_cell HX2.out 3).trans rfl; have cx2_4 := (blk_cell HX2.out 4).trans rfl; have cx2_5 := (blk_cell HX2.out 5).trans rfl; clear hb)
    go_ret
    exact ⟨rfl, HL2.out⟩
  | true =>
    cases h2 : (x.f0.f0 == a.f0) with
    | false =>
      rw [show inRange a x = false by simp [inRange, h1, h2]]
      have h3 : decide (x.f0.f0 = a.f0) = false := by simpa using h2
      go_enter Try.func84, Try.ntmps84
      go_wp2_with (go_at_call 71; refine (addrset_some.calls x.f0.f0 x.f0.f1 x.f0.f2 x.f1.f0 x.f1.f1 x.f1.f2 (someB x) _ (some_eq x)).mono ?_; rintro e w2 ⟨rfl, hb⟩; rw [h1]; have HB2 := Aside0.mk (blk_below HB1.out hb); have HX2 := Aside0.mk (blk_below HX1.out hb); have HL2 := Aside0.mk (HL1.out.trans (hb.mono HL1.out.size)); have cb2_0 := (blk_cell HB2.out 0).trans rfl; have cb2_1 := (blk_cell HB2.out 1).trans rfl; have cb2_2 := (blk_cell HB2.out 2).trans rfl; have cx2_0 := (blk_cell HX2.out 0).trans rfl; have cx2_1 := (blk_cell HX2.out 1).trans rfl; have cx2_2 := (blk_cell HX2.out 2).trans rfl; have cx2_3 := (blk_cell HX2.out 3).trans rfl; have cx2_4 := (blk_cell HX2.out 4).trans rfl; have cx2_5 := (blk_cell HX2.out 5).trans rfl; clear hb)
      go_ret
      exact ⟨rfl, HL2.out⟩
    | true =>
      have h3 : decide (x.f0.f0 = a.f0) = true := by simpa using h2
      cases h4 : decide (cmpA x.f0 a ≤ 0) with
      | false =>
        rw [show inRange a x = false by simp [inRange, h1, h2, h4]]
        go_enter Try.func84, Try.ntmps84
        go_wp2_with (first | (go_at_call 71; refine (addrset_some.calls x.f0.f0 x.f0.f1 x.f0.f2 x.f1.f0 x.f1.f1 x.f1.f2 (someB x) _ (some_eq x)).mono ?_; rintro e w2 ⟨rfl, hb⟩; rw [h1]; have HB2 := Aside0.mk (blk_below HB1.out hb); have HX2 := Aside0.mk (blk_below HX1.out hb); have HL2 := Aside0.mk (HL1.out.trans (hb.mono HL1.out.size)); have cb2_0 := (blk_cell HB2.out 0).trans rfl; have cb2_1 := (blk_cell HB2.out 1).trans rfl; have cb2_2 := (blk_cell HB2.out 2).trans rfl; have cx2_0 := (blk_cell HX2.out 0).trans rfl; have cx2_1 := (blk_cell HX2.out 1).trans rfl; have cx2_2 := (blk_cell HX2.out 2).trans rfl; have cx2_3 := (blk_cell HX2.out 3).trans rfl; have cx2_4 := (blk_cell HX2.out 4).trans rfl; have cx2_5 := (blk_cell HX2.out 5).trans rfl; clear hb) | (go_at_call 75; with_reducible refine (address_Compare.calls x.f0.f0 x.f0.f1 x.f0.f2 a.f0 a.f1 a.f2 (cmpA x.f0 a) _ rfl).mono ?_; rintro e w3 ⟨rfl, hb⟩; have HB3 := Aside0.mk (blk_below HB2.out hb); have HX3 := Aside0.mk (blk_below HX2.out hb); have HL3 := Aside0.mk (HL2.out.trans (hb.mono HL2.out.size)); have cb3_0 := (blk_cell HB3.out 0).trans rfl; have cb3_1 := (blk_cell HB3.out 1).trans rfl; have cb3_2 := (blk_cell HB3.out 2).trans rfl; have cx3_0 := (blk_cell HX3.out 0).trans rfl; have cx3_1 := (blk_cell HX3.out 1).trans rfl; have cx3_2 := (blk_cell HX3.out 2).trans rfl; have cx3_3 := (blk_cell HX3.out 3).trans rfl; have cx3_4 := (blk_cell HX3.out 4).trans rfl; have cx3_5 := (blk_cell HX3.out 5).trans rfl; clear hb))
        go_ret
        exact ⟨rfl, HL3.out⟩
      | true =>
        rw [show inRange a x = decide (cmpA a x.f1 ≤ 0) by simp [inRange, h1, h2, h4]]
        go_enter Try.func84, Try.ntmps84
        go_wp2_with (first | (go_at_call 71; refine (addrset_some.calls x.f0.f0 x.f0.f1 x.f0.f2 x.f1.f0 x.f1.f1 x.f1.f2 (someB x) _ (some_eq x)).mono ?_; rintro e w2 ⟨rfl, hb⟩; rw [h1]; have HB2 := Aside0.mk (blk_below HB1.out hb); have HX2 := Aside0.mk (blk_below HX1.out hb); have HL2 := Aside0.mk (HL1.out.trans (hb.mono HL1.out.size)); have cb2_0 := (blk_cell HB2.out 0).trans rfl; have cb2_1 := (blk_cell HB2.out 1).trans rfl; have cb2_2 := (blk_cell HB2.out 2).trans rfl; have cx2_0 := (blk_cell HX2.out 0).trans rfl; have cx2_1 := (blk_cell HX2.out 1).trans rfl; have cx2_2 := (blk_cell HX2.out 2).trans rfl; have cx2_3 := (blk_cell HX2.out 3).trans rfl; have cx2_4 := (blk_cell HX2.out 4).trans rfl; have cx2_5 := (blk_cell HX2.out 5).trans rfl; clear hb) | (go_at_call 75; with_reducible refine (address_Compare.calls x.f0.f0 x.f0.f1 x.f0.f2 a.f0 a.f1 a.f2 (cmpA x.f0 a) _ rfl).mono ?_; rintro e w3 ⟨rfl, hb⟩; have HB3 := Aside0.mk (blk_below HB2.out hb); have HX3 := Aside0.mk (blk_below HX2.out hb); have HL3 := Aside0.mk (HL2.out.trans (hb.mono HL2.out.size)); have cb3_0 := (blk_cell HB3.out 0).trans rfl; have cb3_1 := (blk_cell HB3.out 1).trans rfl; have cb3_2 := (blk_cell HB3.out 2).trans rfl; have cx3_0 := (blk_cell HX3.out 0).trans rfl; have cx3_1 := (blk_cell HX3.out 1).trans rfl; have cx3_2 := (blk_cell HX3.out 2).trans rfl; have cx3_3 := (blk_cell HX3.out 3).trans rfl; have cx3_4 := (blk_cell HX3.out 4).trans rfl; have cx3_5 := (blk_cell HX3.out 5).trans rfl; clear hb) | (go_at_call 75; with_reducible refine (address_Compare.calls a.f0 a.f1 a.f2 x.f1.f0 x.f1.f1 x.f1.f2 (cmpA a x.f1) _ rfl).mono ?_; rintro e w4 ⟨rfl, hb⟩; have HB4 := Aside0.mk (blk_below HB3.out hb); have HX4 := Aside0.mk (blk_below HX3.out hb); have HL4 := Aside0.mk (HL3.out.trans (hb.mono HL3.out.size)); have cb4_0 := (blk_cell HB4.out 0).trans rfl; have cb4_1 := (blk_cell HB4.out 1).trans rfl; have cb4_2 := (blk_cell HB4.out 2).trans rfl; have cx4_0 := (blk_cell HX4.out 0).trans rfl; have cx4_1 := (blk_cell HX4.out 1).trans rfl; have cx4_2 := (blk_cell HX4.out 2).trans rfl; have cx4_3 := (blk_cell HX4.out 3).trans rfl; have cx4_4 := (blk_cell HX4.out 4).trans rfl; have cx4_5 := (blk_cell HX4.out 5).trans rfl; clear hb))
        go_ret
        exact ⟨rfl, HL4.out⟩
def addrset_Contains.f (l0 : List S66) (a1_0 : Bool) (a1_1 : Int) (a1_2 : Int) : Option Bool := some (fineB ⟨a1_0, a1_1, a1_2⟩ && l0.any (inRange ⟨a1_0, a1_1, a1_2⟩))
set_option maxHeartbeats 1000000 in
set_option maxRecDepth 100000 in
theorem addrset_Contains.calls (A0 : Option Addr) (c0 : Nat) (l0 : List S66) (a1_0 : Bool) (a1_1 : Int) (a1_2 : Int) (r : Bool) (w : World) (hr0 : Kd.C k66 w A0 l0.length l0) (hc0 : l0.length ≤ c0) (h : addrset_Contains.f l0 a1_0 a1_1 a1_2 = some r) :
    Calls Try.prog 42 #[.slice A0 l0.length c0, .agg #[.bool a1_0, .int .u64 a1_1, .int .u64 a1_2]] w fun e w' => e = .returned (.bool r) ∧ Below w.heap.size w w' := by
  unfold addrset_Contains.f at h
  injection h with h
  subst h
  have hu2 := Try.underlying36
  have hfe := fine_eq ⟨a1_0, a1_1, a1_2⟩
  have HR := Aside0.mk (Kd.C_alloc hr0 (.cells #[.bool a1_0, .int .u64 a1_1, .int .u64 a1_2] 36))
  have HB1 : Aside0 ((w.alloc (.cells #[.bool a1_0, .int .u64 a1_1, .int .u64 a1_2] 36)).heap[w.heap.size]? = some (.cells #[.bool a1_0, .int .u64 a1_1, .int .u64 a1_2] 36 (0, 0))) := ⟨heap_alloc_new _ _⟩
  have HL1 : Aside0 (Below w.heap.size w (w.alloc (.cells #[.bool a1_0, .int .u64 a1_1, .int .u64 a1_2] 36))) := ⟨(Below.refl _ _).alloc (Nat.le_refl _) _⟩
  have eg : ∀ args w, (callFunc 84 args).run Try.prog w = .ok (.enter 84 args) w := enters_of Try.func84 (by kernel_rfl) rfl
  have HEG := Aside0.mk eg
  clear hr0 eg
  cases hf : fineB ⟨a1_0, a1_1, a1_2⟩ with
  | false =>
    rw [hf] at hfe
    simp only [Bool.false_and]
    have HFE := Aside0.mk hfe
    clear hf hfe
    go_enter Try.func42, Try.ntmps42
    go_wp2_with (go_at_call 82; refine (address_Valid.calls a1_0 a1_1 a1_2 false _ HFE.out).mono ?_; rintro e w2 ⟨rfl, hb⟩; have HL2 := Aside0.mk (HL1.out.trans (hb.mono HL1.out.size)); clear hb)
    go_ret
    exact ⟨rfl, HL2.out⟩
  | true =>
    rw [hf] at hfe
    simp only [Bool.true_and]
    have HFE := Aside0.mk hfe
    clear hf hfe
    have HG := Aside0.mk (fun (w2 : World) (hb : Below (w.alloc (.cells #[.bool a1_0, .int .u64 a1_1, .int .u64 a1_2] 36)).heap.size (w.alloc (.cells #[.bool a1_0, .int .u64 a1_1, .int .u64 a1_2] 36)) w2) => containsFuncRange (inRange ⟨a1_0, a1_1, a1_2⟩) 84 #[.pointer (some ⟨w.heap.size, 0, none⟩)] A0 c0 l0 w2 HEG.out
      (fun W x hb2 => (closureInR ⟨a1_0, a1_1, a1_2⟩ w.heap.size x W (blk_below (blk_below HB1.out hb) hb2)).mono fun e w' ⟨he, hb'⟩ => ⟨he, hb2.trans (hb'.mono hb2.size)⟩)
      (Kd.C_below HR.out hb))
    generalize l0.any (inRange ⟨a1_0, a1_1, a1_2⟩) = r at HG ⊢
    go_enter Try.func42, Try.ntmps42
    go_wp2_with (first | (go_at_call 82; refine (address_Valid.calls a1_0 a1_1 a1_2 true _ HFE.out).mono ?_; rintro e w2 ⟨rfl, hb⟩; have HL2 := Aside0.mk (HL1.out.trans (hb.mono HL1.out.size)); have HC := Aside0.mk (HG.out w2 hb); clear hb) | (go_at_call 83; refine HC.out.mono ?_; rintro e w3 ⟨rfl, hb⟩; have HL3 := Aside0.mk (HL2.out.trans (hb.mono HL2.out.size)); clear hb))
    go_ret
    exact ⟨rfl, HL3.out⟩
end Go.Proofs.Ytcgfpffgiimgmaa.Q
end
