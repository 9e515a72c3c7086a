/- The law AddrsetEvaluates answers true for every input and leaves its arguments as they were. No condition. (Part 4 of 6: the kit's printed words and walks, hand-made contracts and plain laws, joined in build order, without what the theorem does not reach.) -/
import Derived.Test.YtcgfpffgiimgmaaGAddrsetEvaluates3
section
namespace Go.Proofs.Ytcgfpffgiimgmaa.Q
open Go.RowKit Go.Proofs.YtcgfpffgiimgmaaW.PrintWords Go.Proofs.YtcgfpffgiimgmaaW.PrintLast Go.Proofs.YtcgfpffgiimgmaaW.PrintMore
attribute [local go_sem] max2_int min2_int max_two min_two max_three min_three max_four min_four
set_option linter.unusedVariables false
set_option linter.unusedSimpArgs false
mutual
def intrusionref07_add.l0 : Nat → List (S66) → List (S66) → Bool → Int → Bool → Int → Int → Bool → Int → Int → Option ((List (S66)))
  | 0, _, _, _, _, _, _, _, _, _, _ => none
  | k + 1, x0, x5, x6, x7, x612000, x612001, x612002, x612003, x612004, x612005 => if x7 < (x0.length : Int) then (if 0 ≤ x7 then (if x6 = true then (intrusionref07_add.j1 k x0 x5 x6 x7 true x612000 x612001 x612002 x612003 x612004 x612005 ((rd_T66 x0 x7).f0.f0) ((rd_T66 x0 x7).f0.f1) ((rd_T66 x0 x7).f0.f2) ((rd_T66 x0 x7).f1.f0) ((rd_T66 x0 x7).f1.f1) ((rd_T66 x0 x7).f1.f2)) else ((intrusionref07_Before.f ((rd_T66 x0 x7).f1.f0) ((rd_T66 x0 x7).f1.f1) ((rd_T66 x0 x7).f1.f2) x612000 x612001 x612002).bind fun t617 => (if t617 = true then ((intrusionref07_joined.f ((rd_T66 x0 x7).f0.f0) ((rd_T66 x0 x7).f0.f1) ((rd_T66 x0 x7).f0.f2) ((rd_T66 x0 x7).f1.f0) ((rd_T66 x0 x7).f1.f1) ((rd_T66 x0 x7).f1.f2) x612000 x612001 x612002 x612003 x612004 x612005).bind fun t618 => (intrusionref07_add.j1 k x0 x5 x6 x7 (!t618) x612000 x612001 x612002 x612003 x612004 x612005 ((rd_T66 x0 x7).f0.f0) ((rd_T66 x0 x7).f0.f1) ((rd_T66 x0 x7).f0.f2) ((rd_T66 x0 x7).f1.f0) ((rd_T66 x0 x7).f1.f1) ((rd_T66 x0 x7).f1.f2))) else (intrusionref07_add.j1 k x0 x5 x6 x7 false x612000 x612001 x612002 x612003 x612004 x612005 ((rd_T66 x0 x7).f0.f0) ((rd_T66 x0 x7).f0.f1) ((rd_T66 x0 x7).f0.f2) ((rd_T66 x0 x7).f1.f0) ((rd_T66 x0 x7).f1.f1) ((rd_T66 x0 x7).f1.f2))))) else (none)) else (if x6 = true then (some x5) else (if x5.length < 2932031007402 then (some (x5 ++ [(⟨(⟨x612000, x612001, x612002⟩ : S36), (⟨x612003, x612004, x612005⟩ : S36)⟩ : S66)])) else (none)))
def intrusionref07_add.j1 : Nat → List (S66) → List (S66) → Bool → Int → Bool → Bool → Int → Int → Bool → Int → Int → Bool → Int → Int → Bool → Int → Int → Option ((List (S66)))
  | 0, _, _, _, _, _, _, _, _, _, _, _, _, _, _, _, _, _ => none
  | k + 1, x0, x5, x6, x7, x32, x612000, x612001, x612002, x612003, x612004, x612005, x617000, x617001, x617002, x617003, x617004, x617005 => if x32 = true then (if x5.length < 2932031007402 then (intrusionref07_add.l0 k x0 (x5 ++ [(⟨(⟨x617000, x617001, x617002⟩ : S36), (⟨x617003, x617004, x617005⟩ : S36)⟩ : S66)]) x6 (wrap64 (x7 + 1)) x612000 x612001 x612002 x612003 x612004 x612005) else (none)) else ((intrusionref07_Before.f x612003 x612004 x612005 x617000 x617001 x617002).bind fun t622 => (if t622 = true then ((intrusionref07_joined.f x612000 x612001 x612002 x612003 x612004 x612005 x617000 x617001 x617002 x617003 x617004 x617005).bind fun t623 => (intrusionref07_add.j2 k x0 x5 x6 x7 (!t623) x612000 x612001 x612002 x612003 x612004 x612005 x617000 x617001 x617002 x617003 x617004 x617005)) else (intrusionref07_add.j2 k x0 x5 x6 x7 false x612000 x612001 x612002 x612003 x612004 x612005 x617000 x617001 x617002 x617003 x617004 x617005)))
def intrusionref07_add.j2 : Nat → List (S66) → List (S66) → Bool → Int → Bool → Bool → Int → Int → Bool → Int → Int → Bool → Int → Int → Bool → Int → Int → Option ((List (S66)))
  | 0, _, _, _, _, _, _, _, _, _, _, _, _, _, _, _, _, _ => none
  | k + 1, x0, x5, x6, x7, x47, x612000, x612001, x612002, x612003, x612004, x612005, x617000, x617001, x617002, x617003, x617004, x617005 => if x47 = true then ((some (([(⟨(⟨x612000, x612001, x612002⟩ : S36), (⟨x612003, x612004, x612005⟩ : S36)⟩ : S66), (⟨(⟨x617000, x617001, x617002⟩ : S36), (⟨x617003, x617004, x617005⟩ : S36)⟩ : S66)] : List (S66)) : List (S66))).bind fun y624 => (if x5.length + y624.length < 2932031007402 then (intrusionref07_add.l0 k x0 (x5 ++ y624) true (wrap64 (x7 + 1)) x612000 x612001 x612002 x612003 x612004 x612005) else (none))) else ((intrusionref07_Before.f x617000 x617001 x617002 x612000 x612001 x612002).bind fun t630 => (if t630 = true then ((intrusionref07_Before.f x612003 x612004 x612005 x617003 x617004 x617005).bind fun t631 => (if t631 = true then (intrusionref07_add.l0 k x0 x5 x6 (wrap64 (x7 + 1)) x617000 x617001 x617002 x617003 x617004 x617005) else (intrusionref07_add.l0 k x0 x5 x6 (wrap64 (x7 + 1)) x617000 x617001 x617002 x612003 x612004 x612005))) else ((intrusionref07_Before.f x612003 x612004 x612005 x617003 x617004 x617005).bind fun t632 => (if t632 = true then (intrusionref07_add.l0 k x0 x5 x6 (wrap64 (x7 + 1)) x612000 x612001 x612002 x617003 x617004 x617005) else (intrusionref07_add.l0 k x0 x5 x6 (wrap64 (x7 + 1)) x612000 x612001 x612002 x612003 x612004 x612005)))))
end
def intrusionref07_add.f (k : Nat) (l0 : List (S66)) (a1_0 : Bool) (a1_1 : Int) (a1_2 : Int) (a1_3 : Bool) (a1_4 : Int) (a1_5 : Int) : Option ((List (S66))) := intrusionref07_add.l0 k l0 ([] : List (S66)) false 0 a1_0 a1_1 a1_2 a1_3 a1_4 a1_5
theorem intrusionref07_add.mono_l : ∀ k, (∀ y0 y1 y2 y3 y4 y5 y6 y7 y8 y9, LeO (intrusionref07_add.l0 k y0 y1 y2 y3 y4 y5 y6 y7 y8 y9) (intrusionref07_add.l0 (k + 1) y0 y1 y2 y3 y4 y5 y6 y7 y8 y9)) ∧ (∀ y0 y1 y2 y3 y4 y5 y6 y7 y8 y9 y10 y11 y12 y13 y14 y15 y16, LeO (intrusionref07_add.j1 k y0 y1 y2 y3 y4 y5 y6 y7 y8 y9 y10 y11 y12 y13 y14 y15 y16) (intrusionref07_add.j1 (k + 1) y0 y1 y2 y3 y4 y5 y6 y7 y8 y9 y10 y11 y12 y13 y14 y15 y16)) ∧ (∀ y0 y1 y2 y3 y4 y5 y6 y7 y8 y9 y10 y11 y12 y13 y14 y15 y16, LeO (intrusionref07_add.j2 k y0 y1 y2 y3 y4 y5 y6 y7 y8 y9 y10 y11 y12 y13 y14 y15 y16) (intrusionref07_add.j2 (k + 1) y0 y1 y2 y3 y4 y5 y6 y7 y8 y9 y10 y11 y12 y13 y14 y15 y16))
  | 0 => ⟨fun _ _ _ _ _ _ _ _ _ _ r h => by simp [intrusionref07_add.l0] at h, fun _ _ _ _ _ _ _ _ _ _ _ _ _ _ _ _ _ r h => by simp [intrusionref07_add.j1] at h, fun _ _ _ _ _ _ _ _ _ _ _ _ _ _ _ _ _ r h => by simp [intrusionref07_add.j2] at h⟩
  | k + 1 => by
    obtain ⟨ih0, ih1, ih2⟩ := intrusionref07_add.mono_l k
    refine ⟨?_, ?_, ?_⟩
    · intro y0 y1 y2 y3 y4 y5 y6 y7 y8 y9
      unfold intrusionref07_add.l0
      repeat' first
      | (with_reducible exact ih0 _ _ _ _ _ _ _ _ _ _)
      | (with_reducible exact ih1 _ _ _ _ _ _ _ _ _ _ _ _ _ _ _ _ _)
      | (with_reducible exact ih2 _ _ _ _ _ _ _ _ _ _ _ _ _ _ _ _ _)
      | (with_reducible exact LeO.refl _)
      | (with_reducible exact LeO.none _)
      | (with_reducible refine LeO.ite ?_ ?_)
      | (with_reducible refine LeO.bind ?_ (fun _ => ?_))
      | exact ih0 _ _ _ _ _ _ _ _ _ _
      | exact ih1 _ _ _ _ _ _ _ _ _ _ _ _ _ _ _ _ _
      | exact ih2 _ _ _ _ _ _ _ _ _ _ _ _ _ _ _ _ _
      | exact LeO.none _
      | refine LeO.ite ?_ ?_
      | refine LeO.bind ?_ (fun _ => ?_)
    · intro y0 y1 y2 y3 y4 y5 y6 y7 y8 y9 y10 y11 y12 y13 y14 y15 y16
      unfold intrusionref07_add.j1
      repeat' first
      | (with_reducible exact ih0 _ _ _ _ _ _ _ _ _ _)
      | (with_reducible exact ih1 _ _ _ _ _ _ _ _ _ _ _ _ _ _ _ _ _)
      | (with_reducible exact ih2 _ _ _ _ _ _ _ _ _ _ _ _ _ _ _ _ _)
      | (with_reducible exact LeO.refl _)
      | (with_reducible exact LeO.none _)
      | (with_reducible refine LeO.ite ?_ ?_)
      | (with_reducible refine LeO.bind ?_ (fun _ => ?_))
      | exact ih0 _ _ _ _ _ _ _ _ _ _
      | exact ih1 _ _ _ _ _ _ _ _ _ _ _ _ _ _ _ _ _
      | exact ih2 _ _ _ _ _ _ _ _ _ _ _ _ _ _ _ _ _
      | exact LeO.none _
      | refine LeO.ite ?_ ?_
      | refine LeO.bind ?_ (fun _ => ?_)
    · intro y0 y1 y2 y3 y4 y5 y6 y7 y8 y9 y10 y11 y12 y13 y14 y15 y16
      unfold intrusionref07_add.j2
      repeat' first
      | (with_reducible exact ih0 _ _ _ _ _ _ _ _ _ _)
      | (with_reducible exact ih1 _ _ _ _ _ _ _ _ _ _ _ _ _ _ _ _ _)
      | (with_reducible exact ih2 _ _ _ _ _ _ _ _ _ _ _ _ _ _ _ _ _)
      | (with_reducible exact LeO.refl _)
      | (with_reducible exact LeO.none _)
      | (with_reducible refine LeO.ite ?_ ?_)
      | (with_reducible refine LeO.bind ?_ (fun _ => ?_))
      | exact ih0 _ _ _ _ _ _ _ _ _ _
      | exact ih1 _ _ _ _ _ _ _ _ _ _ _ _ _ _ _ _ _
      | exact ih2 _ _ _ _ _ _ _ _ _ _ _ _ _ _ _ _ _
      | exact LeO.none _
      | refine LeO.ite ?_ ?_
      | refine LeO.bind ?_ (fun _ => ?_)
theorem intrusionref07_add.mono : ∀ a0 a1 a2 a3 a4 a5 a6 k, LeO (intrusionref07_add.f k a0 a1 a2 a3 a4 a5 a6) (intrusionref07_add.f (k + 1) a0 a1 a2 a3 a4 a5 a6) := by
  intro a0 a1 a2 a3 a4 a5 a6 k
  obtain ⟨ih0, ih1, ih2⟩ := intrusionref07_add.mono_l k
  unfold intrusionref07_add.f
  repeat' first
      | (with_reducible exact ih0 _ _ _ _ _ _ _ _ _ _)
      | (with_reducible exact ih1 _ _ _ _ _ _ _ _ _ _ _ _ _ _ _ _ _)
      | (with_reducible exact ih2 _ _ _ _ _ _ _ _ _ _ _ _ _ _ _ _ _)
      | (with_reducible exact LeO.refl _)
      | (with_reducible exact LeO.none _)
      | (with_reducible refine LeO.ite ?_ ?_)
      | (with_reducible refine LeO.bind ?_ (fun _ => ?_))
      | exact ih0 _ _ _ _ _ _ _ _ _ _
      | exact ih1 _ _ _ _ _ _ _ _ _ _ _ _ _ _ _ _ _
      | exact ih2 _ _ _ _ _ _ _ _ _ _ _ _ _ _ _ _ _
      | exact LeO.none _
      | refine LeO.ite ?_ ?_
      | refine LeO.bind ?_ (fun _ => ?_)
set_option maxHeartbeats 8000000 in
set_option maxRecDepth 100000 in
theorem intrusionref07_add.calls (k : Nat) (A0 : Option Addr) (c0 : Nat) (l0 : List (S66)) (a1_0 : Bool) (a1_1 : Int) (a1_2 : Int) (a1_3 : Bool) (a1_4 : Int) (a1_5 : Int) (r : List (S66)) (w : World) (hr0 : Kd.C k66 w A0 l0.length l0) (hc0 : l0.length ≤ c0) (h : intrusionref07_add.f k l0 a1_0 a1_1 a1_2 a1_3 a1_4 a1_5 = some r) :
 Calls Try.prog 79 #[.slice A0 l0.length c0, .agg #[.bool a1_0, .int .u64 a1_1, .int .u64 a1_2, .bool a1_3, .int .u64 a1_4, .int .u64 a1_5]] w fun e w' => ∃ v0_ : Value, e = .returned (v0_) ∧ Kd.R k66 66 w' w.heap.size (fun _ => True) v0_ r ∧ Below w.heap.size w w' := by
 have hu66 := Try.underlying66
 have hu36 := Try.underlying36
 have HR0 := Aside0.mk hr0
 have HC0 := Aside0.mk hc0
 clear hr0 hc0
 have HB := Aside0.mk (Below.refl w.heap.size w)
 unfold intrusionref07_add.f at h; have H := h
 clear h
 have H' := Aside0.mk H
 clear H
 go_enter Try.func79, Try.ntmps79
 go_wp2_with (first | ((with_reducible refine gate_dst (N := 3) rfl ?_); refine zx 3 #[.bool a1_0, .int .u64 a1_1, .int .u64 a1_2, .bool a1_3, .int .u64 a1_4, .int .u64 a1_5] 66 ?_; intro gb611 hg w3 hbox hb; have BK611 := Aside0.mk (hbox); have GW611 := Aside0.mk ((by rw [hg]; exact (below_size (zB HB)) : w.heap.size ≤ gb611)); have GE611 := Aside0.mk ((by rw [hg]; exact (below_size (zB HB)) : w.heap.size ≤ gb611)); replace HB := Aside0.mk (below_step (zB HB) hb); clear hb hbox hg))
 go_loopg [5, 6, 7] k (fun kq v5 v6 v7 w' => ∃ (x5_1 : List (S66)) (x6_1 : Bool) (x7_1 : Int) (x612000_1 : Bool) (x612001_1 : Int) (x612002_1 : Int) (x612003_1 : Bool) (x612004_1 : Int) (x612005_1 : Int), v6 = .bool x6_1 ∧ v7 = .int .i64 x7_1 ∧ Aside0 (intrusionref07_add.l0 kq l0 x5_1 x6_1 x7_1 x612000_1 x612001_1 x612002_1 x612003_1 x612004_1 x612005_1 = some r) ∧ Aside0 (kq ≤ k) ∧ Aside0 (Kd.R k66 66 w' w.heap.size (fun k_ => k_ ≠ gb611) v5 x5_1) ∧ Aside0 (w'.heap[gb611]? = some (.cells #[.bool x612000_1, .int .u64 x612001_1, .int .u64 x612002_1, .bool x612003_1, .int .u64 x612004_1, .int .u64 x612005_1] 66 (0, 0))) ∧ Aside0 (Below w.heap.size w w'))
 case atStart => exact ⟨(([] : List (S66))), (false), (0), (a1_0), (a1_1), (a1_2), (a1_3), (a1_4), (a1_5), (by first | rfl | (simp; done) | (simp [*]; done)), (by first | rfl | (simp; done) | (simp [*]; done)), H', ⟨Nat.le_refl _⟩, ⟨by first | exact Kd.R_nil _ _ _ _ _ | exact Kd.N_nil _ _ _ _ _ | exact Kd.V_nil _ _ _ _ _ | exact Kd.Q_nil _ _ _ _ _ | exact Kd.S_nil _ _ _ _ _⟩, ⟨zK BK611⟩, ⟨zB HB⟩⟩
 case round =>
  clear H'
  try clear p2
  obtain ⟨x5_1, x6_1, x7_1, x612000_1, x612001_1, x612002_1, x612003_1, x612004_1, x612005_1, rfl, rfl, HA, HK1, HO_5, BK611, HB⟩ := hrel
  cases gk with
  | zero => exact absurd HA.out (by simp [intrusionref07_add.l0])
  | succ k1 =>
   have H := HA.out
   clear HA
   simp only [intrusionref07_add.l0] at H
   by_cases c4 : x7_1 < (l0.length : Int)
   · rw [if_pos c4] at H
     have c4b0 : decide (x7_1 < (l0.length : Int)) = true := decide_eq_true c4
     clear c4
     by_cases c5 : 0 ≤ x7_1
     · rw [if_pos c5] at H
       have c5b0 : decide (0 ≤ x7_1) = true := decide_eq_true c5
       clear c5
       have HC6 := Aside0.mk H
       clear H
       have p615 : 0 ≤ (x7_1 : Int) := za
       have q615 : x7_1 < (l0.length : Int) := za
       obtain ⟨ad615, e615, hx615_0, hx615_1, hx615_2, hx615_3, hx615_4, hx615_5⟩ := at_T66 HR0.out x7_1 p615 q615
       cases e615
       replace hx615_0 := zh HB hx615_0
       replace hx615_1 := zh HB hx615_1
       replace hx615_2 := zh HB hx615_2
       replace hx615_3 := zh HB hx615_3
       replace hx615_4 := zh HB hx615_4
       replace hx615_5 := zh HB hx615_5
       replace p615 := eq_true p615
       replace q615 := eq_true q615
       go_upto_region 7 with (first | ((with_reducible refine gate_dst (N := 8) rfl ?_); refine zx 8 #[.bool false, .int .u64 0, .int .u64 0, .bool false, .int .u64 0, .int .u64 0] 66 ?_; intro gb616 hg w7 hbox hb; replace HO_5 := Aside0.mk (Kd.R_below (Kd.R_elderB (zR HO_5) gb616 (Nat.le_of_eq hg.symm)) hb); have BK616 := Aside0.mk (hbox); have GW616 := Aside0.mk ((by rw [hg]; exact (below_size (zB HB)) : w.heap.size ≤ gb616)); have GE616 := Aside0.mk ((by rw [hg]; exact (below_size (zB HB)) : w.heap.size ≤ gb616)); replace HB := Aside0.mk (below_step (zB HB) hb); have NB611_616 := Aside0.mk ((by rw [hg]; exact Nat.ne_of_lt (blk_lt (g := gb611) (o := .cells #[.bool x612000_1, .int .u64 x612001_1, .int .u64 x612002_1, .bool x612003_1, .int .u64 x612004_1, .int .u64 x612005_1] 66 (0, 0)) (zK BK611)) : gb611 ≠ gb616)); have NB616_611 := Aside0.mk ((by rw [hg]; exact Nat.ne_of_gt (blk_lt (g := gb611) (o := .cells #[.bool x612000_1, .int .u64 x612001_1, .int .u64 x612002_1, .bool x612003_1, .int .u64 x612004_1, .int .u64 x612005_1] 66 (0, 0)) (zK BK611)) : gb616 ≠ gb611)); replace BK611 := Aside0.mk (blk_below (g := gb611) (o := .cells #[.bool x612000_1, .int .u64 x612001_1, .int .u64 x612002_1, .bool x612003_1, .int .u64 x612004_1, .int .u64 x612005_1] 66 (0, 0)) (zK BK611) hb); clear hb hbox hg; have hnb8 := NB616_611.out; have hnc8 := NB611_616.out; obtain ⟨hcz9_0, hcz9_1, hcz9_2, hcz9_3, hcz9_4, hcz9_5⟩ := zc6 BK616; obtain ⟨hfz9_0, hfz9_1, hfz9_2, hfz9_3, hfz9_4, hfz9_5⟩ := zf6 BK616))
       (try simp only [Act.put, List.setIfInBounds_toArray, List.set_cons_zero, List.set_cons_succ])
       go_cut [32] (fun v32 wc => ∃ (kq : Nat) (x32_5 : Bool), v32 = .bool x32_5 ∧ Aside0 (intrusionref07_add.j1 kq l0 x5_1 x6_1 x7_1 x32_5 x612000_1 x612001_1 x612002_1 x612003_1 x612004_1 x612005_1 ((rd_T66 l0 x7_1).f0.f0) ((rd_T66 l0 x7_1).f0.f1) ((rd_T66 l0 x7_1).f0.f2) ((rd_T66 l0 x7_1).f1.f0) ((rd_T66 l0 x7_1).f1.f1) ((rd_T66 l0 x7_1).f1.f2) = some r) ∧ Aside0 (kq ≤ k1) ∧ Aside0 (Kd.R k66 66 wc w.heap.size (fun k_ => k_ ≠ gb611 ∧ k_ ≠ gb616) u5 x5_1) ∧ Aside0 (wc.heap[gb611]? = some (.cells #[.bool x612000_1, .int .u64 x612001_1, .int .u64 x612002_1, .bool x612003_1, .int .u64 x612004_1, .int .u64 x612005_1] 66 (0, 0))) ∧ Aside0 (wc.heap[gb616]? = some (.cells #[.bool ((rd_T66 l0 x7_1).f0.f0), .int .u64 ((rd_T66 l0 x7_1).f0.f1), .int .u64 ((rd_T66 l0 x7_1).f0.f2), .bool ((rd_T66 l0 x7_1).f1.f0), .int .u64 ((rd_T66 l0 x7_1).f1.f1), .int .u64 ((rd_T66 l0 x7_1).f1.f2)] 66 (0, 0))) ∧ Aside0 (Below w.heap.size w wc))
       case first =>
        have H := HC6.out
        clear HC6
        by_cases c10 : x6_1 = true
        · subst c10
          rw [if_pos rfl] at H
          have H' := Aside0.mk H
          clear H
          go_wp2
          go_meet
          case rel => exact ⟨_, (true), (by first | rfl | (simp; done) | (simp [*]; done)), H', ⟨by have := HK1.out; first | omega | exact Nat.le_refl _⟩, ⟨by (with_reducible repeat (first | apply Kd.R_alloc | apply Kd.R_drewN | apply Kd.R_drew)); exact Kd.R_mono (Kd.R_far (p := ⟨gb616, 5, none⟩) (Kd.R_far (p := ⟨gb616, 4, none⟩) (Kd.R_far (p := ⟨gb616, 3, none⟩) (Kd.R_far (p := ⟨gb616, 2, none⟩) (Kd.R_far (p := ⟨gb616, 1, none⟩) (Kd.R_far (p := ⟨gb616, 0, none⟩) (Kd.R_mono HO_5.out (fun k_ hk => (⟨hk, hk.2⟩ : _ ∧ k_ ≠ gb616))) (fun _ hk => hk.2) (.bool ((rd_T66 l0 x7_1).f0.f0))) (fun _ hk => hk.2) (.int .u64 ((rd_T66 l0 x7_1).f0.f1))) (fun _ hk => hk.2) (.int .u64 ((rd_T66 l0 x7_1).f0.f2))) (fun _ hk => hk.2) (.bool ((rd_T66 l0 x7_1).f1.f0))) (fun _ hk => hk.2) (.int .u64 ((rd_T66 l0 x7_1).f1.f1))) (fun _ hk => hk.2) (.int .u64 ((rd_T66 l0 x7_1).f1.f2))) (fun _ hk => ⟨hk.1.1, hk.1.2⟩)⟩, ⟨by refine zL ?_; refine blk_far ?_ NB611_616.out _; refine zL ?_; refine blk_far ?_ NB611_616.out _; refine zL ?_; refine blk_far ?_ NB611_616.out _; refine zL ?_; refine blk_far ?_ NB611_616.out _; refine zL ?_; refine blk_far ?_ NB611_616.out _; refine zL ?_; refine blk_far ?_ NB611_616.out _; refine zL ?_; exact BK611.out⟩, ⟨by refine zL ?_; refine blk_put (cs := #[.bool ((rd_T66 l0 x7_1).f0.f0), .int .u64 ((rd_T66 l0 x7_1).f0.f1), .int .u64 ((rd_T66 l0 x7_1).f0.f2), .bool ((rd_T66 l0 x7_1).f1.f0), .int .u64 ((rd_T66 l0 x7_1).f1.f1), .int .u64 0]) ?_ 5 _ rfl; refine zL ?_; refine blk_put (cs := #[.bool ((rd_T66 l0 x7_1).f0.f0), .int .u64 ((rd_T66 l0 x7_1).f0.f1), .int .u64 ((rd_T66 l0 x7_1).f0.f2), .bool ((rd_T66 l0 x7_1).f1.f0), .int .u64 0, .int .u64 0]) ?_ 4 _ rfl; refine zL ?_; refine blk_put (cs := #[.bool ((rd_T66 l0 x7_1).f0.f0), .int .u64 ((rd_T66 l0 x7_1).f0.f1), .int .u64 ((rd_T66 l0 x7_1).f0.f2), .bool false, .int .u64 0, .int .u64 0]) ?_ 3 _ rfl; refine zL ?_; refine blk_put (cs := #[.bool ((rd_T66 l0 x7_1).f0.f0), .int .u64 ((rd_T66 l0 x7_1).f0.f1), .int .u64 0, .bool false, .int .u64 0, .int .u64 0]) ?_ 2 _ rfl; refine zL ?_; refine blk_put (cs := #[.bool ((rd_T66 l0 x7_1).f0.f0), .int .u64 0, .int .u64 0, .bool false, .int .u64 0, .int .u64 0]) ?_ 1 _ rfl; refine zL ?_; refine blk_put (cs := #[.bool false, .int .u64 0, .int .u64 0, .bool false, .int .u64 0, .int .u64 0]) ?_ 0 _ rfl; refine zL ?_; exact BK616.out⟩, ⟨zB HB⟩⟩
        · replace c10 := Bool.eq_false_iff.mpr c10
          subst c10
          rw [if_neg zF] at H
          replace H := Option.bind_eq_some_iff.mp H
          obtain ⟨t617, A110, H⟩ := H
          try dsimp only at H
          have A11 := Aside0.mk A110
          clear A110
          by_cases c12 : t617 = true
          · subst c12
            rw [if_pos rfl] at H
            replace H := Option.bind_eq_some_iff.mp H
            obtain ⟨t618, A130, H⟩ := H
            try dsimp only at H
            have A13 := Aside0.mk A130
            clear A130
            have H' := Aside0.mk H
            clear H
            have hnb14 := NB616_611.out
            have hnc14 := NB611_616.out
            obtain ⟨hcz15_0, hcz15_1, hcz15_2, hcz15_3, hcz15_4, hcz15_5⟩ := zc6 BK616
            obtain ⟨hfz15_0, hfz15_1, hfz15_2, hfz15_3, hfz15_4, hfz15_5⟩ := zf6 BK616
            obtain ⟨hcz16_0, hcz16_1, hcz16_2, hcz16_3, hcz16_4, hcz16_5⟩ := zc6 BK611
            obtain ⟨hfz16_0, hfz16_1, hfz16_2, hfz16_3, hfz16_4, hfz16_5⟩ := zf6 BK611
            go_wp2_with (first | (go_at_call 80; (with_reducible refine (intrusionref07_Before.calls ((rd_T66 l0 x7_1).f1.f0) ((rd_T66 l0 x7_1).f1.f1) ((rd_T66 l0 x7_1).f1.f2) x612000_1 x612001_1 x612002_1 true _ A11.out).mono ?_); rintro e w17 ⟨rfl, hb⟩; replace HO_5 := Aside0.mk (Kd.R_below (zQ (Kd.R_mono (Kd.R_far (p := ⟨gb616, 5, none⟩) (Kd.R_far (p := ⟨gb616, 4, none⟩) (Kd.R_far (p := ⟨gb616, 3, none⟩) (Kd.R_far (p := ⟨gb616, 2, none⟩) (Kd.R_far (p := ⟨gb616, 1, none⟩) (Kd.R_far (p := ⟨gb616, 0, none⟩) (Kd.R_mono HO_5.out (fun k_ hk => (⟨hk, hk.2⟩ : _ ∧ k_ ≠ gb616))) (fun _ hk => hk.2) (.bool ((rd_T66 l0 x7_1).f0.f0))) (fun _ hk => hk.2) (.int .u64 ((rd_T66 l0 x7_1).f0.f1))) (fun _ hk => hk.2) (.int .u64 ((rd_T66 l0 x7_1).f0.f2))) (fun _ hk => hk.2) (.bool ((rd_T66 l0 x7_1).f1.f0))) (fun _ hk => hk.2) (.int .u64 ((rd_T66 l0 x7_1).f1.f1))) (fun _ hk => hk.2) (.int .u64 ((rd_T66 l0 x7_1).f1.f2))) (fun _ h_ => h_.1))) hb); replace BK611 := Aside0.mk (blk_below (g := gb611) (o := .cells #[.bool x612000_1, .int .u64 x612001_1, .int .u64 x612002_1, .bool x612003_1, .int .u64 x612004_1, .int .u64 x612005_1] 66 (0, 0)) (by refine zL ?_; refine blk_far ?_ NB611_616.out _; refine zL ?_; refine blk_far ?_ NB611_616.out _; refine zL ?_; refine blk_far ?_ NB611_616.out _; refine zL ?_; refine blk_far ?_ NB611_616.out _; refine zL ?_; refine blk_far ?_ NB611_616.out _; refine zL ?_; refine blk_far ?_ NB611_616.out _; refine zL ?_; exact BK611.out) hb); replace BK616 := Aside0.mk (blk_below (g := gb616) (o := .cells #[.bool ((rd_T66 l0 x7_1).f0.f0), .int .u64 ((rd_T66 l0 x7_1).f0.f1), .int .u64 ((rd_T66 l0 x7_1).f0.f2), .bool ((rd_T66 l0 x7_1).f1.f0), .int .u64 ((rd_T66 l0 x7_1).f1.f1), .int .u64 ((rd_T66 l0 x7_1).f1.f2)] 66 (0, 0)) (by refine zL ?_; refine blk_put (cs := #[.bool ((rd_T66 l0 x7_1).f0.f0), .int .u64 ((rd_T66 l0 x7_1).f0.f1), .int .u64 ((rd_T66 l0 x7_1).f0.f2), .bool ((rd_T66 l0 x7_1).f1.f0), .int .u64 ((rd_T66 l0 x7_1).f1.f1), .int .u64 0]) ?_ 5 _ rfl; refine zL ?_; refine blk_put (cs := #[.bool ((rd_T66 l0 x7_1).f0.f0), .int .u64 ((rd_T66 l0 x7_1).f0.f1), .int .u64 ((rd_T66 l0 x7_1).f0.f2), .bool ((rd_T66 l0 x7_1).f1.f0), .int .u64 0, .int .u64 0]) ?_ 4 _ rfl; refine zL ?_; refine blk_put (cs := #[.bool ((rd_T66 l0 x7_1).f0.f0), .int .u64 ((rd_T66 l0 x7_1).f0.f1), .int .u64 ((rd_T66 l0 x7_1).f0.f2), .bool false, .int .u64 0, .int .u64 0]) ?_ 3 _ rfl; refine zL ?_; refine blk_put (cs := #[.bool ((rd_T66 l0 x7_1).f0.f0), .int .u64 ((rd_T66 l0 x7_1).f0.f1), .int .u64 0, .bool false, .int .u64 0, .int .u64 0]) ?_ 2 _ rfl; refine zL ?_; refine blk_put (cs := #[.bool ((rd_T66 l0 x7_1).f0.f0), .int .u64 0, .int .u64 0, .bool false, .int .u64 0, .int .u64 0]) ?_ 1 _ rfl; refine zL ?_; refine blk_put (cs := #[.bool false, .int .u64 0, .int .u64 0, .bool false, .int .u64 0, .int .u64 0]) ?_ 0 _ rfl; refine zL ?_; exact BK616.out) hb); replace HB := Aside0.mk (below_step (zB HB) hb); (try clear hb); obtain ⟨hcz18_0, hcz18_1, hcz18_2, hcz18_3, hcz18_4, hcz18_5⟩ := zc6 BK616; obtain ⟨hfz18_0, hfz18_1, hfz18_2, hfz18_3, hfz18_4, hfz18_5⟩ := zf6 BK616; obtain ⟨hcz19_0, hcz19_1, hcz19_2, hcz19_3, hcz19_4, hcz19_5⟩ := zc6 BK611; obtain ⟨hfz19_0, hfz19_1, hfz19_2, hfz19_3, hfz19_4, hfz19_5⟩ := zf6 BK611) | (go_at_call 81; (with_reducible refine (intrusionref07_joined.calls ((rd_T66 l0 x7_1).f0.f0) ((rd_T66 l0 x7_1).f0.f1) ((rd_T66 l0 x7_1).f0.f2) ((rd_T66 l0 x7_1).f1.f0) ((rd_T66 l0 x7_1).f1.f1) ((rd_T66 l0 x7_1).f1.f2) x612000_1 x612001_1 x612002_1 x612003_1 x612004_1 x612005_1 t618 _ A13.out).mono ?_); rintro e w20 ⟨rfl, hb⟩; replace HO_5 := Aside0.mk (Kd.R_below (zR HO_5) hb); replace BK611 := Aside0.mk (blk_below (g := gb611) (o := .cells #[.bool x612000_1, .int .u64 x612001_1, .int .u64 x612002_1, .bool x612003_1, .int .u64 x612004_1, .int .u64 x612005_1] 66 (0, 0)) (zK BK611) hb); replace BK616 := Aside0.mk (blk_below (g := gb616) (o := .cells #[.bool ((rd_T66 l0 x7_1).f0.f0), .int .u64 ((rd_T66 l0 x7_1).f0.f1), .int .u64 ((rd_T66 l0 x7_1).f0.f2), .bool ((rd_T66 l0 x7_1).f1.f0), .int .u64 ((rd_T66 l0 x7_1).f1.f1), .int .u64 ((rd_T66 l0 x7_1).f1.f2)] 66 (0, 0)) (zK BK616) hb); replace HB := Aside0.mk (below_step (zB HB) hb); (try clear hb)))
            go_meet
            case rel => exact ⟨_, (!t618), (by first | rfl | (simp; done) | (simp [*]; done)), H', ⟨by have := HK1.out; first | omega | exact Nat.le_refl _⟩, ⟨zR HO_5⟩, ⟨zK BK611⟩, ⟨zK BK616⟩, ⟨zB HB⟩⟩
          · replace c12 := Bool.eq_false_iff.mpr c12
            subst c12
            rw [if_neg zF] at H
            have H' := Aside0.mk H
            clear H
            have hnb21 := NB616_611.out
            have hnc21 := NB611_616.out
            obtain ⟨hcz22_0, hcz22_1, hcz22_2, hcz22_3, hcz22_4, hcz22_5⟩ := zc6 BK616
            obtain ⟨hfz22_0, hfz22_1, hfz22_2, hfz22_3, hfz22_4, hfz22_5⟩ := zf6 BK616
            obtain ⟨hcz23_0, hcz23_1, hcz23_2, hcz23_3, hcz23_4, hcz23_5⟩ := zc6 BK611
            obtain ⟨hfz23_0, hfz23_1, hfz23_2, hfz23_3, hfz23_4, hfz23_5⟩ := zf6 BK611
            go_wp2_with (first | (go_at_call 80; (with_reducible refine (intrusionref07_Before.calls ((rd_T66 l0 x7_1).f1.f0) ((rd_T66 l0 x7_1).f1.f1) ((rd_T66 l0 x7_1).f1.f2) x612000_1 x612001_1 x612002_1 false _ A11.out).mono ?_); rintro e w24 ⟨rfl, hb⟩; replace HO_5 := Aside0.mk (Kd.R_below (zQ (Kd.R_mono (Kd.R_far (p := ⟨gb616, 5, none⟩) (Kd.R_far (p := ⟨gb616, 4, none⟩) (Kd.R_far (p := ⟨gb616, 3, none⟩) (Kd.R_far (p := ⟨gb616, 2, none⟩) (Kd.R_far (p := ⟨gb616, 1, none⟩) (Kd.R_far (p := ⟨gb616, 0, none⟩) (Kd.R_mono HO_5.out (fun k_ hk => (⟨hk, hk.2⟩ : _ ∧ k_ ≠ gb616))) (fun _ hk => hk.2) (.bool ((rd_T66 l0 x7_1).f0.f0))) (fun _ hk => hk.2) (.int .u64 ((rd_T66 l0 x7_1).f0.f1))) (fun _ hk => hk.2) (.int .u64 ((rd_T66 l0 x7_1).f0.f2))) (fun _ hk => hk.2) (.bool ((rd_T66 l0 x7_1).f1.f0))) (fun _ hk => hk.2) (.int .u64 ((rd_T66 l0 x7_1).f1.f1))) (fun _ hk => hk.2) (.int .u64 ((rd_T66 l0 x7_1).f1.f2))) (fun _ h_ => h_.1))) hb); replace BK611 := Aside0.mk (blk_below (g := gb611) (o := .cells #[.bool x612000_1, .int .u64 x612001_1, .int .u64 x612002_1, .bool x612003_1, .int .u64 x612004_1, .int .u64 x612005_1] 66 (0, 0)) (by refine zL ?_; refine blk_far ?_ NB611_616.out _; refine zL ?_; refine blk_far ?_ NB611_616.out _; refine zL ?_; refine blk_far ?_ NB611_616.out _; refine zL ?_; refine blk_far ?_ NB611_616.out _; refine zL ?_; refine blk_far ?_ NB611_616.out _; refine zL ?_; refine blk_far ?_ NB611_616.out _; refine zL ?_; exact BK611.out) hb); replace BK616 := Aside0.mk (blk_below (g := gb616) (o := .cells #[.bool ((rd_T66 l0 x7_1).f0.f0), .int .u64 ((rd_T66 l0 x7_1).f0.f1), .int .u64 ((rd_T66 l0 x7_1).f0.f2), .bool ((rd_T66 l0 x7_1).f1.f0), .int .u64 ((rd_T66 l0 x7_1).f1.f1), .int .u64 ((rd_T66 l0 x7_1).f1.f2)] 66 (0, 0)) (by refine zL ?_; refine blk_put (cs := #[.bool ((rd_T66 l0 x7_1).f0.f0), .int .u64 ((rd_T66 l0 x7_1).f0.f1), .int .u64 ((rd_T66 l0 x7_1).f0.f2), .bool ((rd_T66 l0 x7_1).f1.f0), .int .u64 ((rd_T66 l0 x7_1).f1.f1), .int .u64 0]) ?_ 5 _ rfl; refine zL ?_; refine blk_put (cs := #[.bool ((rd_T66 l0 x7_1).f0.f0), .int .u64 ((rd_T66 l0 x7_1).f0.f1), .int .u64 ((rd_T66 l0 x7_1).f0.f2), .bool ((rd_T66 l0 x7_1).f1.f0), .int .u64 0, .int .u64 0]) ?_ 4 _ rfl; refine zL ?_; refine blk_put (cs := #[.bool ((rd_T66 l0 x7_1).f0.f0), .int .u64 ((rd_T66 l0 x7_1).f0.f1), .int .u64 ((rd_T66 l0 x7_1).f0.f2), .bool false, .int .u64 0, .int .u64 0]) ?_ 3 _ rfl; refine zL ?_; refine blk_put (cs := #[.bool ((rd_T66 l0 x7_1).f0.f0), .int .u64 ((rd_T66 l0 x7_1).f0.f1), .int .u64 0, .bool false, .int .u64 0, .int .u64 0]) ?_ 2 _ rfl; refine zL ?_; refine blk_put (cs := #[.bool ((rd_T66 l0 x7_1).f0.f0), .int .u64 0, .int .u64 0, .bool false, .int .u64 0, .int .u64 0]) ?_ 1 _ rfl; refine zL ?_; refine blk_put (cs := #[.bool false, .int .u64 0, .int .u64 0, .bool false, .int .u64 0, .int .u64 0]) ?_ 0 _ rfl; refine zL ?_; exact BK616.out) hb); replace HB := Aside0.mk (below_step (zB HB) hb); (try clear hb)))
            go_meet
            case rel => exact ⟨_, (false), (by first | rfl | (simp; done) | (simp [*]; done)), H', ⟨by have := HK1.out; first | omega | exact Nat.le_refl _⟩, ⟨zR HO_5⟩, ⟨zK BK611⟩, ⟨zK BK616⟩, ⟨zB HB⟩⟩
       case rest =>
        clear HC6
        try clear c1
        try clear c2
        try clear p2
        try clear c4
        try clear c4b0
        try clear c5
        try clear c5b0
        try clear p6
        try clear q6
        try clear hx6
        try clear c7
        try clear c8
        try clear c10
        try clear c12
        try clear c14
        try clear c21
        try clear hcz15_0
        try clear hcz15_1
        try clear hcz15_2
        try clear hcz15_3
        try clear hcz15_4
        try clear hcz15_5
        try clear hcz16_0
        try clear hcz16_1
        try clear hcz16_2
        try clear hcz16_3
        try clear hcz16_4
        try clear hcz16_5
        try clear hcz18_0
        try clear hcz18_1
        try clear hcz18_2
        try clear hcz18_3
        try clear hcz18_4
        try clear hcz18_5
        try clear hcz19_0
        try clear hcz19_1
        try clear hcz19_2
        try clear hcz19_3
        try clear hcz19_4
        try clear hcz19_5
        try clear hcz22_0
        try clear hcz22_1
        try clear hcz22_2
        try clear hcz22_3
        try clear hcz22_4
        try clear hcz22_5
        try clear hcz23_0
        try clear hcz23_1
        try clear hcz23_2
        try clear hcz23_3
        try clear hcz23_4
        try clear hcz23_5
        try clear hcz9_0
        try clear hcz9_1
        try clear hcz9_2
        try clear hcz9_3
        try clear hcz9_4
        try clear hcz9_5
        try clear hfz15_0
        try clear hfz15_1
        try clear hfz15_2
        try clear hfz15_3
        try clear hfz15_4
        try clear hfz15_5
        try clear hfz16_0
        try clear hfz16_1
        try clear hfz16_2
        try clear hfz16_3
        try clear hfz16_4
        try clear hfz16_5
        try clear hfz18_0
        try clear hfz18_1
        try clear hfz18_2
        try clear hfz18_3
        try clear hfz18_4
        try clear hfz18_5
        try clear hfz19_0
        try clear hfz19_1
        try clear hfz19_2
        try clear hfz19_3
        try clear hfz19_4
        try clear hfz19_5
        try clear hfz22_0
        try clear hfz22_1
        try clear hfz22_2
        try clear hfz22_3
        try clear hfz22_4
        try clear hfz22_5
        try clear hfz23_0
        try clear hfz23_1
        try clear hfz23_2
        try clear hfz23_3
        try clear hfz23_4
        try clear hfz23_5
        try clear hfz9_0
        try clear hfz9_1
        try clear hfz9_2
        try clear hfz9_3
        try clear hfz9_4
        try clear hfz9_5
        try clear hx615_0
        try clear hx615_1
        try clear hx615_2
        try clear hx615_3
        try clear hx615_4
        try clear hx615_5
        try clear p2
        try clear p615
        try clear q615
        obtain ⟨kq, x32_5, rfl, HA, HJ5, HO_5, BK611, BK616, HB⟩ := hcut
        cases kq with
        | zero => exact absurd HA.out (by simp [intrusionref07_add.j1])
        | succ kj5 =>
         have H := HA.out
         clear HA
         simp only [intrusionref07_add.j1] at H
         by_cases c25 : x32_5 = true
         · subst c25
           rw [if_pos rfl] at H
           by_cases c26 : x5_1.length < 2932031007402
           · rw [if_pos c26] at H
             have LMc26 := Aside0.mk c26
             clear c26
             obtain ⟨y619, hy619⟩ : ∃ y_ : List (S66), y_ = (x5_1 ++ [(⟨(⟨((rd_T66 l0 x7_1).f0.f0), ((rd_T66 l0 x7_1).f0.f1), ((rd_T66 l0 x7_1).f0.f2)⟩ : S36), (⟨((rd_T66 l0 x7_1).f1.f0), ((rd_T66 l0 x7_1).f1.f1), ((rd_T66 l0 x7_1).f1.f2)⟩ : S36)⟩ : S66)]) := ⟨_, rfl⟩
             rw [← hy619] at H; try dsimp only [Option.bind_some] at H
             have Ny619 := Aside0.mk hy619
             clear hy619
             have H' := Aside0.mk H
             clear H
             have hnb27 := NB616_611.out
             have hnc27 := NB611_616.out
             obtain ⟨hcz28_0, hcz28_1, hcz28_2, hcz28_3, hcz28_4, hcz28_5⟩ := zc6 BK616
             obtain ⟨hfz28_0, hfz28_1, hfz28_2, hfz28_3, hfz28_4, hfz28_5⟩ := zf6 BK616
             go_wp2_with (first | ((with_reducible refine gate_builtin (b := .append) (xs := #[.tmp 33, .tmp 35]) rfl ?_); at_builtin; refine Kd.R_append k66 (w0 := w) w.heap.size rfl (.tmp 33) (.tmp 35) 33 66 (.agg #[(.bool false), (.int .u64 0), (.int .u64 0), (.bool false), (.int .u64 0), (.int .u64 0)]) 48 rfl Try.underlying33 info66 rfl (by decide) (by omega) u5 x5_1 (⟨(⟨((rd_T66 l0 x7_1).f0.f0), ((rd_T66 l0 x7_1).f0.f1), ((rd_T66 l0 x7_1).f0.f2)⟩ : S36), (⟨((rd_T66 l0 x7_1).f1.f0), ((rd_T66 l0 x7_1).f1.f1), ((rd_T66 l0 x7_1).f1.f2)⟩ : S36)⟩ : S66) [.bool ((rd_T66 l0 x7_1).f0.f0), .int .u64 ((rd_T66 l0 x7_1).f0.f1), .int .u64 ((rd_T66 l0 x7_1).f0.f2), .bool ((rd_T66 l0 x7_1).f1.f0), .int .u64 ((rd_T66 l0 x7_1).f1.f1), .int .u64 ((rd_T66 l0 x7_1).f1.f2)] (fun k_ => k_ ≠ gb611 ∧ k_ ≠ gb616) (fun _ => False) rfl rfl ?aP (fun _ hk => hk.elim) ?aF ?aO ?aB ?aS ?aL ?_; (case aP => exact k66_mkM _ _ _ (⟨(⟨((rd_T66 l0 x7_1).f0.f0), ((rd_T66 l0 x7_1).f0.f1), ((rd_T66 l0 x7_1).f0.f2)⟩ : S36), (⟨((rd_T66 l0 x7_1).f1.f0), ((rd_T66 l0 x7_1).f1.f1), ((rd_T66 l0 x7_1).f1.f2)⟩ : S36)⟩ : S66)); (case aB => exact (zB HB)); (case aF => exact (fun k_ hk => ⟨Kd.freshB (g := gb611) (o := .cells #[.bool x612000_1, .int .u64 x612001_1, .int .u64 x612002_1, .bool x612003_1, .int .u64 x612004_1, .int .u64 x612005_1] 66 (0, 0)) (zK BK611) k_ hk, Kd.freshB (g := gb616) (o := .cells #[.bool ((rd_T66 l0 x7_1).f0.f0), .int .u64 ((rd_T66 l0 x7_1).f0.f1), .int .u64 ((rd_T66 l0 x7_1).f0.f2), .bool ((rd_T66 l0 x7_1).f1.f0), .int .u64 ((rd_T66 l0 x7_1).f1.f1), .int .u64 ((rd_T66 l0 x7_1).f1.f2)] 66 (0, 0)) (zK BK616) k_ hk⟩)); (case aO => exact (zR HO_5)); (case aS => exact (below_size (zB HB))); (case aL => have := LMc26.out; omega); intro v620 w29 ho hb hg hat; rw [← Ny619.out] at ho; replace BK611 := Aside0.mk (blk_grown (g := gb611) (o := .cells #[.bool x612000_1, .int .u64 x612001_1, .int .u64 x612002_1, .bool x612003_1, .int .u64 x612004_1, .int .u64 x612005_1] 66 (0, 0)) (zK BK611) hg (Kd.R_away HO_5.out (fun _ hk => hk.1))); replace BK616 := Aside0.mk (blk_grown (g := gb616) (o := .cells #[.bool ((rd_T66 l0 x7_1).f0.f0), .int .u64 ((rd_T66 l0 x7_1).f0.f1), .int .u64 ((rd_T66 l0 x7_1).f0.f2), .bool ((rd_T66 l0 x7_1).f1.f0), .int .u64 ((rd_T66 l0 x7_1).f1.f1), .int .u64 ((rd_T66 l0 x7_1).f1.f2)] 66 (0, 0)) (zK BK616) hg (Kd.R_away HO_5.out (fun _ hk => hk.2))); replace HB := Aside0.mk (hb); have HO621 := Aside0.mk (ho); clear HO_5; clear ho hb hg hat))
             go_roundg kj5
             case measure => have := HK1.out; have := HJ5.out; omega
             case rel => exact ⟨(y619), (x6_1), (wrap64 (x7_1 + 1)), (x612000_1), (x612001_1), (x612002_1), (x612003_1), (x612004_1), (x612005_1), (by first | rfl | (simp; done) | (simp [*]; done)), (by first | rfl | (simp; done) | (simp [*]; done)), H', ⟨by have := HK1.out; have := HJ5.out; omega⟩, ⟨by (with_reducible repeat (first | apply Kd.R_alloc | apply Kd.R_drewN | apply Kd.R_drew)); exact Kd.R_mono HO621.out (fun _ hk => hk.1)⟩, ⟨zK BK611⟩, ⟨zB HB⟩⟩
           · rw [if_neg c26] at H
             exact absurd H (by simp)
         · replace c25 := Bool.eq_false_iff.mpr c25
           subst c25
           rw [if_neg zF] at H
           have HC30 := Aside0.mk H
           clear H
           go_upto_region 9 with (fail)
           go_cut [47] (fun v47 wc => ∃ (kq : Nat) (x47_29 : Bool), v47 = .bool x47_29 ∧ Aside0 (intrusionref07_add.j2 kq l0 x5_1 x6_1 x7_1 x47_29 x612000_1 x612001_1 x612002_1 x612003_1 x612004_1 x612005_1 ((rd_T66 l0 x7_1).f0.f0) ((rd_T66 l0 x7_1).f0.f1) ((rd_T66 l0 x7_1).f0.f2) ((rd_T66 l0 x7_1).f1.f0) ((rd_T66 l0 x7_1).f1.f1) ((rd_T66 l0 x7_1).f1.f2) = some r) ∧ Aside0 (kq ≤ kj5) ∧ Aside0 (Kd.R k66 66 wc w.heap.size (fun k_ => k_ ≠ gb611 ∧ k_ ≠ gb616) u5 x5_1) ∧ Aside0 (wc.heap[gb611]? = some (.cells #[.bool x612000_1, .int .u64 x612001_1, .int .u64 x612002_1, .bool x612003_1, .int .u64 x612004_1, .int .u64 x612005_1] 66 (0, 0))) ∧ Aside0 (wc.heap[gb616]? = some (.cells #[.bool ((rd_T66 l0 x7_1).f0.f0), .int .u64 ((rd_T66 l0 x7_1).f0.f1), .int .u64 ((rd_T66 l0 x7_1).f0.f2), .bool ((rd_T66 l0 x7_1).f1.f0), .int .u64 ((rd_T66 l0 x7_1).f1.f1), .int .u64 ((rd_T66 l0 x7_1).f1.f2)] 66 (0, 0))) ∧ Aside0 (Below w.heap.size w wc))
           case first =>
            have H := HC30.out
            clear HC30
            replace H := Option.bind_eq_some_iff.mp H
            obtain ⟨t622, A310, H⟩ := H
            try dsimp only at H
            have A31 := Aside0.mk A310
            clear A310
            by_cases c32 : t622 = true
            · subst c32
              rw [if_pos rfl] at H
              replace H := Option.bind_eq_some_iff.mp H
              obtain ⟨t623, A330, H⟩ := H
              try dsimp only at H
              have A33 := Aside0.mk A330
              clear A330
              have H' := Aside0.mk H
              clear H
              have hnb34 := NB611_616.out
              have hnc34 := NB616_611.out
              obtain ⟨hcz35_0, hcz35_1, hcz35_2, hcz35_3, hcz35_4, hcz35_5⟩ := zc6 BK611
              obtain ⟨hfz35_0, hfz35_1, hfz35_2, hfz35_3, hfz35_4, hfz35_5⟩ := zf6 BK611
              obtain ⟨hcz36_0, hcz36_1, hcz36_2, hcz36_3, hcz36_4, hcz36_5⟩ := zc6 BK616
              obtain ⟨hfz36_0, hfz36_1, hfz36_2, hfz36_3, hfz36_4, hfz36_5⟩ := zf6 BK616
              go_wp2_with (first | ((with_reducible refine gate_callee (f := 80) rfl ?_); refine goesL_ (some 41) rfl rfl Try.func80 (by kernel_rfl) rfl #[.agg #[.bool x612003_1, .int .u64 x612004_1, .int .u64 x612005_1], .agg #[.bool ((rd_T66 l0 x7_1).f0.f0), .int .u64 ((rd_T66 l0 x7_1).f0.f1), .int .u64 ((rd_T66 l0 x7_1).f0.f2)]] rfl (by (try simp only [List.map_toArray, List.map_cons, List.map_nil]); first | done | rfl | (simp only [List.length_drop, List.length_take]; rfl)) ?_; (with_reducible refine (intrusionref07_Before.calls x612003_1 x612004_1 x612005_1 ((rd_T66 l0 x7_1).f0.f0) ((rd_T66 l0 x7_1).f0.f1) ((rd_T66 l0 x7_1).f0.f2) true _ A31.out).mono ?_); rintro e w37 ⟨rfl, hb⟩; refine ⟨_, rfl, ?_⟩; replace HO_5 := Aside0.mk (Kd.R_below (zR HO_5) hb); replace BK611 := Aside0.mk (blk_below (g := gb611) (o := .cells #[.bool x612000_1, .int .u64 x612001_1, .int .u64 x612002_1, .bool x612003_1, .int .u64 x612004_1, .int .u64 x612005_1] 66 (0, 0)) (zK BK611) hb); replace BK616 := Aside0.mk (blk_below (g := gb616) (o := .cells #[.bool ((rd_T66 l0 x7_1).f0.f0), .int .u64 ((rd_T66 l0 x7_1).f0.f1), .int .u64 ((rd_T66 l0 x7_1).f0.f2), .bool ((rd_T66 l0 x7_1).f1.f0), .int .u64 ((rd_T66 l0 x7_1).f1.f1), .int .u64 ((rd_T66 l0 x7_1).f1.f2)] 66 (0, 0)) (zK BK616) hb); replace HB := Aside0.mk (below_step (zB HB) hb); (try clear hb); obtain ⟨hcz38_0, hcz38_1, hcz38_2, hcz38_3, hcz38_4, hcz38_5⟩ := zc6 BK611; obtain ⟨hfz38_0, hfz38_1, hfz38_2, hfz38_3, hfz38_4, hfz38_5⟩ := zf6 BK611; obtain ⟨hcz39_0, hcz39_1, hcz39_2, hcz39_3, hcz39_4, hcz39_5⟩ := zc6 BK616; obtain ⟨hfz39_0, hfz39_1, hfz39_2, hfz39_3, hfz39_4, hfz39_5⟩ := zf6 BK616) | (go_at_call 81; (with_reducible refine (intrusionref07_joined.calls x612000_1 x612001_1 x612002_1 x612003_1 x612004_1 x612005_1 ((rd_T66 l0 x7_1).f0.f0) ((rd_T66 l0 x7_1).f0.f1) ((rd_T66 l0 x7_1).f0.f2) ((rd_T66 l0 x7_1).f1.f0) ((rd_T66 l0 x7_1).f1.f1) ((rd_T66 l0 x7_1).f1.f2) t623 _ A33.out).mono ?_); rintro e w40 ⟨rfl, hb⟩; replace HO_5 := Aside0.mk (Kd.R_below (zR HO_5) hb); replace BK611 := Aside0.mk (blk_below (g := gb611) (o := .cells #[.bool x612000_1, .int .u64 x612001_1, .int .u64 x612002_1, .bool x612003_1, .int .u64 x612004_1, .int .u64 x612005_1] 66 (0, 0)) (zK BK611) hb); replace BK616 := Aside0.mk (blk_below (g := gb616) (o := .cells #[.bool ((rd_T66 l0 x7_1).f0.f0), .int .u64 ((rd_T66 l0 x7_1).f0.f1), .int .u64 ((rd_T66 l0 x7_1).f0.f2), .bool ((rd_T66 l0 x7_1).f1.f0), .int .u64 ((rd_T66 l0 x7_1).f1.f1), .int .u64 ((rd_T66 l0 x7_1).f1.f2)] 66 (0, 0)) (zK BK616) hb); replace HB := Aside0.mk (below_step (zB HB) hb); (try clear hb)))
              go_meet
              case rel => exact ⟨_, (!t623), (by first | rfl | (simp; done) | (simp [*]; done)), H', ⟨by have := HK1.out; have := HJ5.out; first | omega | exact Nat.le_refl _⟩, ⟨zR HO_5⟩, ⟨zK BK611⟩, ⟨zK BK616⟩, ⟨zB HB⟩⟩
            · replace c32 := Bool.eq_false_iff.mpr c32
              subst c32
              rw [if_neg zF] at H
              have H' := Aside0.mk H
              clear H
              have hnb41 := NB611_616.out
              have hnc41 := NB616_611.out
              obtain ⟨hcz42_0, hcz42_1, hcz42_2, hcz42_3, hcz42_4, hcz42_5⟩ := zc6 BK611
              obtain ⟨hfz42_0, hfz42_1, hfz42_2, hfz42_3, hfz42_4, hfz42_5⟩ := zf6 BK611
              obtain ⟨hcz43_0, hcz43_1, hcz43_2, hcz43_3, hcz43_4, hcz43_5⟩ := zc6 BK616
              obtain ⟨hfz43_0, hfz43_1, hfz43_2, hfz43_3, hfz43_4, hfz43_5⟩ := zf6 BK616
              go_wp2_with (first | ((with_reducible refine gate_callee (f := 80) rfl ?_); refine goesL_ (some 41) rfl rfl Try.func80 (by kernel_rfl) rfl #[.agg #[.bool x612003_1, .int .u64 x612004_1, .int .u64 x612005_1], .agg #[.bool ((rd_T66 l0 x7_1).f0.f0), .int .u64 ((rd_T66 l0 x7_1).f0.f1), .int .u64 ((rd_T66 l0 x7_1).f0.f2)]] rfl (by (try simp only [List.map_toArray, List.map_cons, List.map_nil]); first | done | rfl | (simp only [List.length_drop, List.length_take]; rfl)) ?_; (with_reducible refine (intrusionref07_Before.calls x612003_1 x612004_1 x612005_1 ((rd_T66 l0 x7_1).f0.f0) ((rd_T66 l0 x7_1).f0.f1) ((rd_T66 l0 x7_1).f0.f2) false _ A31.out).mono ?_); rintro e w44 ⟨rfl, hb⟩; refine ⟨_, rfl, ?_⟩; replace HO_5 := Aside0.mk (Kd.R_below (zR HO_5) hb); replace BK611 := Aside0.mk (blk_below (g := gb611) (o := .cells #[.bool x612000_1, .int .u64 x612001_1, .int .u64 x612002_1, .bool x612003_1, .int .u64 x612004_1, .int .u64 x612005_1] 66 (0, 0)) (zK BK611) hb); replace BK616 := Aside0.mk (blk_below (g := gb616) (o := .cells #[.bool ((rd_T66 l0 x7_1).f0.f0), .int .u64 ((rd_T66 l0 x7_1).f0.f1), .int .u64 ((rd_T66 l0 x7_1).f0.f2), .bool ((rd_T66 l0 x7_1).f1.f0), .int .u64 ((rd_T66 l0 x7_1).f1.f1), .int .u64 ((rd_T66 l0 x7_1).f1.f2)] 66 (0, 0)) (zK BK616) hb); replace HB := Aside0.mk (below_step (zB HB) hb); (try clear hb)))
              go_meet
              case rel => exact ⟨_, (false), (by first | rfl | (simp; done) | (simp [*]; done)), H', ⟨by have := HK1.out; have := HJ5.out; first | omega | exact Nat.le_refl _⟩, ⟨zR HO_5⟩, ⟨zK BK611⟩, ⟨zK BK616⟩, ⟨zB HB⟩⟩
           case rest =>
            clear HC30
            try clear c1
            try clear c2
            try clear p2
            try clear c3
            try clear c4
            try clear c4b0
            try clear c5
            try clear c5b0
            try clear p6
            try clear q6
            try clear hx6
            try clear c7
            try clear c8
            try clear c10
            try clear c12
            try clear c14
            try clear c21
            try clear c25
            try clear c26
            try clear c27
            try clear c32
            try clear c34
            try clear c41
            try clear hcz15_0
            try clear hcz15_1
            try clear hcz15_2
            try clear hcz15_3
            try clear hcz15_4
            try clear hcz15_5
            try clear hcz16_0
            try clear hcz16_1
            try clear hcz16_2
            try clear hcz16_3
            try clear hcz16_4
            try clear hcz16_5
            try clear hcz18_0
            try clear hcz18_1
            try clear hcz18_2
            try clear hcz18_3
            try clear hcz18_4
            try clear hcz18_5
            try clear hcz19_0
            try clear hcz19_1
            try clear hcz19_2
            try clear hcz19_3
            try clear hcz19_4
            try clear hcz19_5
            try clear hcz22_0
            try clear hcz22_1
            try clear hcz22_2
            try clear hcz22_3
            try clear hcz22_4
            try clear hcz22_5
            try clear hcz23_0
            try clear hcz23_1
            try clear hcz23_2
            try clear hcz23_3
            try clear hcz23_4
            try clear hcz23_5
            try clear hcz28_0
            try clear hcz28_1
            try clear hcz28_2
            try clear hcz28_3
            try clear hcz28_4
            try clear hcz28_5
            try clear hcz35_0
            try clear hcz35_1
            try clear hcz35_2
            try clear hcz35_3
            try clear hcz35_4
            try clear hcz35_5
            try clear hcz36_0
            try clear hcz36_1
            try clear hcz36_2
            try clear hcz36_3
            try clear hcz36_4
            try clear hcz36_5
            try clear hcz38_0
            try clear hcz38_1
            try clear hcz38_2
            try clear hcz38_3
            try clear hcz38_4
            try clear hcz38_5
            try clear hcz39_0
            try clear hcz39_1
            try clear hcz39_2
            try clear hcz39_3
            try clear hcz39_4
            try clear hcz39_5
            try clear hcz42_0
            try clear hcz42_1
            try clear hcz42_2
            try clear hcz42_3
            try clear hcz42_4
            try clear hcz42_5
            try clear hcz43_0
            try clear hcz43_1
            try clear hcz43_2
            try clear hcz43_3
            try clear hcz43_4
            try clear hcz43_5
            try clear hcz9_0
            try clear hcz9_1
            try clear hcz9_2
            try clear hcz9_3
            try clear hcz9_4
            try clear hcz9_5
            try clear hfz15_0
            try clear hfz15_1
            try clear hfz15_2
            try clear hfz15_3
            try clear hfz15_4
            try clear hfz15_5
            try clear hfz16_0
            try clear hfz16_1
            try clear hfz16_2
            try clear hfz16_3
            try clear hfz16_4
            try clear hfz16_5
            try clear hfz18_0
            try clear hfz18_1
            try clear hfz18_2
            try clear hfz18_3
            try clear hfz18_4
            try clear hfz18_5
            try clear hfz19_0
            try clear hfz19_1
            try clear hfz19_2
            try clear hfz19_3
            try clear hfz19_4
            try clear hfz19_5
            try clear hfz22_0
            try clear hfz22_1
            try clear hfz22_2
            try clear hfz22_3
            try clear hfz22_4
            try clear hfz22_5
            try clear hfz23_0
            try clear hfz23_1
            try clear hfz23_2
            try clear hfz23_3
            try clear hfz23_4
            try clear hfz23_5
            try clear hfz28_0
            try clear hfz28_1
            try clear hfz28_2
            try clear hfz28_3
            try clear hfz28_4
            try clear hfz28_5
            try clear hfz35_0
            try clear hfz35_1
            try clear hfz35_2
            try clear hfz35_3
            try clear hfz35_4
            try clear hfz35_5
            try clear hfz36_0
            try clear hfz36_1
            try clear hfz36_2
            try clear hfz36_3
            try clear hfz36_4
            try clear hfz36_5
            try clear hfz38_0
            try clear hfz38_1
            try clear hfz38_2
            try clear hfz38_3
            try clear hfz38_4
            try clear hfz38_5
            try clear hfz39_0
            try clear hfz39_1
            try clear hfz39_2
            try clear hfz39_3
            try clear hfz39_4
            try clear hfz39_5
            try clear hfz42_0
            try clear hfz42_1
            try clear hfz42_2
            try clear hfz42_3
            try clear hfz42_4
            try clear hfz42_5
            try clear hfz43_0
            try clear hfz43_1
            try clear hfz43_2
            try clear hfz43_3
            try clear hfz43_4
            try clear hfz43_5
            try clear hfz9_0
            try clear hfz9_1
            try clear hfz9_2
            try clear hfz9_3
            try clear hfz9_4
            try clear hfz9_5
            try clear hx615_0
            try clear hx615_1
            try clear hx615_2
            try clear hx615_3
            try clear hx615_4
            try clear hx615_5
            try clear p2
            try clear p6
            try clear p615
            try clear q6
            try clear q615
            obtain ⟨kq, x47_29, rfl, HA, HJ29, HO_5, BK611, BK616, HB⟩ := hcut
            cases kq with
            | zero => exact absurd HA.out (by simp [intrusionref07_add.j2])
            | succ kj29 =>
             have H := HA.out
             clear HA
             simp only [intrusionref07_add.j2] at H
             by_cases c45 : x47_29 = true
             · subst c45
               rw [if_pos rfl] at H
               obtain ⟨y624, hy624⟩ : ∃ y_ : List (S66), y_ = (([(⟨(⟨x612000_1, x612001_1, x612002_1⟩ : S36), (⟨x612003_1, x612004_1, x612005_1⟩ : S36)⟩ : S66), (⟨(⟨((rd_T66 l0 x7_1).f0.f0), ((rd_T66 l0 x7_1).f0.f1), ((rd_T66 l0 x7_1).f0.f2)⟩ : S36), (⟨((rd_T66 l0 x7_1).f1.f0), ((rd_T66 l0 x7_1).f1.f1), ((rd_T66 l0 x7_1).f1.f2)⟩ : S36)⟩ : S66)] : List (S66))) := ⟨_, rfl⟩
               rw [← hy624] at H; try dsimp only [Option.bind_some] at H
               have Ny624 := Aside0.mk hy624
               clear hy624
               by_cases c46 : x5_1.length + y624.length < 2932031007402
               · rw [if_pos c46] at H
                 have LMc46 := Aside0.mk c46
                 clear c46
                 obtain ⟨y627, hy627⟩ : ∃ y_ : List (S66), y_ = (x5_1 ++ y624) := ⟨_, rfl⟩
                 rw [← hy627] at H; try dsimp only [Option.bind_some] at H
                 have Ny627 := Aside0.mk hy627
                 clear hy627
                 have H' := Aside0.mk H
                 clear H
                 have hnb47 := NB611_616.out
                 have hnc47 := NB616_611.out
                 obtain ⟨hcz48_0, hcz48_1, hcz48_2, hcz48_3, hcz48_4, hcz48_5⟩ := zc6 BK611
                 obtain ⟨hfz48_0, hfz48_1, hfz48_2, hfz48_3, hfz48_4, hfz48_5⟩ := zf6 BK611
                 obtain ⟨hcz49_0, hcz49_1, hcz49_2, hcz49_3, hcz49_4, hcz49_5⟩ := zc6 BK616
                 obtain ⟨hfz49_0, hfz49_1, hfz49_2, hfz49_3, hfz49_4, hfz49_5⟩ := zf6 BK616
                 go_wp2_with (first | ((with_reducible refine gate_dst (N := 51) rfl ?_); refine Kd.R_lit k66 _ 66 ?hg (N := 51) ?hd (xs := ([(⟨(⟨x612000_1, x612001_1, x612002_1⟩ : S36), (⟨x612003_1, x612004_1, x612005_1⟩ : S36)⟩ : S66), (⟨(⟨((rd_T66 l0 x7_1).f0.f0), ((rd_T66 l0 x7_1).f0.f1), ((rd_T66 l0 x7_1).f0.f2)⟩ : S36), (⟨((rd_T66 l0 x7_1).f1.f0), ((rd_T66 l0 x7_1).f1.f1), ((rd_T66 l0 x7_1).f1.f2)⟩ : S36)⟩ : S66)] : List (S66))) (inner := [.bool x612000_1, .int .u64 x612001_1, .int .u64 x612002_1, .bool x612003_1, .int .u64 x612004_1, .int .u64 x612005_1, .bool ((rd_T66 l0 x7_1).f0.f0), .int .u64 ((rd_T66 l0 x7_1).f0.f1), .int .u64 ((rd_T66 l0 x7_1).f0.f2), .bool ((rd_T66 l0 x7_1).f1.f0), .int .u64 ((rd_T66 l0 x7_1).f1.f1), .int .u64 ((rd_T66 l0 x7_1).f1.f2)]) (ok := fun _ => True) (okp := fun _ => True) ?hr ?hp (fun _ hk => hk) trivial (Below.refl _ _) (Nat.le_refl _) (by simp) ?_; (case hd => rfl); (case hg => rfl); (case hr => first | (go_simp; done) | (go_simp; rfl)); (case hp => exact (Reps.c6 (show Kd.M k66 _ _ _ (⟨(⟨x612000_1, x612001_1, x612002_1⟩ : S36), (⟨x612003_1, x612004_1, x612005_1⟩ : S36)⟩ : S66) [.bool x612000_1, .int .u64 x612001_1, .int .u64 x612002_1, .bool x612003_1, .int .u64 x612004_1, .int .u64 x612005_1] from (k66_mkM _ _ _ (⟨(⟨x612000_1, x612001_1, x612002_1⟩ : S36), (⟨x612003_1, x612004_1, x612005_1⟩ : S36)⟩ : S66) )) (Reps.c6 (show Kd.M k66 _ _ _ (⟨(⟨((rd_T66 l0 x7_1).f0.f0), ((rd_T66 l0 x7_1).f0.f1), ((rd_T66 l0 x7_1).f0.f2)⟩ : S36), (⟨((rd_T66 l0 x7_1).f1.f0), ((rd_T66 l0 x7_1).f1.f1), ((rd_T66 l0 x7_1).f1.f2)⟩ : S36)⟩ : S66) [.bool ((rd_T66 l0 x7_1).f0.f0), .int .u64 ((rd_T66 l0 x7_1).f0.f1), .int .u64 ((rd_T66 l0 x7_1).f0.f2), .bool ((rd_T66 l0 x7_1).f1.f0), .int .u64 ((rd_T66 l0 x7_1).f1.f1), .int .u64 ((rd_T66 l0 x7_1).f1.f2)] from (k66_mkM _ _ _ (⟨(⟨((rd_T66 l0 x7_1).f0.f0), ((rd_T66 l0 x7_1).f0.f1), ((rd_T66 l0 x7_1).f0.f2)⟩ : S36), (⟨((rd_T66 l0 x7_1).f1.f0), ((rd_T66 l0 x7_1).f1.f1), ((rd_T66 l0 x7_1).f1.f2)⟩ : S36)⟩ : S66) )) (Reps.none _ _)))); intro v625 w50 ho51 hb hg_ hnew_; clear hg_ hnew_; (first | rw [← Ny624.out] at ho51 | (simp only [Int.reduceToNat] at ho51; rw [← Ny624.out] at ho51)); have HO626 := Aside0.mk (Kd.R_lower (Kd.R_newB (Kd.R_newB (Kd.R_new' ho51 (Kd.R_lt (zR HO_5))) (g := gb611) (o := .cells #[.bool x612000_1, .int .u64 x612001_1, .int .u64 x612002_1, .bool x612003_1, .int .u64 x612004_1, .int .u64 x612005_1] 66 (0, 0)) (zK BK611)) (g := gb616) (o := .cells #[.bool ((rd_T66 l0 x7_1).f0.f0), .int .u64 ((rd_T66 l0 x7_1).f0.f1), .int .u64 ((rd_T66 l0 x7_1).f0.f2), .bool ((rd_T66 l0 x7_1).f1.f0), .int .u64 ((rd_T66 l0 x7_1).f1.f1), .int .u64 ((rd_T66 l0 x7_1).f1.f2)] 66 (0, 0)) (zK BK616)) (below_size (zB HB))); replace HO_5 := Aside0.mk (Kd.R_elder' (zR HO_5) (Kd.R_base ho51) hb); replace BK611 := Aside0.mk (blk_below (g := gb611) (o := .cells #[.bool x612000_1, .int .u64 x612001_1, .int .u64 x612002_1, .bool x612003_1, .int .u64 x612004_1, .int .u64 x612005_1] 66 (0, 0)) (zK BK611) hb); replace BK616 := Aside0.mk (blk_below (g := gb616) (o := .cells #[.bool ((rd_T66 l0 x7_1).f0.f0), .int .u64 ((rd_T66 l0 x7_1).f0.f1), .int .u64 ((rd_T66 l0 x7_1).f0.f2), .bool ((rd_T66 l0 x7_1).f1.f0), .int .u64 ((rd_T66 l0 x7_1).f1.f1), .int .u64 ((rd_T66 l0 x7_1).f1.f2)] 66 (0, 0)) (zK BK616) hb); replace HB := Aside0.mk (below_step (zB HB) hb); clear hb ho51; obtain ⟨Ao53, co53, eo53⟩ := Kd.R_slice HO626.out; subst eo53) | ((with_reducible refine gate_builtin (b := .append) (xs := #[.tmp 48, .tmp 51]) rfl ?_); at_builtin; refine Kd.R_append_rows k66 (w0 := w) w.heap.size rfl (.tmp 48) (.tmp 51) 33 66 (.agg #[(.bool false), (.int .u64 0), (.int .u64 0), (.bool false), (.int .u64 0), (.int .u64 0)]) 48 rfl Try.underlying33 info66 rfl (by decide) (by omega) u5 x5_1 y624 _ _ _ (fun k_ => some k_ ≠ (.slice Ao53 y624.length co53 : Value).ownBlock ∧ k_ ≠ gb611 ∧ k_ ≠ gb616) (fun _ => False) rfl rfl ?aO ?aR (fun _ _ h => h) (fun _ h => h.elim) ?aF ?aB ?aS ?aL ?_; (case aR => repeat (first | exact (Kd.R_reads' HO626.out).2.2 | (with_reducible refine Kd.C_alloc ?_ _) | (with_reducible refine Kd.C_drewN ?_ _) | (with_reducible refine Kd.C_drew ?_))); (case aB => exact (zB HB)); (case aF => exact (fun k_ hk => ⟨Kd.fresh' (Kd.R_lt (zR HO626)) k_ hk, Kd.freshB (g := gb611) (o := .cells #[.bool x612000_1, .int .u64 x612001_1, .int .u64 x612002_1, .bool x612003_1, .int .u64 x612004_1, .int .u64 x612005_1] 66 (0, 0)) (zK BK611) k_ hk, Kd.freshB (g := gb616) (o := .cells #[.bool ((rd_T66 l0 x7_1).f0.f0), .int .u64 ((rd_T66 l0 x7_1).f0.f1), .int .u64 ((rd_T66 l0 x7_1).f0.f2), .bool ((rd_T66 l0 x7_1).f1.f0), .int .u64 ((rd_T66 l0 x7_1).f1.f1), .int .u64 ((rd_T66 l0 x7_1).f1.f2)] 66 (0, 0)) (zK BK616) k_ hk⟩)); (case aO => exact (by (with_reducible repeat (first | apply Kd.R_alloc | apply Kd.R_drewN | apply Kd.R_drew)); exact Kd.R_mono HO_5.out (fun _ hk => ⟨hk.2, ⟨hk.1.1, hk.1.2⟩⟩))); (case aS => exact (below_size (zB HB))); (case aL => have := LMc46.out; omega); intro v628 w52 ho hb hg hat; rw [← Ny627.out] at ho; replace BK611 := Aside0.mk (blk_grown (g := gb611) (o := .cells #[.bool x612000_1, .int .u64 x612001_1, .int .u64 x612002_1, .bool x612003_1, .int .u64 x612004_1, .int .u64 x612005_1] 66 (0, 0)) (zK BK611) hg (Kd.R_away HO_5.out (fun _ hk => hk.1.1))); replace BK616 := Aside0.mk (blk_grown (g := gb616) (o := .cells #[.bool ((rd_T66 l0 x7_1).f0.f0), .int .u64 ((rd_T66 l0 x7_1).f0.f1), .int .u64 ((rd_T66 l0 x7_1).f0.f2), .bool ((rd_T66 l0 x7_1).f1.f0), .int .u64 ((rd_T66 l0 x7_1).f1.f1), .int .u64 ((rd_T66 l0 x7_1).f1.f2)] 66 (0, 0)) (zK BK616) hg (Kd.R_away HO_5.out (fun _ hk => hk.1.2))); replace HO626 := Aside0.mk (Kd.R_after (ok := (fun k_ => k_ ≠ gb611 ∧ k_ ≠ gb616)) (by (with_reducible repeat (first | apply Kd.R_alloc | apply Kd.R_drewN | apply Kd.R_drew)); exact Kd.R_mono HO626.out (fun _ hk => ⟨⟨hk.1.2, hk.2⟩, hk.1.1.2⟩)) hg hat); replace HB := Aside0.mk (hb); have HO629 := Aside0.mk (ho); clear HO_5; clear ho hb hg hat))
                 go_roundg kj29
                 case measure => have := HK1.out; have := HJ5.out; have := HJ29.out; omega
                 case rel => exact ⟨(y627), (true), (wrap64 (x7_1 + 1)), (x612000_1), (x612001_1), (x612002_1), (x612003_1), (x612004_1), (x612005_1), (by first | rfl | (simp; done) | (simp [*]; done)), (by first | rfl | (simp; done) | (simp [*]; done)), H', ⟨by have := HK1.out; have := HJ5.out; have := HJ29.out; omega⟩, ⟨by (with_reducible repeat (first | apply Kd.R_alloc | apply Kd.R_drewN | apply Kd.R_drew)); exact Kd.R_mono HO629.out (fun _ hk => hk.2.1)⟩, ⟨zK BK611⟩, ⟨zB HB⟩⟩
               · rw [if_neg c46] at H
                 exact absurd H (by simp)
             · replace c45 := Bool.eq_false_iff.mpr c45
               subst c45
               rw [if_neg zF] at H
               replace H := Option.bind_eq_some_iff.mp H
               obtain ⟨t630, A540, H⟩ := H
               try dsimp only at H
               have A54 := Aside0.mk A540
               clear A540
               by_cases c55 : t630 = true
               · subst c55
                 rw [if_pos rfl] at H
                 replace H := Option.bind_eq_some_iff.mp H
                 obtain ⟨t631, A560, H⟩ := H
                 try dsimp only at H
                 have A56 := Aside0.mk A560
                 clear A560
                 by_cases c57 : t631 = true
                 · subst c57
                   rw [if_pos rfl] at H
                   have H' := Aside0.mk H
                   clear H
                   have hnb58 := NB616_611.out
                   have hnc58 := NB611_616.out
                   obtain ⟨hcz59_0, hcz59_1, hcz59_2, hcz59_3, hcz59_4, hcz59_5⟩ := zc6 BK616
                   obtain ⟨hfz59_0, hfz59_1, hfz59_2, hfz59_3, hfz59_4, hfz59_5⟩ := zf6 BK616
                   obtain ⟨hcz60_0, hcz60_1, hcz60_2, hcz60_3, hcz60_4, hcz60_5⟩ := zc6 BK611
                   obtain ⟨hfz60_0, hfz60_1, hfz60_2, hfz60_3, hfz60_4, hfz60_5⟩ := zf6 BK611
                   go_wp2_with (first | ((with_reducible refine gate_callee (f := 80) rfl ?_); refine goesL_ (some 57) rfl rfl Try.func80 (by kernel_rfl) rfl #[.agg #[.bool ((rd_T66 l0 x7_1).f0.f0), .int .u64 ((rd_T66 l0 x7_1).f0.f1), .int .u64 ((rd_T66 l0 x7_1).f0.f2)], .agg #[.bool x612000_1, .int .u64 x612001_1, .int .u64 x612002_1]] rfl (by (try simp only [List.map_toArray, List.map_cons, List.map_nil]); first | done | rfl | (simp only [List.length_drop, List.length_take]; rfl)) ?_; (with_reducible refine (intrusionref07_Before.calls ((rd_T66 l0 x7_1).f0.f0) ((rd_T66 l0 x7_1).f0.f1) ((rd_T66 l0 x7_1).f0.f2) x612000_1 x612001_1 x612002_1 true _ A54.out).mono ?_); rintro e w61 ⟨rfl, hb⟩; refine ⟨_, rfl, ?_⟩; replace HO_5 := Aside0.mk (Kd.R_below (zR HO_5) hb); replace BK611 := Aside0.mk (blk_below (g := gb611) (o := .cells #[.bool x612000_1, .int .u64 x612001_1, .int .u64 x612002_1, .bool x612003_1, .int .u64 x612004_1, .int .u64 x612005_1] 66 (0, 0)) (zK BK611) hb); replace BK616 := Aside0.mk (blk_below (g := gb616) (o := .cells #[.bool ((rd_T66 l0 x7_1).f0.f0), .int .u64 ((rd_T66 l0 x7_1).f0.f1), .int .u64 ((rd_T66 l0 x7_1).f0.f2), .bool ((rd_T66 l0 x7_1).f1.f0), .int .u64 ((rd_T66 l0 x7_1).f1.f1), .int .u64 ((rd_T66 l0 x7_1).f1.f2)] 66 (0, 0)) (zK BK616) hb); replace HB := Aside0.mk (below_step (zB HB) hb); (try clear hb); obtain ⟨hcz62_0, hcz62_1, hcz62_2, hcz62_3, hcz62_4, hcz62_5⟩ := zc6 BK616; obtain ⟨hfz62_0, hfz62_1, hfz62_2, hfz62_3, hfz62_4, hfz62_5⟩ := zf6 BK616; obtain ⟨hcz63_0, hcz63_1, hcz63_2, hcz63_3, hcz63_4, hcz63_5⟩ := zc6 BK611; obtain ⟨hfz63_0, hfz63_1, hfz63_2, hfz63_3, hfz63_4, hfz63_5⟩ := zf6 BK611) | ((with_reducible refine gate_callee (f := 80) rfl ?_); refine goesL_ (some 65) rfl rfl Try.func80 (by kernel_rfl) rfl #[.agg #[.bool x612003_1, .int .u64 x612004_1, .int .u64 x612005_1], .agg #[.bool ((rd_T66 l0 x7_1).f1.f0), .int .u64 ((rd_T66 l0 x7_1).f1.f1), .int .u64 ((rd_T66 l0 x7_1).f1.f2)]] rfl (by (try simp only [List.map_toArray, List.map_cons, List.map_nil]); first | done | rfl | (simp only [List.length_drop, List.length_take]; rfl)) ?_; (with_reducible refine (intrusionref07_Before.calls x612003_1 x612004_1 x612005_1 ((rd_T66 l0 x7_1).f1.f0) ((rd_T66 l0 x7_1).f1.f1) ((rd_T66 l0 x7_1).f1.f2) true _ A56.out).mono ?_); rintro e w64 ⟨rfl, hb⟩; refine ⟨_, rfl, ?_⟩; replace HO_5 := Aside0.mk (Kd.R_below (zQ (Kd.R_mono (Kd.R_far (p := ⟨gb611, 2, none⟩) (Kd.R_far (p := ⟨gb611, 1, none⟩) (Kd.R_far (p := ⟨gb611, 0, none⟩) (Kd.R_mono HO_5.out (fun k_ hk => (⟨hk, hk.1⟩ : _ ∧ k_ ≠ gb611))) (fun _ hk => hk.2) (.bool ((rd_T66 l0 x7_1).f0.f0))) (fun _ hk => hk.2) (.int .u64 ((rd_T66 l0 x7_1).f0.f1))) (fun _ hk => hk.2) (.int .u64 ((rd_T66 l0 x7_1).f0.f2))) (fun _ h_ => h_.1))) hb); replace BK611 := Aside0.mk (blk_below (g := gb611) (o := .cells #[.bool ((rd_T66 l0 x7_1).f0.f0), .int .u64 ((rd_T66 l0 x7_1).f0.f1), .int .u64 ((rd_T66 l0 x7_1).f0.f2), .bool x612003_1, .int .u64 x612004_1, .int .u64 x612005_1] 66 (0, 0)) (by refine zL ?_; refine blk_put (cs := #[.bool ((rd_T66 l0 x7_1).f0.f0), .int .u64 ((rd_T66 l0 x7_1).f0.f1), .int .u64 x612002_1, .bool x612003_1, .int .u64 x612004_1, .int .u64 x612005_1]) ?_ 2 _ rfl; refine zL ?_; refine blk_put (cs := #[.bool ((rd_T66 l0 x7_1).f0.f0), .int .u64 x612001_1, .int .u64 x612002_1, .bool x612003_1, .int .u64 x612004_1, .int .u64 x612005_1]) ?_ 1 _ rfl; refine zL ?_; refine blk_put (cs := #[.bool x612000_1, .int .u64 x612001_1, .int .u64 x612002_1, .bool x612003_1, .int .u64 x612004_1, .int .u64 x612005_1]) ?_ 0 _ rfl; refine zL ?_; exact BK611.out) hb); replace BK616 := Aside0.mk (blk_below (g := gb616) (o := .cells #[.bool ((rd_T66 l0 x7_1).f0.f0), .int .u64 ((rd_T66 l0 x7_1).f0.f1), .int .u64 ((rd_T66 l0 x7_1).f0.f2), .bool ((rd_T66 l0 x7_1).f1.f0), .int .u64 ((rd_T66 l0 x7_1).f1.f1), .int .u64 ((rd_T66 l0 x7_1).f1.f2)] 66 (0, 0)) (by refine zL ?_; refine blk_far ?_ NB616_611.out _; refine zL ?_; refine blk_far ?_ NB616_611.out _; refine zL ?_; refine blk_far ?_ NB616_611.out _; refine zL ?_; exact BK616.out) hb); replace HB := Aside0.mk (below_step (zB HB) hb); (try clear hb); obtain ⟨hcz65_0, hcz65_1, hcz65_2, hcz65_3, hcz65_4, hcz65_5⟩ := zc6 BK616; obtain ⟨hfz65_0, hfz65_1, hfz65_2, hfz65_3, hfz65_4, hfz65_5⟩ := zf6 BK616; obtain ⟨hcz66_0, hcz66_1, hcz66_2, hcz66_3, hcz66_4, hcz66_5⟩ := zc6 BK611; obtain ⟨hfz66_0, hfz66_1, hfz66_2, hfz66_3, hfz66_4, hfz66_5⟩ := zf6 BK611))
                   go_roundg kj29
                   case measure => have := HK1.out; have := HJ5.out; have := HJ29.out; omega
                   case rel => exact ⟨(x5_1), (x6_1), (wrap64 (x7_1 + 1)), (((rd_T66 l0 x7_1).f0.f0)), (((rd_T66 l0 x7_1).f0.f1)), (((rd_T66 l0 x7_1).f0.f2)), (((rd_T66 l0 x7_1).f1.f0)), (((rd_T66 l0 x7_1).f1.f1)), (((rd_T66 l0 x7_1).f1.f2)), (by first | rfl | (simp; done) | (simp [*]; done)), (by first | rfl | (simp; done) | (simp [*]; done)), H', ⟨by have := HK1.out; have := HJ5.out; have := HJ29.out; omega⟩, ⟨by (with_reducible repeat (first | apply Kd.R_alloc | apply Kd.R_drewN | apply Kd.R_drew)); exact Kd.R_mono (Kd.R_far (p := ⟨gb611, 5, none⟩) (Kd.R_far (p := ⟨gb611, 4, none⟩) (Kd.R_far (p := ⟨gb611, 3, none⟩) (Kd.R_mono HO_5.out (fun k_ hk => (⟨hk, hk.1⟩ : _ ∧ k_ ≠ gb611))) (fun _ hk => hk.2) (.bool ((rd_T66 l0 x7_1).f1.f0))) (fun _ hk => hk.2) (.int .u64 ((rd_T66 l0 x7_1).f1.f1))) (fun _ hk => hk.2) (.int .u64 ((rd_T66 l0 x7_1).f1.f2))) (fun _ hk => hk.1.1)⟩, ⟨by refine zL ?_; refine blk_put (cs := #[.bool ((rd_T66 l0 x7_1).f0.f0), .int .u64 ((rd_T66 l0 x7_1).f0.f1), .int .u64 ((rd_T66 l0 x7_1).f0.f2), .bool ((rd_T66 l0 x7_1).f1.f0), .int .u64 ((rd_T66 l0 x7_1).f1.f1), .int .u64 x612005_1]) ?_ 5 _ rfl; refine zL ?_; refine blk_put (cs := #[.bool ((rd_T66 l0 x7_1).f0.f0), .int .u64 ((rd_T66 l0 x7_1).f0.f1), .int .u64 ((rd_T66 l0 x7_1).f0.f2), .bool ((rd_T66 l0 x7_1).f1.f0), .int .u64 x612004_1, .int .u64 x612005_1]) ?_ 4 _ rfl; refine zL ?_; refine blk_put (cs := #[.bool ((rd_T66 l0 x7_1).f0.f0), .int .u64 ((rd_T66 l0 x7_1).f0.f1), .int .u64 ((rd_T66 l0 x7_1).f0.f2), .bool x612003_1, .int .u64 x612004_1, .int .u64 x612005_1]) ?_ 3 _ rfl; refine zL ?_; exact BK611.out⟩, ⟨zB HB⟩⟩
                 · replace c57 := Bool.eq_false_iff.mpr c57
                   subst c57
                   rw [if_neg zF] at H
                   have H' := Aside0.mk H
                   clear H
                   have hnb67 := NB616_611.out
                   have hnc67 := NB611_616.out
                   obtain ⟨hcz68_0, hcz68_1, hcz68_2, hcz68_3, hcz68_4, hcz68_5⟩ := zc6 BK616
                   obtain ⟨hfz68_0, hfz68_1, hfz68_2, hfz68_3, hfz68_4, hfz68_5⟩ := zf6 BK616
                   obtain ⟨hcz69_0, hcz69_1, hcz69_2, hcz69_3, hcz69_4, hcz69_5⟩ := zc6 BK611
                   obtain ⟨hfz69_0, hfz69_1, hfz69_2, hfz69_3, hfz69_4, hfz69_5⟩ := zf6 BK611
                   go_wp2_with (first | ((with_reducible refine gate_callee (f := 80) rfl ?_); refine goesL_ (some 57) rfl rfl Try.func80 (by kernel_rfl) rfl #[.agg #[.bool ((rd_T66 l0 x7_1).f0.f0), .int .u64 ((rd_T66 l0 x7_1).f0.f1), .int .u64 ((rd_T66 l0 x7_1).f0.f2)], .agg #[.bool x612000_1, .int .u64 x612001_1, .int .u64 x612002_1]] rfl (by (try simp only [List.map_toArray, List.map_cons, List.map_nil]); first | done | rfl | (simp only [List.length_drop, List.length_take]; rfl)) ?_; (with_reducible refine (intrusionref07_Before.calls ((rd_T66 l0 x7_1).f0.f0) ((rd_T66 l0 x7_1).f0.f1) ((rd_T66 l0 x7_1).f0.f2) x612000_1 x612001_1 x612002_1 true _ A54.out).mono ?_); rintro e w70 ⟨rfl, hb⟩; refine ⟨_, rfl, ?_⟩; replace HO_5 := Aside0.mk (Kd.R_below (zR HO_5) hb); replace BK611 := Aside0.mk (blk_below (g := gb611) (o := .cells #[.bool x612000_1, .int .u64 x612001_1, .int .u64 x612002_1, .bool x612003_1, .int .u64 x612004_1, .int .u64 x612005_1] 66 (0, 0)) (zK BK611) hb); replace BK616 := Aside0.mk (blk_below (g := gb616) (o := .cells #[.bool ((rd_T66 l0 x7_1).f0.f0), .int .u64 ((rd_T66 l0 x7_1).f0.f1), .int .u64 ((rd_T66 l0 x7_1).f0.f2), .bool ((rd_T66 l0 x7_1).f1.f0), .int .u64 ((rd_T66 l0 x7_1).f1.f1), .int .u64 ((rd_T66 l0 x7_1).f1.f2)] 66 (0, 0)) (zK BK616) hb); replace HB := Aside0.mk (below_step (zB HB) hb); (try clear hb); obtain ⟨hcz71_0, hcz71_1, hcz71_2, hcz71_3, hcz71_4, hcz71_5⟩ := zc6 BK616; obtain ⟨hfz71_0, hfz71_1, hfz71_2, hfz71_3, hfz71_4, hfz71_5⟩ := zf6 BK616; obtain ⟨hcz72_0, hcz72_1, hcz72_2, hcz72_3, hcz72_4, hcz72_5⟩ := zc6 BK611; obtain ⟨hfz72_0, hfz72_1, hfz72_2, hfz72_3, hfz72_4, hfz72_5⟩ := zf6 BK611) | ((with_reducible refine gate_callee (f := 80) rfl ?_); refine goesL_ (some 65) rfl rfl Try.func80 (by kernel_rfl) rfl #[.agg #[.bool x612003_1, .int .u64 x612004_1, .int .u64 x612005_1], .agg #[.bool ((rd_T66 l0 x7_1).f1.f0), .int .u64 ((rd_T66 l0 x7_1).f1.f1), .int .u64 ((rd_T66 l0 x7_1).f1.f2)]] rfl (by (try simp only [List.map_toArray, List.map_cons, List.map_nil]); first | done | rfl | (simp only [List.length_drop, List.length_take]; rfl)) ?_; (with_reducible refine (intrusionref07_Before.calls x612003_1 x612004_1 x612005_1 ((rd_T66 l0 x7_1).f1.f0) ((rd_T66 l0 x7_1).f1.f1) ((rd_T66 l0 x7_1).f1.f2) false _ A56.out).mono ?_); rintro e w73 ⟨rfl, hb⟩; refine ⟨_, rfl, ?_⟩; replace HO_5 := Aside0.mk (Kd.R_below (zQ (Kd.R_mono (Kd.R_far (p := ⟨gb611, 2, none⟩) (Kd.R_far (p := ⟨gb611, 1, none⟩) (Kd.R_far (p := ⟨gb611, 0, none⟩) (Kd.R_mono HO_5.out (fun k_ hk => (⟨hk, hk.1⟩ : _ ∧ k_ ≠ gb611))) (fun _ hk => hk.2) (.bool ((rd_T66 l0 x7_1).f0.f0))) (fun _ hk => hk.2) (.int .u64 ((rd_T66 l0 x7_1).f0.f1))) (fun _ hk => hk.2) (.int .u64 ((rd_T66 l0 x7_1).f0.f2))) (fun _ h_ => h_.1))) hb); replace BK611 := Aside0.mk (blk_below (g := gb611) (o := .cells #[.bool ((rd_T66 l0 x7_1).f0.f0), .int .u64 ((rd_T66 l0 x7_1).f0.f1), .int .u64 ((rd_T66 l0 x7_1).f0.f2), .bool x612003_1, .int .u64 x612004_1, .int .u64 x612005_1] 66 (0, 0)) (by refine zL ?_; refine blk_put (cs := #[.bool ((rd_T66 l0 x7_1).f0.f0), .int .u64 ((rd_T66 l0 x7_1).f0.f1), .int .u64 x612002_1, .bool x612003_1, .int .u64 x612004_1, .int .u64 x612005_1]) ?_ 2 _ rfl; refine zL ?_; refine blk_put (cs := #[.bool ((rd_T66 l0 x7_1).f0.f0), .int .u64 x612001_1, .int .u64 x612002_1, .bool x612003_1, .int .u64 x612004_1, .int .u64 x612005_1]) ?_ 1 _ rfl; refine zL ?_; refine blk_put (cs := #[.bool x612000_1, .int .u64 x612001_1, .int .u64 x612002_1, .bool x612003_1, .int .u64 x612004_1, .int .u64 x612005_1]) ?_ 0 _ rfl; refine zL ?_; exact BK611.out) hb); replace BK616 := Aside0.mk (blk_below (g := gb616) (o := .cells #[.bool ((rd_T66 l0 x7_1).f0.f0), .int .u64 ((rd_T66 l0 x7_1).f0.f1), .int .u64 ((rd_T66 l0 x7_1).f0.f2), .bool ((rd_T66 l0 x7_1).f1.f0), .int .u64 ((rd_T66 l0 x7_1).f1.f1), .int .u64 ((rd_T66 l0 x7_1).f1.f2)] 66 (0, 0)) (by refine zL ?_; refine blk_far ?_ NB616_611.out _; refine zL ?_; refine blk_far ?_ NB616_611.out _; refine zL ?_; refine blk_far ?_ NB616_611.out _; refine zL ?_; exact BK616.out) hb); replace HB := Aside0.mk (below_step (zB HB) hb); (try clear hb)))
                   go_roundg kj29
                   case measure => have := HK1.out; have := HJ5.out; have := HJ29.out; omega
                   case rel => exact ⟨(x5_1), (x6_1), (wrap64 (x7_1 + 1)), (((rd_T66 l0 x7_1).f0.f0)), (((rd_T66 l0 x7_1).f0.f1)), (((rd_T66 l0 x7_1).f0.f2)), (x612003_1), (x612004_1), (x612005_1), (by first | rfl | (simp; done) | (simp [*]; done)), (by first | rfl | (simp; done) | (simp [*]; done)), H', ⟨by have := HK1.out; have := HJ5.out; have := HJ29.out; omega⟩, ⟨by (with_reducible repeat (first | apply Kd.R_alloc | apply Kd.R_drewN | apply Kd.R_drew)); exact Kd.R_mono HO_5.out (fun _ hk => hk.1)⟩, ⟨zK BK611⟩, ⟨zB HB⟩⟩
               · replace c55 := Bool.eq_false_iff.mpr c55
                 subst c55
                 rw [if_neg zF] at H
                 replace H := Option.bind_eq_some_iff.mp H
                 obtain ⟨t632, A740, H⟩ := H
                 try dsimp only at H
                 have A74 := Aside0.mk A740
                 clear A740
                 by_cases c75 : t632 = true
                 · subst c75
                   rw [if_pos rfl] at H
                   have H' := Aside0.mk H
                   clear H
                   have hnb76 := NB616_611.out
                   have hnc76 := NB611_616.out
                   obtain ⟨hcz77_0, hcz77_1, hcz77_2, hcz77_3, hcz77_4, hcz77_5⟩ := zc6 BK616
                   obtain ⟨hfz77_0, hfz77_1, hfz77_2, hfz77_3, hfz77_4, hfz77_5⟩ := zf6 BK616
                   obtain ⟨hcz78_0, hcz78_1, hcz78_2, hcz78_3, hcz78_4, hcz78_5⟩ := zc6 BK611
                   obtain ⟨hfz78_0, hfz78_1, hfz78_2, hfz78_3, hfz78_4, hfz78_5⟩ := zf6 BK611
                   go_wp2_with (first | ((with_reducible refine gate_callee (f := 80) rfl ?_); refine goesL_ (some 57) rfl rfl Try.func80 (by kernel_rfl) rfl #[.agg #[.bool ((rd_T66 l0 x7_1).f0.f0), .int .u64 ((rd_T66 l0 x7_1).f0.f1), .int .u64 ((rd_T66 l0 x7_1).f0.f2)], .agg #[.bool x612000_1, .int .u64 x612001_1, .int .u64 x612002_1]] rfl (by (try simp only [List.map_toArray, List.map_cons, List.map_nil]); first | done | rfl | (simp only [List.length_drop, List.length_take]; rfl)) ?_; (with_reducible refine (intrusionref07_Before.calls ((rd_T66 l0 x7_1).f0.f0) ((rd_T66 l0 x7_1).f0.f1) ((rd_T66 l0 x7_1).f0.f2) x612000_1 x612001_1 x612002_1 false _ A54.out).mono ?_); rintro e w79 ⟨rfl, hb⟩; refine ⟨_, rfl, ?_⟩; replace HO_5 := Aside0.mk (Kd.R_below (zR HO_5) hb); replace BK611 := Aside0.mk (blk_below (g := gb611) (o := .cells #[.bool x612000_1, .int .u64 x612001_1, .int .u64 x612002_1, .bool x612003_1, .int .u64 x612004_1, .int .u64 x612005_1] 66 (0, 0)) (zK BK611) hb); replace BK616 := Aside0.mk (blk_below (g := gb616) (o := .cells #[.bool ((rd_T66 l0 x7_1).f0.f0), .int .u64 ((rd_T66 l0 x7_1).f0.f1), .int .u64 ((rd_T66 l0 x7_1).f0.f2), .bool ((rd_T66 l0 x7_1).f1.f0), .int .u64 ((rd_T66 l0 x7_1).f1.f1), .int .u64 ((rd_T66 l0 x7_1).f1.f2)] 66 (0, 0)) (zK BK616) hb); replace HB := Aside0.mk (below_step (zB HB) hb); (try clear hb); obtain ⟨hcz80_0, hcz80_1, hcz80_2, hcz80_3, hcz80_4, hcz80_5⟩ := zc6 BK611; obtain ⟨hfz80_0, hfz80_1, hfz80_2, hfz80_3, hfz80_4, hfz80_5⟩ := zf6 BK611; obtain ⟨hcz81_0, hcz81_1, hcz81_2, hcz81_3, hcz81_4, hcz81_5⟩ := zc6 BK616; obtain ⟨hfz81_0, hfz81_1, hfz81_2, hfz81_3, hfz81_4, hfz81_5⟩ := zf6 BK616) | ((with_reducible refine gate_callee (f := 80) rfl ?_); refine goesL_ (some 65) rfl rfl Try.func80 (by kernel_rfl) rfl #[.agg #[.bool x612003_1, .int .u64 x612004_1, .int .u64 x612005_1], .agg #[.bool ((rd_T66 l0 x7_1).f1.f0), .int .u64 ((rd_T66 l0 x7_1).f1.f1), .int .u64 ((rd_T66 l0 x7_1).f1.f2)]] rfl (by (try simp only [List.map_toArray, List.map_cons, List.map_nil]); first | done | rfl | (simp only [List.length_drop, List.length_take]; rfl)) ?_; (with_reducible refine (intrusionref07_Before.calls x612003_1 x612004_1 x612005_1 ((rd_T66 l0 x7_1).f1.f0) ((rd_T66 l0 x7_1).f1.f1) ((rd_T66 l0 x7_1).f1.f2) true _ A74.out).mono ?_); rintro e w82 ⟨rfl, hb⟩; refine ⟨_, rfl, ?_⟩; replace HO_5 := Aside0.mk (Kd.R_below (zR HO_5) hb); replace BK611 := Aside0.mk (blk_below (g := gb611) (o := .cells #[.bool x612000_1, .int .u64 x612001_1, .int .u64 x612002_1, .bool x612003_1, .int .u64 x612004_1, .int .u64 x612005_1] 66 (0, 0)) (zK BK611) hb); replace BK616 := Aside0.mk (blk_below (g := gb616) (o := .cells #[.bool ((rd_T66 l0 x7_1).f0.f0), .int .u64 ((rd_T66 l0 x7_1).f0.f1), .int .u64 ((rd_T66 l0 x7_1).f0.f2), .bool ((rd_T66 l0 x7_1).f1.f0), .int .u64 ((rd_T66 l0 x7_1).f1.f1), .int .u64 ((rd_T66 l0 x7_1).f1.f2)] 66 (0, 0)) (zK BK616) hb); replace HB := Aside0.mk (below_step (zB HB) hb); (try clear hb); obtain ⟨hcz83_0, hcz83_1, hcz83_2, hcz83_3, hcz83_4, hcz83_5⟩ := zc6 BK616; obtain ⟨hfz83_0, hfz83_1, hfz83_2, hfz83_3, hfz83_4, hfz83_5⟩ := zf6 BK616; obtain ⟨hcz84_0, hcz84_1, hcz84_2, hcz84_3, hcz84_4, hcz84_5⟩ := zc6 BK611; obtain ⟨hfz84_0, hfz84_1, hfz84_2, hfz84_3, hfz84_4, hfz84_5⟩ := zf6 BK611))
                   go_roundg kj29
                   case measure => have := HK1.out; have := HJ5.out; have := HJ29.out; omega
                   case rel => exact ⟨(x5_1), (x6_1), (wrap64 (x7_1 + 1)), (x612000_1), (x612001_1), (x612002_1), (((rd_T66 l0 x7_1).f1.f0)), (((rd_T66 l0 x7_1).f1.f1)), (((rd_T66 l0 x7_1).f1.f2)), (by first | rfl | (simp; done) | (simp [*]; done)), (by first | rfl | (simp; done) | (simp [*]; done)), H', ⟨by have := HK1.out; have := HJ5.out; have := HJ29.out; omega⟩, ⟨by (with_reducible repeat (first | apply Kd.R_alloc | apply Kd.R_drewN | apply Kd.R_drew)); exact Kd.R_mono (Kd.R_far (p := ⟨gb611, 5, none⟩) (Kd.R_far (p := ⟨gb611, 4, none⟩) (Kd.R_far (p := ⟨gb611, 3, none⟩) (Kd.R_mono HO_5.out (fun k_ hk => (⟨hk, hk.1⟩ : _ ∧ k_ ≠ gb611))) (fun _ hk => hk.2) (.bool ((rd_T66 l0 x7_1).f1.f0))) (fun _ hk => hk.2) (.int .u64 ((rd_T66 l0 x7_1).f1.f1))) (fun _ hk => hk.2) (.int .u64 ((rd_T66 l0 x7_1).f1.f2))) (fun _ hk => hk.1.1)⟩, ⟨by refine zL ?_; refine blk_put (cs := #[.bool x612000_1, .int .u64 x612001_1, .int .u64 x612002_1, .bool ((rd_T66 l0 x7_1).f1.f0), .int .u64 ((rd_T66 l0 x7_1).f1.f1), .int .u64 x612005_1]) ?_ 5 _ rfl; refine zL ?_; refine blk_put (cs := #[.bool x612000_1, .int .u64 x612001_1, .int .u64 x612002_1, .bool ((rd_T66 l0 x7_1).f1.f0), .int .u64 x612004_1, .int .u64 x612005_1]) ?_ 4 _ rfl; refine zL ?_; refine blk_put (cs := #[.bool x612000_1, .int .u64 x612001_1, .int .u64 x612002_1, .bool x612003_1, .int .u64 x612004_1, .int .u64 x612005_1]) ?_ 3 _ rfl; refine zL ?_; exact BK611.out⟩, ⟨zB HB⟩⟩
                 · replace c75 := Bool.eq_false_iff.mpr c75
                   subst c75
                   rw [if_neg zF] at H
                   have H' := Aside0.mk H
                   clear H
                   have hnb85 := NB616_611.out
                   have hnc85 := NB611_616.out
                   obtain ⟨hcz86_0, hcz86_1, hcz86_2, hcz86_3, hcz86_4, hcz86_5⟩ := zc6 BK616
                   obtain ⟨hfz86_0, hfz86_1, hfz86_2, hfz86_3, hfz86_4, hfz86_5⟩ := zf6 BK616
                   obtain ⟨hcz87_0, hcz87_1, hcz87_2, hcz87_3, hcz87_4, hcz87_5⟩ := zc6 BK611
                   obtain ⟨hfz87_0, hfz87_1, hfz87_2, hfz87_3, hfz87_4, hfz87_5⟩ := zf6 BK611
                   go_wp2_with (first | ((with_reducible refine gate_callee (f := 80) rfl ?_); refine goesL_ (some 57) rfl rfl Try.func80 (by kernel_rfl) rfl #[.agg #[.bool ((rd_T66 l0 x7_1).f0.f0), .int .u64 ((rd_T66 l0 x7_1).f0.f1), .int .u64 ((rd_T66 l0 x7_1).f0.f2)], .agg #[.bool x612000_1, .int .u64 x612001_1, .int .u64 x612002_1]] rfl (by (try simp only [List.map_toArray, List.map_cons, List.map_nil]); first | done | rfl | (simp only [List.length_drop, List.length_take]; rfl)) ?_; (with_reducible refine (intrusionref07_Before.calls ((rd_T66 l0 x7_1).f0.f0) ((rd_T66 l0 x7_1).f0.f1) ((rd_T66 l0 x7_1).f0.f2) x612000_1 x612001_1 x612002_1 false _ A54.out).mono ?_); rintro e w88 ⟨rfl, hb⟩; refine ⟨_, rfl, ?_⟩; replace HO_5 := Aside0.mk (Kd.R_below (zR HO_5) hb); replace BK611 := Aside0.mk (blk_below (g := gb611) (o := .cells #[.bool x612000_1, .int .u64 x612001_1, .int .u64 x612002_1, .bool x612003_1, .int .u64 x612004_1, .int .u64 x612005_1] 66 (0, 0)) (zK BK611) hb); replace BK616 := Aside0.mk (blk_below (g := gb616) (o := .cells #[.bool ((rd_T66 l0 x7_1).f0.f0), .int .u64 ((rd_T66 l0 x7_1).f0.f1), .int .u64 ((rd_T66 l0 x7_1).f0.f2), .bool ((rd_T66 l0 x7_1).f1.f0), .int .u64 ((rd_T66 l0 x7_1).f1.f1), .int .u64 ((rd_T66 l0 x7_1).f1.f2)] 66 (0, 0)) (zK BK616) hb); replace HB := Aside0.mk (below_step (zB HB) hb); (try clear hb); obtain ⟨hcz89_0, hcz89_1, hcz89_2, hcz89_3, hcz89_4, hcz89_5⟩ := zc6 BK611; obtain ⟨hfz89_0, hfz89_1, hfz89_2, hfz89_3, hfz89_4, hfz89_5⟩ := zf6 BK611; obtain ⟨hcz90_0, hcz90_1, hcz90_2, hcz90_3, hcz90_4, hcz90_5⟩ := zc6 BK616; obtain ⟨hfz90_0, hfz90_1, hfz90_2, hfz90_3, hfz90_4, hfz90_5⟩ := zf6 BK616) | ((with_reducible refine gate_callee (f := 80) rfl ?_); refine goesL_ (some 65) rfl rfl Try.func80 (by kernel_rfl) rfl #[.agg #[.bool x612003_1, .int .u64 x612004_1, .int .u64 x612005_1], .agg #[.bool ((rd_T66 l0 x7_1).f1.f0), .int .u64 ((rd_T66 l0 x7_1).f1.f1), .int .u64 ((rd_T66 l0 x7_1).f1.f2)]] rfl (by (try simp only [List.map_toArray, List.map_cons, List.map_nil]); first | done | rfl | (simp only [List.length_drop, List.length_take]; rfl)) ?_; (with_reducible refine (intrusionref07_Before.calls x612003_1 x612004_1 x612005_1 ((rd_T66 l0 x7_1).f1.f0) ((rd_T66 l0 x7_1).f1.f1) ((rd_T66 l0 x7_1).f1.f2) false _ A74.out).mono ?_); rintro e w91 ⟨rfl, hb⟩; refine ⟨_, rfl, ?_⟩; replace HO_5 := Aside0.mk (Kd.R_below (zR HO_5) hb); replace BK611 := Aside0.mk (blk_below (g := gb611) (o := .cells #[.bool x612000_1, .int .u64 x612001_1, .int .u64 x612002_1, .bool x612003_1, .int .u64 x612004_1, .int .u64 x612005_1] 66 (0, 0)) (zK BK611) hb); replace BK616 := Aside0.mk (blk_below (g := gb616) (o := .cells #[.bool ((rd_T66 l0 x7_1).f0.f0), .int .u64 ((rd_T66 l0 x7_1).f0.f1), .int .u64 ((rd_T66 l0 x7_1).f0.f2), .bool ((rd_T66 l0 x7_1).f1.f0), .int .u64 ((rd_T66 l0 x7_1).f1.f1), .int .u64 ((rd_T66 l0 x7_1).f1.f2)] 66 (0, 0)) (zK BK616) hb); replace HB := Aside0.mk (below_step (zB HB) hb); (try clear hb)))
                   go_roundg kj29
                   case measure => have := HK1.out; have := HJ5.out; have := HJ29.out; omega
                   case rel => exact ⟨(x5_1), (x6_1), (wrap64 (x7_1 + 1)), (x612000_1), (x612001_1), (x612002_1), (x612003_1), (x612004_1), (x612005_1), (by first | rfl | (simp; done) | (simp [*]; done)), (by first | rfl | (simp; done) | (simp [*]; done)), H', ⟨by have := HK1.out; have := HJ5.out; have := HJ29.out; omega⟩, ⟨by (with_reducible repeat (first | apply Kd.R_alloc | apply Kd.R_drewN | apply Kd.R_drew)); exact Kd.R_mono HO_5.out (fun _ hk => hk.1)⟩, ⟨zK BK611⟩, ⟨zB HB⟩⟩
     · rw [if_neg c5] at H
       exact absurd H (by simp)
   · rw [if_neg c4] at H
     have c4b0 : decide (x7_1 < (l0.length : Int)) = false := decide_eq_false c4
     clear c4
     by_cases c92 : x6_1 = true
     · subst c92
       rw [if_pos rfl] at H
       obtain rfl := Option.some.inj H
       go_wp2
       go_ret
       exact ⟨_, by first | rfl | (simp [errW_none, errW_some] <;> rfl) | (simp [*, errW_none, errW_some] <;> rfl), by (with_reducible repeat (first | apply Kd.R_alloc | apply Kd.R_drewN | apply Kd.R_drew)); exact Kd.R_mono HO_5.out (fun _ hk => trivial), by repeat (first | (with_reducible first | exact HB.out | apply below_alloc | apply pw_below_drewN | apply below_drew1 | refine below_set ?_ GE611.out) | exact HB.out)⟩
     · replace c92 := Bool.eq_false_iff.mpr c92
       subst c92
       rw [if_neg zF] at H
       by_cases c93 : x5_1.length < 2932031007402
       · rw [if_pos c93] at H
         have LMc93 := Aside0.mk c93
         clear c93
         obtain ⟨y612, hy612⟩ : ∃ y_ : List (S66), y_ = (x5_1 ++ [(⟨(⟨x612000_1, x612001_1, x612002_1⟩ : S36), (⟨x612003_1, x612004_1, x612005_1⟩ : S36)⟩ : S66)]) := ⟨_, rfl⟩
         rw [← hy612] at H; try dsimp only [Option.bind_some] at H
         have Ny612 := Aside0.mk hy612
         clear hy612
         obtain rfl := Option.some.inj H
         obtain ⟨hcz94_0, hcz94_1, hcz94_2, hcz94_3, hcz94_4, hcz94_5⟩ := zc6 BK611
         obtain ⟨hfz94_0, hfz94_1, hfz94_2, hfz94_3, hfz94_4, hfz94_5⟩ := zf6 BK611
         go_wp2_with (first | ((with_reducible refine gate_builtin (b := .append) (xs := #[.tmp 71, .tmp 73]) rfl ?_); at_builtin; refine Kd.R_append k66 (w0 := w) w.heap.size rfl (.tmp 71) (.tmp 73) 33 66 (.agg #[(.bool false), (.int .u64 0), (.int .u64 0), (.bool false), (.int .u64 0), (.int .u64 0)]) 48 rfl Try.underlying33 info66 rfl (by decide) (by omega) u5 x5_1 (⟨(⟨x612000_1, x612001_1, x612002_1⟩ : S36), (⟨x612003_1, x612004_1, x612005_1⟩ : S36)⟩ : S66) [.bool x612000_1, .int .u64 x612001_1, .int .u64 x612002_1, .bool x612003_1, .int .u64 x612004_1, .int .u64 x612005_1] (fun k_ => k_ ≠ gb611) (fun _ => False) rfl rfl ?aP (fun _ hk => hk.elim) ?aF ?aO ?aB ?aS ?aL ?_; (case aP => exact k66_mkM _ _ _ (⟨(⟨x612000_1, x612001_1, x612002_1⟩ : S36), (⟨x612003_1, x612004_1, x612005_1⟩ : S36)⟩ : S66)); (case aB => exact (zB HB)); (case aF => exact (fun k_ hk => Kd.freshB (g := gb611) (o := .cells #[.bool x612000_1, .int .u64 x612001_1, .int .u64 x612002_1, .bool x612003_1, .int .u64 x612004_1, .int .u64 x612005_1] 66 (0, 0)) (zK BK611) k_ hk)); (case aO => exact (zR HO_5)); (case aS => exact (below_size (zB HB))); (case aL => have := LMc93.out; omega); intro v613 w95 ho hb hg hat; rw [← Ny612.out] at ho; replace BK611 := Aside0.mk (blk_grown (g := gb611) (o := .cells #[.bool x612000_1, .int .u64 x612001_1, .int .u64 x612002_1, .bool x612003_1, .int .u64 x612004_1, .int .u64 x612005_1] 66 (0, 0)) (zK BK611) hg (Kd.R_away HO_5.out (fun _ hk => hk))); replace HB := Aside0.mk (hb); have HO614 := Aside0.mk (ho); clear HO_5; clear ho hb hg hat))
         go_ret
         exact ⟨_, by first | rfl | (simp [errW_none, errW_some] <;> rfl) | (simp [*, errW_none, errW_some] <;> rfl), by (with_reducible repeat (first | apply Kd.R_alloc | apply Kd.R_drewN | apply Kd.R_drew)); exact Kd.R_mono HO614.out (fun _ hk => trivial), by repeat (first | (with_reducible first | exact HB.out | apply below_alloc | apply pw_below_drewN | apply below_drew1 | refine below_set ?_ GE611.out) | exact HB.out)⟩
       · rw [if_neg c93] at H
         exact absurd H (by simp)
end Go.Proofs.Ytcgfpffgiimgmaa.Q
end

section
namespace Go.Proofs.Ytcgfpffgiimgmaa.Q
open Go.RowKit Go.Proofs.YtcgfpffgiimgmaaW.PrintWords Go.Proofs.YtcgfpffgiimgmaaW.PrintLast Go.Proofs.YtcgfpffgiimgmaaW.PrintMore
attribute [local go_sem] max2_int min2_int max_two min_two max_three min_three max_four min_four
set_option linter.unusedVariables false
set_option linter.unusedSimpArgs false
def intrusionref07_Fine.f (a0_0 : Bool) (a0_1 : Int) (a0_2 : Int) : Option (Bool) := if a0_0 = true then (some true) else (if a0_1 = 0 then (some (decide (a0_2 < 4294967296))) else (some false))
set_option maxHeartbeats 8000000 in
set_option maxRecDepth 100000 in
theorem intrusionref07_Fine.calls (a0_0 : Bool) (a0_1 : Int) (a0_2 : Int) (r : Bool) (w : World) (h : intrusionref07_Fine.f a0_0 a0_1 a0_2 = some r) :
 Calls Try.prog 85 #[.agg #[.bool a0_0, .int .u64 a0_1, .int .u64 a0_2]] w fun e w' => e = .returned (.bool r) ∧ Below w.heap.size w w' := by
 have hu36 := Try.underlying36
 have HB := Aside0.mk (Below.refl w.heap.size w)
 unfold intrusionref07_Fine.f at h; have H := h
 clear h
 by_cases c2 : a0_0 = true
 · subst c2
   rw [if_pos rfl] at H
   obtain rfl := Option.some.inj H
   go_enter Try.func85, Try.ntmps85
   go_wp2_with (first | ((with_reducible refine gate_dst (N := 1) rfl ?_); refine zx 1 #[.bool true, .int .u64 a0_1, .int .u64 a0_2] 36 ?_; intro gb598 hg w3 hbox hb; have BK598 := Aside0.mk (hbox); have GW598 := Aside0.mk ((by rw [hg]; exact (below_size (zB HB)) : w.heap.size ≤ gb598)); have GE598 := Aside0.mk ((by rw [hg]; exact (below_size (zB HB)) : w.heap.size ≤ gb598)); replace HB := Aside0.mk (below_step (zB HB) hb); clear hb hbox hg; obtain ⟨hcz4_0, hcz4_1, hcz4_2⟩ := zc3 BK598; obtain ⟨hfz4_0, hfz4_1, hfz4_2⟩ := zf3 BK598))
   go_ret
   exact ⟨by first | rfl | (simp [errW_none, errW_some] <;> rfl) | (simp [*, errW_none, errW_some] <;> rfl), by repeat (first | (with_reducible first | exact HB.out | apply below_alloc | apply pw_below_drewN | apply below_drew1 | refine below_set ?_ GE598.out) | exact HB.out)⟩
 · replace c2 := Bool.eq_false_iff.mpr c2
   subst c2
   rw [if_neg zF] at H
   by_cases c5 : a0_1 = 0
   · rw [if_pos c5] at H
     have c5b0 : (a0_1 == 0) = true := beq_iff_eq.mpr c5
     have c5b1 : (a0_1 != 0) = false := bne_eq_false_iff_eq.mpr c5
     clear c5
     obtain rfl := Option.some.inj H
     go_enter Try.func85, Try.ntmps85
     go_wp2_with (first | ((with_reducible refine gate_dst (N := 1) rfl ?_); refine zx 1 #[.bool false, .int .u64 a0_1, .int .u64 a0_2] 36 ?_; intro gb598 hg w6 hbox hb; have BK598 := Aside0.mk (hbox); have GW598 := Aside0.mk ((by rw [hg]; exact (below_size (zB HB)) : w.heap.size ≤ gb598)); have GE598 := Aside0.mk ((by rw [hg]; exact (below_size (zB HB)) : w.heap.size ≤ gb598)); replace HB := Aside0.mk (below_step (zB HB) hb); clear hb hbox hg; obtain ⟨hcz7_0, hcz7_1, hcz7_2⟩ := zc3 BK598; obtain ⟨hfz7_0, hfz7_1, hfz7_2⟩ := zf3 BK598))
     go_ret
     exact ⟨by first | rfl | (simp [errW_none, errW_some] <;> rfl) | (simp [*, errW_none, errW_some] <;> rfl), by repeat (first | (with_reducible first | exact HB.out | apply below_alloc | apply pw_below_drewN | apply below_drew1 | refine below_set ?_ GE598.out) | exact HB.out)⟩
   · rw [if_neg c5] at H
     have c5b0 : (a0_1 == 0) = false := beq_eq_false_iff_ne.mpr c5
     have c5b1 : (a0_1 != 0) = true := bne_iff_ne.mpr c5
     obtain rfl := Option.some.inj H
     go_enter Try.func85, Try.ntmps85
     go_wp2_with (first | ((with_reducible refine gate_dst (N := 1) rfl ?_); refine zx 1 #[.bool false, .int .u64 a0_1, .int .u64 a0_2] 36 ?_; intro gb598 hg w8 hbox hb; have BK598 := Aside0.mk (hbox); have GW598 := Aside0.mk ((by rw [hg]; exact (below_size (zB HB)) : w.heap.size ≤ gb598)); have GE598 := Aside0.mk ((by rw [hg]; exact (below_size (zB HB)) : w.heap.size ≤ gb598)); replace HB := Aside0.mk (below_step (zB HB) hb); clear hb hbox hg; obtain ⟨hcz9_0, hcz9_1, hcz9_2⟩ := zc3 BK598; obtain ⟨hfz9_0, hfz9_1, hfz9_2⟩ := zf3 BK598))
     go_ret
     exact ⟨by first | rfl | (simp [errW_none, errW_some] <;> rfl) | (simp [*, errW_none, errW_some] <;> rfl), by repeat (first | (with_reducible first | exact HB.out | apply below_alloc | apply pw_below_drewN | apply below_drew1 | refine below_set ?_ GE598.out) | exact HB.out)⟩
end Go.Proofs.Ytcgfpffgiimgmaa.Q
end

section
namespace Go.Proofs.Ytcgfpffgiimgmaa.Q
open Go.RowKit Go.Proofs.YtcgfpffgiimgmaaW.PrintWords Go.Proofs.YtcgfpffgiimgmaaW.PrintLast Go.Proofs.YtcgfpffgiimgmaaW.PrintMore
attribute [local go_sem] max2_int min2_int max_two min_two max_three min_three max_four min_four
set_option linter.unusedVariables false
set_option linter.unusedSimpArgs false
def intrusionref07_Size.f (a0_0 : Bool) (a0_1 : Int) (a0_2 : Int) : Option (Int) := if a0_0 = true then (some 128) else (some 32)
set_option maxHeartbeats 8000000 in
set_option maxRecDepth 100000 in
theorem intrusionref07_Size.calls (a0_0 : Bool) (a0_1 : Int) (a0_2 : Int) (r : Int) (w : World) (h : intrusionref07_Size.f a0_0 a0_1 a0_2 = some r) :
 Calls Try.prog 111 #[.agg #[.bool a0_0, .int .u64 a0_1, .int .u64 a0_2]] w fun e w' => e = .returned (.int .i64 r) ∧ Below w.heap.size w w' := by
 have hu36 := Try.underlying36
 have HB := Aside0.mk (Below.refl w.heap.size w)
 unfold intrusionref07_Size.f at h; have H := h
 clear h
 by_cases c2 : a0_0 = true
 · subst c2
   rw [if_pos rfl] at H
   obtain rfl := Option.some.inj H
   go_enter Try.func111, Try.ntmps111
   go_wp2_with (first | ((with_reducible refine gate_dst (N := 1) rfl ?_); refine zx 1 #[.bool true, .int .u64 a0_1, .int .u64 a0_2] 36 ?_; intro gb681 hg w3 hbox hb; have BK681 := Aside0.mk (hbox); have GW681 := Aside0.mk ((by rw [hg]; exact (below_size (zB HB)) : w.heap.size ≤ gb681)); have GE681 := Aside0.mk ((by rw [hg]; exact (below_size (zB HB)) : w.heap.size ≤ gb681)); replace HB := Aside0.mk (below_step (zB HB) hb); clear hb hbox hg; obtain ⟨hcz4_0, hcz4_1, hcz4_2⟩ := zc3 BK681; obtain ⟨hfz4_0, hfz4_1, hfz4_2⟩ := zf3 BK681))
   go_ret
   exact ⟨by first | rfl | (simp [errW_none, errW_some] <;> rfl) | (simp [*, errW_none, errW_some] <;> rfl), by repeat (first | (with_reducible first | exact HB.out | apply below_alloc | apply pw_below_drewN | apply below_drew1 | refine below_set ?_ GE681.out) | exact HB.out)⟩
 · replace c2 := Bool.eq_false_iff.mpr c2
   subst c2
   rw [if_neg zF] at H
   obtain rfl := Option.some.inj H
   go_enter Try.func111, Try.ntmps111
   go_wp2_with (first | ((with_reducible refine gate_dst (N := 1) rfl ?_); refine zx 1 #[.bool false, .int .u64 a0_1, .int .u64 a0_2] 36 ?_; intro gb681 hg w5 hbox hb; have BK681 := Aside0.mk (hbox); have GW681 := Aside0.mk ((by rw [hg]; exact (below_size (zB HB)) : w.heap.size ≤ gb681)); have GE681 := Aside0.mk ((by rw [hg]; exact (below_size (zB HB)) : w.heap.size ≤ gb681)); replace HB := Aside0.mk (below_step (zB HB) hb); clear hb hbox hg; obtain ⟨hcz6_0, hcz6_1, hcz6_2⟩ := zc3 BK681; obtain ⟨hfz6_0, hfz6_1, hfz6_2⟩ := zf3 BK681))
   go_ret
   exact ⟨by first | rfl | (simp [errW_none, errW_some] <;> rfl) | (simp [*, errW_none, errW_some] <;> rfl), by repeat (first | (with_reducible first | exact HB.out | apply below_alloc | apply pw_below_drewN | apply below_drew1 | refine below_set ?_ GE681.out) | exact HB.out)⟩
end Go.Proofs.Ytcgfpffgiimgmaa.Q
end

section
namespace Go.Proofs.Ytcgfpffgiimgmaa.Q
open Go.RowKit Go.Proofs.YtcgfpffgiimgmaaW.PrintWords Go.Proofs.YtcgfpffgiimgmaaW.PrintLast Go.Proofs.YtcgfpffgiimgmaaW.PrintMore
attribute [local go_sem] max2_int min2_int max_two min_two max_three min_three max_four min_four
set_option linter.unusedVariables false
set_option linter.unusedSimpArgs false
def intrusionref07_low.f (a0 : Int) : Option (Int) := if a0 ≥ 64 then (some 18446744073709551615) else (if 0 ≤ (IntKind.u64.wrap (a0)) then (some (IntKind.u64.wrap ((shl .u64 1 (IntKind.u64.wrap (a0))) - 1))) else (none))
set_option maxHeartbeats 8000000 in
set_option maxRecDepth 100000 in
theorem intrusionref07_low.calls (a0 : Int) (r : Int) (w : World) (h : intrusionref07_low.f a0 = some r) :
 Calls Try.prog 136 #[.int .i64 a0] w fun e w' => e = .returned (.int .u64 r) ∧ Drawn0 w w' := by
 unfold intrusionref07_low.f at h; have H := h
 clear h
 by_cases c2 : a0 ≥ 64
 · rw [if_pos c2] at H
   have c2b0 : decide (64 ≤ a0) = true := decide_eq_true c2
   clear c2
   obtain rfl := Option.some.inj H
   go_enter Try.func136, Try.ntmps136
   go_wp2
   go_ret
   exact ⟨by first | rfl | (simp; done) | (simp [*]; done), by repeat (first | exact Drawn0.refl _ | apply Drawn0.step)⟩
 · rw [if_neg c2] at H
   have c2b0 : decide (64 ≤ a0) = false := decide_eq_false c2
   clear c2
   obtain ⟨ji3, hji3⟩ : ∃ j_ : Int, (IntKind.u64.wrap (a0)) = j_ := ⟨_, rfl⟩
   replace H : (if 0 ≤ (ji3) then (some (IntKind.u64.wrap ((shl .u64 1 (ji3)) - 1))) else (none)) = some r := by first | (rw [hji3] at H; exact H) | (simp only [hji3] at H ⊢; exact H)
   by_cases c4 : 0 ≤ (ji3)
   · rw [if_pos c4] at H
     have c4b0 := eq_true c4
     have c4b1 : decide (0 ≤ (ji3)) = true := decide_eq_true c4
     clear c4
     obtain ⟨ji5, hji5⟩ : ∃ j_ : Int, (shl .u64 1 (ji3)) = j_ := ⟨_, rfl⟩
     replace H : (some (IntKind.u64.wrap ((ji5) - 1))) = some r := by first | (rw [hji5] at H; exact H) | (simp only [hji5] at H ⊢; exact H)
     have hji5_ : (IntKind.u64.wrap (1 * 2 ^ min (ji3).toNat 64)) = ji5 := hji5
     have hji5z : (ji3) ≤ 64 → (IntKind.u64.wrap (1 * 2 ^ (ji3).toNat)) = ji5 := shl_small hji5
     have hji5u : (IntKind.u64.wrap (2 ^ min (ji3).toNat 64)) = ji5 := by have h_ := hji5_; rw [Int.one_mul] at h_; exact h_
     have hji5v : (ji3) ≤ 64 → (IntKind.u64.wrap (2 ^ (ji3).toNat)) = ji5 := fun hle_ => by have h_ := hji5z hle_; rw [Int.one_mul] at h_; exact h_
     obtain rfl := Option.some.inj H
     go_enter Try.func136, Try.ntmps136
     go_wp2
     go_ret
     exact ⟨by first | rfl | (simp; done) | (simp only [← hji3, ← hji5] <;> (first | rfl | simp)) | (simp [*]; done), by repeat (first | exact Drawn0.refl _ | apply Drawn0.step)⟩
   · rw [if_neg c4] at H
     exact absurd H (by simp)
end Go.Proofs.Ytcgfpffgiimgmaa.Q
end

section
namespace Go.Proofs.Ytcgfpffgiimgmaa.Q
open Go.RowKit Go.Proofs.YtcgfpffgiimgmaaW.PrintWords Go.Proofs.YtcgfpffgiimgmaaW.PrintLast Go.Proofs.YtcgfpffgiimgmaaW.PrintMore
attribute [local go_sem] max2_int min2_int max_two min_two max_three min_three max_four min_four
set_option linter.unusedVariables false
set_option linter.unusedSimpArgs false
def intrusionref07_Mask.f (a0 : Int) : Option (Int × Int) := if a0 ≤ 64 then ((intrusionref07_low.f a0).bind fun t682 => (some (0, t682))) else ((intrusionref07_low.f (wrap64 (a0 - 64))).bind fun t683 => ((intrusionref07_low.f 64).bind fun t684 => (some (t683, t684))))
set_option maxHeartbeats 8000000 in
set_option maxRecDepth 100000 in
theorem intrusionref07_Mask.calls (a0 : Int) (r1 : Int) (r2 : Int) (w : World) (h : intrusionref07_Mask.f a0 = some (r1, r2)) :
 Calls Try.prog 112 #[.int .i64 a0] w fun e w' => e = .returned (.tuple #[.int .u64 r1, .int .u64 r2]) ∧ Drawn0 w w' := by
 unfold intrusionref07_Mask.f at h; have H := h
 clear h
 by_cases c2 : a0 ≤ 64
 · rw [if_pos c2] at H
   have c2b0 : decide (a0 ≤ 64) = true := decide_eq_true c2
   clear c2
   replace H := Option.bind_eq_some_iff.mp H
   obtain ⟨t682, A30, H⟩ := H
   replace H : (some (0, t682)) = some (r1, r2) := H
   have A3 := Aside0.mk A30
   clear A30
   simp only [Option.some.injEq, Prod.mk.injEq] at H
   obtain ⟨rfl, rfl⟩ := H
   go_enter Try.func112, Try.ntmps112
   go_wp2_with (first | ((with_reducible refine gate_callee (f := 136) rfl ?_); refine goesL_ (some 7) rfl rfl Try.func136 (by kernel_rfl) rfl #[.int .i64 a0] rfl (by (try simp only [List.map_toArray, List.map_cons, List.map_nil]); first | done | rfl | (simp only [List.length_drop, List.length_take]; rfl)) ?_; (with_reducible refine (intrusionref07_low.calls a0 t682 _ A3.out).mono ?_); rintro e w' ⟨rfl, ⟨nd, rfl⟩⟩; refine ⟨_, rfl, ?_⟩))
   go_ret2
   exact ⟨by first | rfl | (simp; done) | (simp [*]; done), by repeat (first | exact Drawn0.refl _ | apply Drawn0.step)⟩
 · rw [if_neg c2] at H
   have c2b0 : decide (a0 ≤ 64) = false := decide_eq_false c2
   clear c2
   replace H := Option.bind_eq_some_iff.mp H
   obtain ⟨t683, A40, H⟩ := H
   replace H : ((intrusionref07_low.f 64).bind fun t684 => (some (t683, t684))) = some (r1, r2) := H
   have A4 := Aside0.mk A40
   clear A40
   replace H := Option.bind_eq_some_iff.mp H
   obtain ⟨t684, A50, H⟩ := H
   replace H : (some (t683, t684)) = some (r1, r2) := H
   have A5 := Aside0.mk A50
   clear A50
   simp only [Option.some.injEq, Prod.mk.injEq] at H
   obtain ⟨rfl, rfl⟩ := H
   go_enter Try.func112, Try.ntmps112
   go_wp2_with (first | ((with_reducible refine gate_callee (f := 136) rfl ?_); refine goesL_ (some 10) rfl rfl Try.func136 (by kernel_rfl) rfl #[.int .i64 (wrap64 (a0 - 64))] rfl (by (try simp only [List.map_toArray, List.map_cons, List.map_nil]); first | done | rfl | (simp only [List.length_drop, List.length_take]; rfl)) ?_; (with_reducible refine (intrusionref07_low.calls (wrap64 (a0 - 64)) t683 _ A4.out).mono ?_); rintro e w' ⟨rfl, ⟨nd, rfl⟩⟩; refine ⟨_, rfl, ?_⟩) | ((with_reducible refine gate_callee (f := 136) rfl ?_); refine goesL_ (some 11) rfl rfl Try.func136 (by kernel_rfl) rfl #[.int .i64 64] rfl (by (try simp only [List.map_toArray, List.map_cons, List.map_nil]); first | done | rfl | (simp only [List.length_drop, List.length_take]; rfl)) ?_; (with_reducible refine (intrusionref07_low.calls 64 t684 _ A5.out).mono ?_); rintro e w' ⟨rfl, ⟨nd, rfl⟩⟩; refine ⟨_, rfl, ?_⟩))
   go_ret2
   exact ⟨by first | rfl | (simp; done) | (simp [*]; done), by repeat (first | exact Drawn0.refl _ | apply Drawn0.step)⟩
end Go.Proofs.Ytcgfpffgiimgmaa.Q
end

section
namespace Go.Proofs.Ytcgfpffgiimgmaa.Q
open Go.RowKit Go.Proofs.YtcgfpffgiimgmaaW.PrintWords Go.Proofs.YtcgfpffgiimgmaaW.PrintLast Go.Proofs.YtcgfpffgiimgmaaW.PrintMore
attribute [local go_sem] max2_int min2_int max_two min_two max_three min_three max_four min_four
set_option linter.unusedVariables false
set_option linter.unusedSimpArgs false
def intrusionref07_Right.j0 : Nat → Bool → Bool → Int → Int → Int → Option (Bool)
  | 0, _, _, _, _, _ => none
  | k + 1, x21, x686000, x686001, x686002, x686003 => if x21 = true then (some false) else ((intrusionref07_Size.f x686000 x686001 x686002).bind fun t688 => ((intrusionref07_Mask.f (wrap64 (t688 - x686003))).bind fun bt689 => (if (Go.bits .and .u64 x686001 bt689.1) = 0 then (some ((Go.bits .and .u64 x686002 bt689.2) == 0)) else (some false))))
def intrusionref07_Right.f (k : Nat) (a0_0 : Bool) (a0_1 : Int) (a0_2 : Int) (a0_3 : Int) : Option (Bool) := (intrusionref07_Fine.f a0_0 a0_1 a0_2).bind fun t686 => (if t686 = true then (if a0_3 < 0 then (intrusionref07_Right.j0 k true a0_0 a0_1 a0_2 a0_3) else ((intrusionref07_Size.f a0_0 a0_1 a0_2).bind fun t687 => (intrusionref07_Right.j0 k (decide (a0_3 > t687)) a0_0 a0_1 a0_2 a0_3))) else (intrusionref07_Right.j0 k true a0_0 a0_1 a0_2 a0_3))
theorem intrusionref07_Right.mono_l : ∀ k, (∀ y0 y1 y2 y3 y4, LeO (intrusionref07_Right.j0 k y0 y1 y2 y3 y4) (intrusionref07_Right.j0 (k + 1) y0 y1 y2 y3 y4))
  | 0 => fun _ _ _ _ _ r h => by simp [intrusionref07_Right.j0] at h
  | k + 1 => by
    have ih0 := intrusionref07_Right.mono_l k
    · intro y0 y1 y2 y3 y4
      unfold intrusionref07_Right.j0
      repeat' first
      | (with_reducible exact ih0 _ _ _ _ _)
      | (with_reducible exact LeO.refl _)
      | (with_reducible exact LeO.none _)
      | (with_reducible refine LeO.ite ?_ ?_)
      | (with_reducible refine LeO.bind ?_ (fun _ => ?_))
      | exact ih0 _ _ _ _ _
      | exact LeO.none _
      | refine LeO.ite ?_ ?_
      | refine LeO.bind ?_ (fun _ => ?_)
theorem intrusionref07_Right.mono : ∀ a0 a1 a2 a3 k, LeO (intrusionref07_Right.f k a0 a1 a2 a3) (intrusionref07_Right.f (k + 1) a0 a1 a2 a3) := by
  intro a0 a1 a2 a3 k
  have ih0 := intrusionref07_Right.mono_l k
  unfold intrusionref07_Right.f
  repeat' first
      | (with_reducible exact ih0 _ _ _ _ _)
      | (with_reducible exact LeO.refl _)
      | (with_reducible exact LeO.none _)
      | (with_reducible refine LeO.ite ?_ ?_)
      | (with_reducible refine LeO.bind ?_ (fun _ => ?_))
      | exact ih0 _ _ _ _ _
      | exact LeO.none _
      | refine LeO.ite ?_ ?_
      | refine LeO.bind ?_ (fun _ => ?_)
def intrusionref07_Right.T1 : Bool × List (List Nat × List Nat) := (true, [([], []), ([0], [0]), ([1], [1]), ([2], [2]), ([3, 2], [3]), ([4], [4]), ([5, 4], [4, 5]), ([6, 4], [4, 6]), ([4, 7], [4, 7]), ([8, 4], [8]), ([9], [9]), ([10, 9], [9, 10]), ([9], [9]), ([12, 9], [9, 12]), ([13, 9, 9], [9, 13]), ([11, 14, 9], [9, 11, 14]), ([9, 15], [9, 15])])
def intrusionref07_Right.B1 : List Nat := [0, 1, 3, 7, 15, 31, 63, 127, 255, 511, 1023, 2047, 1023, 5119, 13311, 32767, 65535]
theorem intrusionref07_Right.tab1 : rtab .any (opsOf Try.f89 1) = intrusionref07_Right.T1 := by kernel_rfl
theorem intrusionref07_Right.bits1 : waitsOk intrusionref07_Right.T1.2 intrusionref07_Right.B1 = true := by kernel_rfl
def intrusionref07_Right.T3 : Bool × List (List Nat × List Nat) := (true, [([], []), ([0], [0]), ([1], [1]), ([], []), ([3], [3]), ([2, 4], [2, 4]), ([5, 2], [5]), ([6], [6]), ([7], [7]), ([7], [7]), ([8, 6, 0, 1, 2, 3, 4, 5, 6, 7, 8], [8]), ([9, 10, 0, 1, 2, 3, 4, 5, 6, 7, 8, 9, 10], [9])])
def intrusionref07_Right.B3 : List Nat := [0, 1, 3, 0, 8, 31, 63, 127, 255, 255, 511, 2047]
theorem intrusionref07_Right.tab3 : rtab .any (opsOf Try.f89 3) = intrusionref07_Right.T3 := by kernel_rfl
theorem intrusionref07_Right.bits3 : waitsOk intrusionref07_Right.T3.2 intrusionref07_Right.B3 = true := by kernel_rfl
set_option maxHeartbeats 8000000 in
set_option maxRecDepth 100000 in
theorem intrusionref07_Right.calls (k : Nat) (a0_0 : Bool) (a0_1 : Int) (a0_2 : Int) (a0_3 : Int) (r : Bool) (w : World) (h : intrusionref07_Right.f k a0_0 a0_1 a0_2 a0_3 = some r) :
 Calls Try.prog 89 #[.agg #[.bool a0_0, .int .u64 a0_1, .int .u64 a0_2, .int .i64 a0_3]] w fun e w' => e = .returned (.bool r) ∧ Below w.heap.size w w' := by
 have hu45 := Try.underlying45
 have hu36 := Try.underlying36
 have HB := Aside0.mk (Below.refl w.heap.size w)
 unfold intrusionref07_Right.f at h; have H := h
 clear h
 have HC2 := Aside0.mk H
 clear H
 go_enter Try.func89, Try.ntmps89
 go_upto_region 1 with (first | ((with_reducible refine gate_dst (N := 1) rfl ?_); refine zx 1 #[.bool a0_0, .int .u64 a0_1, .int .u64 a0_2, .int .i64 a0_3] 45 ?_; intro gb685 hg w3 hbox hb; have BK685 := Aside0.mk (hbox); have GW685 := Aside0.mk ((by rw [hg]; exact (below_size (zB HB)) : w.heap.size ≤ gb685)); have GE685 := Aside0.mk ((by rw [hg]; exact (below_size (zB HB)) : w.heap.size ≤ gb685)); replace HB := Aside0.mk (below_step (zB HB) hb); clear hb hbox hg))
 (try simp only [Act.put, List.setIfInBounds_toArray, List.set_cons_zero, List.set_cons_succ])
 go_cut [21] (fun v21 wc => ∃ (kq : Nat) (x21_1 : Bool), v21 = .bool x21_1 ∧ Aside0 (intrusionref07_Right.j0 kq x21_1 a0_0 a0_1 a0_2 a0_3 = some r) ∧ Aside0 (kq ≤ k) ∧ Aside0 (wc.heap[gb685]? = some (.cells #[.bool a0_0, .int .u64 a0_1, .int .u64 a0_2, .int .i64 a0_3] 45 (0, 0))) ∧ Aside0 (Below w.heap.size w wc))
 case first =>
  have H := HC2.out
  clear HC2
  replace H := Option.bind_eq_some_iff.mp H
  obtain ⟨t686, A40, H⟩ := H
  try dsimp only at H
  have A4 := Aside0.mk A40
  clear A40
  by_cases c5 : t686 = true
  · subst c5
    rw [if_pos rfl] at H
    by_cases c6 : a0_3 < 0
    · rw [if_pos c6] at H
      have c6b0 : decide (a0_3 < 0) = true := decide_eq_true c6
      clear c6
      (first | rw [c6b0] | (simp only [i64_w, i32_w]; rw [c6b0]) | skip)
      have H' := Aside0.mk H
      clear H
      try go_wp2
      replace BK685 := Aside0.mk (blk_drew BK685.out)
      replace HB := Aside0.mk (below_drew1 HB.out)
      refine start_ (n := 17) (S := fun w' => w'.cell? ⟨gb685, 0, none⟩ = some (.bool a0_0) ∧ w'.cell? ⟨gb685, 1, none⟩ = some (.int .u64 a0_1) ∧ w'.cell? ⟨gb685, 2, none⟩ = some (.int .u64 a0_2) ∧ w'.cell? ⟨gb685, 3, none⟩ = some (.int .i64 a0_3)) (ds := []) #[false, false, false, false, false, false, false, false, false, false, false, false, false, false, false, false, false] (by kernel_rfl) rfl rfl ⟨zc BK685 0, zc BK685 1, zc BK685 2, zc BK685 3⟩ (fun hHeld => ?_); refine with_tabW intrusionref07_Right.tab1 intrusionref07_Right.bits1 (fun HT_ HW_ => ?_)
      generalize w3.drew = w7 at BK685 HB hHeld ⊢
      refine zp 0 5 HT_ ?_; refine zt 1 6 HT_ HW_ hHeld ?_; refine zo 2 7 HT_ (fun K hK => ?_)
      refine zg Try.func85 #[.agg #[.bool a0_0, .int .u64 a0_1, .int .u64 a0_2]] ?_
      with_reducible refine (intrusionref07_Fine.calls a0_0 a0_1 a0_2 true _ A4.out).mono ?_
      rintro e w8 ⟨rfl, hb⟩
      refine ⟨_, rfl, ?_⟩
      replace BK685 := Aside0.mk (blk_below (g := gb685) (o := .cells #[.bool a0_0, .int .u64 a0_1, .int .u64 a0_2, .int .i64 a0_3] 45 (0, 0)) (zK BK685) hb)
      replace HB := Aside0.mk (below_step (zB HB) hb)
      (try clear hb)
      refine hK.out _ _ ⟨zc BK685 0, zc BK685 1, zc BK685 2, zc BK685 3⟩ (fun hHeld => ?_)
      clear hK K
      refine zn 7 ?_; refine zp 3 8 HT_ ?_; refine zp 4 9 HT_ ?_; refine zp 5 10 HT_ ?_; refine zt 6 11 HT_ HW_ hHeld ?_; refine zp 7 12 HT_ ?_; refine zp 8 13 HT_ ?_; refine zp 9 14 HT_ ?_; refine zu 10 15 HT_ ?_; refine zu 11 16 HT_ ?_; refine zu 12 17 HT_ ?_; refine zu 13 18 HT_ ?_; refine zu 14 19 HT_ ?_; refine zu 15 20 HT_ ?_; refine zp 16 21 HT_ ?_; refine zd HT_ ?_
      try go_wp2
      go_meet
      case rel => exact ⟨_, (true), (by first | rfl | (simp; done) | (simp [*]; done)), H', ⟨by first | omega | exact Nat.le_refl _⟩, ⟨zK BK685⟩, ⟨zB HB⟩⟩
    · rw [if_neg c6] at H
      have c6b0 : decide (a0_3 < 0) = false := decide_eq_false c6
      clear c6
      (first | rw [c6b0] | (simp only [i64_w, i32_w]; rw [c6b0]) | skip)
      replace H := Option.bind_eq_some_iff.mp H
      obtain ⟨t687, A90, H⟩ := H
      try dsimp only at H
      have A9 := Aside0.mk A90
      clear A90
      have H' := Aside0.mk H
      clear H
      try go_wp2
      replace BK685 := Aside0.mk (blk_drew BK685.out)
      replace HB := Aside0.mk (below_drew1 HB.out)
      refine start_ (n := 17) (S := fun w' => w'.cell? ⟨gb685, 0, none⟩ = some (.bool a0_0) ∧ w'.cell? ⟨gb685, 1, none⟩ = some (.int .u64 a0_1) ∧ w'.cell? ⟨gb685, 2, none⟩ = some (.int .u64 a0_2) ∧ w'.cell? ⟨gb685, 3, none⟩ = some (.int .i64 a0_3)) (ds := []) #[false, false, false, false, false, false, false, false, false, false, false, false, false, false, false, false, false] (by kernel_rfl) rfl rfl ⟨zc BK685 0, zc BK685 1, zc BK685 2, zc BK685 3⟩ (fun hHeld => ?_); refine with_tabW intrusionref07_Right.tab1 intrusionref07_Right.bits1 (fun HT_ HW_ => ?_)
      generalize w3.drew = w10 at BK685 HB hHeld ⊢
      refine zp 0 5 HT_ ?_; refine zt 1 6 HT_ HW_ hHeld ?_; refine zo 2 7 HT_ (fun K hK => ?_)
      refine zg Try.func85 #[.agg #[.bool a0_0, .int .u64 a0_1, .int .u64 a0_2]] ?_
      with_reducible refine (intrusionref07_Fine.calls a0_0 a0_1 a0_2 true _ A4.out).mono ?_
      rintro e w11 ⟨rfl, hb⟩
      refine ⟨_, rfl, ?_⟩
      replace BK685 := Aside0.mk (blk_below (g := gb685) (o := .cells #[.bool a0_0, .int .u64 a0_1, .int .u64 a0_2, .int .i64 a0_3] 45 (0, 0)) (zK BK685) hb)
      replace HB := Aside0.mk (below_step (zB HB) hb)
      (try clear hb)
      refine hK.out _ _ ⟨zc BK685 0, zc BK685 1, zc BK685 2, zc BK685 3⟩ (fun hHeld => ?_)
      clear hK K
      refine zn 7 ?_; refine zp 3 8 HT_ ?_; refine zp 4 9 HT_ ?_; refine zp 5 10 HT_ ?_; refine zt 6 11 HT_ HW_ hHeld ?_; refine zp 7 12 HT_ ?_; refine zp 8 13 HT_ ?_; refine zp 9 14 HT_ ?_; refine zp 10 15 HT_ ?_; refine zp 12 17 HT_ ?_; refine zt 11 16 HT_ HW_ hHeld ?_; refine zt 13 18 HT_ HW_ hHeld ?_; refine zo 14 19 HT_ (fun K hK => ?_)
      refine zg Try.func111 #[.agg #[.bool a0_0, .int .u64 a0_1, .int .u64 a0_2]] ?_
      with_reducible refine (intrusionref07_Size.calls a0_0 a0_1 a0_2 t687 _ A9.out).mono ?_
      rintro e w12 ⟨rfl, hb⟩
      refine ⟨_, rfl, ?_⟩
      replace BK685 := Aside0.mk (blk_below (g := gb685) (o := .cells #[.bool a0_0, .int .u64 a0_1, .int .u64 a0_2, .int .i64 a0_3] 45 (0, 0)) (zK BK685) hb)
      replace HB := Aside0.mk (below_step (zB HB) hb)
      (try clear hb)
      refine hK.out _ _ ⟨zc BK685 0, zc BK685 1, zc BK685 2, zc BK685 3⟩ (fun hHeld => ?_)
      clear hK K
      refine zn 19 ?_; refine zp 15 20 HT_ ?_; refine zp 16 21 HT_ ?_; refine zd HT_ ?_
      try go_wp2
      go_meet
      case rel => exact ⟨_, (decide (a0_3 > t687)), (by first | rfl | (simp; done) | (simp [*]; done)), H', ⟨by first | omega | exact Nat.le_refl _⟩, ⟨zK BK685⟩, ⟨zB HB⟩⟩
  · replace c5 := Bool.eq_false_iff.mpr c5
    subst c5
    rw [if_neg zF] at H
    have H' := Aside0.mk H
    clear H
    try go_wp2
    replace BK685 := Aside0.mk (blk_drew BK685.out)
    replace HB := Aside0.mk (below_drew1 HB.out)
    refine start_ (n := 17) (S := fun w' => w'.cell? ⟨gb685, 0, none⟩ = some (.bool a0_0) ∧ w'.cell? ⟨gb685, 1, none⟩ = some (.int .u64 a0_1) ∧ w'.cell? ⟨gb685, 2, none⟩ = some (.int .u64 a0_2) ∧ w'.cell? ⟨gb685, 3, none⟩ = some (.int .i64 a0_3)) (ds := []) #[false, false, false, false, false, false, false, false, false, false, false, false, false, false, false, false, false] (by kernel_rfl) rfl rfl ⟨zc BK685 0, zc BK685 1, zc BK685 2, zc BK685 3⟩ (fun hHeld => ?_); refine with_tabW intrusionref07_Right.tab1 intrusionref07_Right.bits1 (fun HT_ HW_ => ?_)
    generalize w3.drew = w13 at BK685 HB hHeld ⊢
    refine zp 0 5 HT_ ?_; refine zt 1 6 HT_ HW_ hHeld ?_; refine zo 2 7 HT_ (fun K hK => ?_)
    refine zg Try.func85 #[.agg #[.bool a0_0, .int .u64 a0_1, .int .u64 a0_2]] ?_
    with_reducible refine (intrusionref07_Fine.calls a0_0 a0_1 a0_2 false _ A4.out).mono ?_
    rintro e w14 ⟨rfl, hb⟩
    refine ⟨_, rfl, ?_⟩
    replace BK685 := Aside0.mk (blk_below (g := gb685) (o := .cells #[.bool a0_0, .int .u64 a0_1, .int .u64 a0_2, .int .i64 a0_3] 45 (0, 0)) (zK BK685) hb)
    replace HB := Aside0.mk (below_step (zB HB) hb)
    (try clear hb)
    refine hK.out _ _ ⟨zc BK685 0, zc BK685 1, zc BK685 2, zc BK685 3⟩ (fun hHeld => ?_)
    clear hK K
    refine zn 7 ?_; refine zp 3 8 HT_ ?_; refine zp 4 9 HT_ ?_; refine zu 5 10 HT_ ?_; refine zu 6 11 HT_ ?_; refine zu 7 12 HT_ ?_; refine zp 8 13 HT_ ?_; refine zp 9 14 HT_ ?_; refine zu 10 15 HT_ ?_; refine zu 11 16 HT_ ?_; refine zu 12 17 HT_ ?_; refine zu 13 18 HT_ ?_; refine zu 14 19 HT_ ?_; refine zu 15 20 HT_ ?_; refine zp 16 21 HT_ ?_; refine zd HT_ ?_
    try go_wp2
    go_meet
    case rel => exact ⟨_, (true), (by first | rfl | (simp; done) | (simp [*]; done)), H', ⟨by first | omega | exact Nat.le_refl _⟩, ⟨zK BK685⟩, ⟨zB HB⟩⟩
 case rest =>
  clear HC2
  try clear c1
  try clear p2
  try clear c5
  try clear c6
  try clear c6b0
  try clear c8
  try clear c11
  obtain ⟨kq, x21_1, rfl, HA, HJ1, BK685, HB⟩ := hcut
  cases kq with
  | zero => exact absurd HA.out (by simp [intrusionref07_Right.j0])
  | succ kj1 =>
   have H := HA.out
   clear HA
   simp only [intrusionref07_Right.j0] at H
   by_cases c15 : x21_1 = true
   · subst c15
     rw [if_pos rfl] at H
     obtain rfl := Option.some.inj H
     go_wp2
     go_ret
     exact ⟨by first | rfl | (simp [errW_none, errW_some] <;> rfl) | (simp [*, errW_none, errW_some] <;> rfl), by repeat (first | (with_reducible first | exact HB.out | apply below_alloc | apply pw_below_drewN | apply below_drew1 | refine below_set ?_ GE685.out) | exact HB.out)⟩
   · replace c15 := Bool.eq_false_iff.mpr c15
     subst c15
     rw [if_neg zF] at H
     replace H := Option.bind_eq_some_iff.mp H
     obtain ⟨t688, A160, H⟩ := H
     try dsimp only at H
     have A16 := Aside0.mk A160
     clear A160
     replace H := Option.bind_eq_some_iff.mp H
     obtain ⟨⟨t689, t690⟩, A170, H⟩ := H
     try dsimp only at H
     have A17 := Aside0.mk A170
     clear A170
     by_cases c18 : (Go.bits .and .u64 a0_1 t689) = 0
     · rw [if_pos c18] at H
       have c18b0 : ((Go.bits .and .u64 a0_1 t689) == 0) = true := beq_iff_eq.mpr c18
       have c18b1 : ((Go.bits .and .u64 a0_1 t689) != 0) = false := bne_eq_false_iff_eq.mpr c18
       clear c18
       obtain rfl := Option.some.inj H
       try go_wp2
       replace BK685 := Aside0.mk (blk_drew BK685.out)
       replace HB := Aside0.mk (below_drew1 HB.out)
       refine start_ (n := 12) (S := fun w' => w'.cell? ⟨gb685, 0, none⟩ = some (.bool a0_0) ∧ w'.cell? ⟨gb685, 1, none⟩ = some (.int .u64 a0_1) ∧ w'.cell? ⟨gb685, 2, none⟩ = some (.int .u64 a0_2) ∧ w'.cell? ⟨gb685, 3, none⟩ = some (.int .i64 a0_3)) (ds := []) #[false, false, false, false, false, false, false, false, false, false, false, false] (by kernel_rfl) rfl rfl ⟨zc BK685 0, zc BK685 1, zc BK685 2, zc BK685 3⟩ (fun hHeld => ?_); refine with_tabW intrusionref07_Right.tab3 intrusionref07_Right.bits3 (fun HT_ HW_ => ?_)
       generalize wc.drew = w19 at BK685 HB hHeld ⊢
       refine zp 0 23 HT_ ?_; refine zp 3 26 HT_ ?_; refine zt 1 24 HT_ HW_ hHeld ?_; refine zt 4 27 HT_ HW_ hHeld ?_; refine zo 2 25 HT_ (fun K hK => ?_)
       refine zg Try.func111 #[.agg #[.bool a0_0, .int .u64 a0_1, .int .u64 a0_2]] ?_
       with_reducible refine (intrusionref07_Size.calls a0_0 a0_1 a0_2 t688 _ A16.out).mono ?_
       rintro e w20 ⟨rfl, hb⟩
       refine ⟨_, rfl, ?_⟩
       replace BK685 := Aside0.mk (blk_below (g := gb685) (o := .cells #[.bool a0_0, .int .u64 a0_1, .int .u64 a0_2, .int .i64 a0_3] 45 (0, 0)) (zK BK685) hb)
       replace HB := Aside0.mk (below_step (zB HB) hb)
       (try clear hb)
       refine hK.out _ _ ⟨zc BK685 0, zc BK685 1, zc BK685 2, zc BK685 3⟩ (fun hHeld => ?_)
       clear hK K
       refine zn 25 ?_; refine zp 5 28 HT_ ?_; refine zo 6 29 HT_ (fun K hK => ?_)
       refine zg Try.func112 #[.int .i64 (wrap64 (t688 - a0_3))] ?_
       with_reducible refine (intrusionref07_Mask.calls (wrap64 (t688 - a0_3)) t689 t690 _ A17.out).mono ?_
       rintro e w' ⟨rfl, ⟨nd, rfl⟩⟩
       refine ⟨_, rfl, ?_⟩
       refine hK.out _ _ ⟨zc BK685 0, zc BK685 1, zc BK685 2, zc BK685 3⟩ (fun hHeld => ?_)
       clear hK K
       refine zn 29 ?_; refine zp 7 22 HT_ ?_; refine zp 8 30 HT_ ?_; refine zp 9 31 HT_ ?_; refine zp 10 3 HT_ ?_; refine zp 11 4 HT_ ?_; refine zd HT_ ?_
       obtain ⟨hcz21_0, hcz21_1, hcz21_2, hcz21_3⟩ := zc4 BK685
       obtain ⟨hfz21_0, hfz21_1, hfz21_2, hfz21_3⟩ := zf4 BK685
       try go_wp2
       go_ret
       exact ⟨by first | rfl | (simp [errW_none, errW_some] <;> rfl) | (simp [*, errW_none, errW_some] <;> rfl), by repeat (first | (with_reducible first | exact HB.out | apply below_alloc | apply pw_below_drewN | apply below_drew1 | refine below_set ?_ GE685.out) | exact HB.out)⟩
     · rw [if_neg c18] at H
       have c18b0 : ((Go.bits .and .u64 a0_1 t689) == 0) = false := beq_eq_false_iff_ne.mpr c18
       have c18b1 : ((Go.bits .and .u64 a0_1 t689) != 0) = true := bne_iff_ne.mpr c18
       obtain rfl := Option.some.inj H
       try go_wp2
       replace BK685 := Aside0.mk (blk_drew BK685.out)
       replace HB := Aside0.mk (below_drew1 HB.out)
       refine start_ (n := 12) (S := fun w' => w'.cell? ⟨gb685, 0, none⟩ = some (.bool a0_0) ∧ w'.cell? ⟨gb685, 1, none⟩ = some (.int .u64 a0_1) ∧ w'.cell? ⟨gb685, 2, none⟩ = some (.int .u64 a0_2) ∧ w'.cell? ⟨gb685, 3, none⟩ = some (.int .i64 a0_3)) (ds := []) #[false, false, false, false, false, false, false, false, false, false, false, false] (by kernel_rfl) rfl rfl ⟨zc BK685 0, zc BK685 1, zc BK685 2, zc BK685 3⟩ (fun hHeld => ?_); refine with_tabW intrusionref07_Right.tab3 intrusionref07_Right.bits3 (fun HT_ HW_ => ?_)
       generalize wc.drew = w22 at BK685 HB hHeld ⊢
       refine zp 0 23 HT_ ?_; refine zp 3 26 HT_ ?_; refine zt 1 24 HT_ HW_ hHeld ?_; refine zt 4 27 HT_ HW_ hHeld ?_; refine zo 2 25 HT_ (fun K hK => ?_)
       refine zg Try.func111 #[.agg #[.bool a0_0, .int .u64 a0_1, .int .u64 a0_2]] ?_
       with_reducible refine (intrusionref07_Size.calls a0_0 a0_1 a0_2 t688 _ A16.out).mono ?_
       rintro e w23 ⟨rfl, hb⟩
       refine ⟨_, rfl, ?_⟩
       replace BK685 := Aside0.mk (blk_below (g := gb685) (o := .cells #[.bool a0_0, .int .u64 a0_1, .int .u64 a0_2, .int .i64 a0_3] 45 (0, 0)) (zK BK685) hb)
       replace HB := Aside0.mk (below_step (zB HB) hb)
       (try clear hb)
       refine hK.out _ _ ⟨zc BK685 0, zc BK685 1, zc BK685 2, zc BK685 3⟩ (fun hHeld => ?_)
       clear hK K
       refine zn 25 ?_; refine zp 5 28 HT_ ?_; refine zo 6 29 HT_ (fun K hK => ?_)
       refine zg Try.func112 #[.int .i64 (wrap64 (t688 - a0_3))] ?_
       with_reducible refine (intrusionref07_Mask.calls (wrap64 (t688 - a0_3)) t689 t690 _ A17.out).mono ?_
       rintro e w' ⟨rfl, ⟨nd, rfl⟩⟩
       refine ⟨_, rfl, ?_⟩
       refine hK.out _ _ ⟨zc BK685 0, zc BK685 1, zc BK685 2, zc BK685 3⟩ (fun hHeld => ?_)
       clear hK K
       refine zn 29 ?_; refine zp 7 22 HT_ ?_; refine zp 8 30 HT_ ?_; refine zp 9 31 HT_ ?_; refine zp 10 3 HT_ ?_; refine zp 11 4 HT_ ?_; refine zd HT_ ?_
       obtain ⟨hcz24_0, hcz24_1, hcz24_2, hcz24_3⟩ := zc4 BK685
       obtain ⟨hfz24_0, hfz24_1, hfz24_2, hfz24_3⟩ := zf4 BK685
       try go_wp2
       go_ret
       exact ⟨by first | rfl | (simp [errW_none, errW_some] <;> rfl) | (simp [*, errW_none, errW_some] <;> rfl), by repeat (first | (with_reducible first | exact HB.out | apply below_alloc | apply pw_below_drewN | apply below_drew1 | refine below_set ?_ GE685.out) | exact HB.out)⟩
end Go.Proofs.Ytcgfpffgiimgmaa.Q
end

section
namespace Go.Proofs.Ytcgfpffgiimgmaa.Q
open Go.RowKit Go.Proofs.YtcgfpffgiimgmaaW.PrintWords Go.Proofs.YtcgfpffgiimgmaaW.PrintLast Go.Proofs.YtcgfpffgiimgmaaW.PrintMore
attribute [local go_sem] max2_int min2_int max_two min_two max_three min_three max_four min_four
set_option linter.unusedVariables false
set_option linter.unusedSimpArgs false
def intrusionref07_Block.f (a0_0 : Bool) (a0_1 : Int) (a0_2 : Int) (a0_3 : Int) : Option (Bool × Int × Int × Bool × Int × Int) := (intrusionref07_Size.f a0_0 a0_1 a0_2).bind fun t693 => ((intrusionref07_Mask.f (wrap64 (t693 - a0_3))).bind fun bt694 => (some (a0_0, a0_1, a0_2, a0_0, Go.bits .or .u64 a0_1 bt694.1, Go.bits .or .u64 a0_2 bt694.2)))
def intrusionref07_Block.T1 : Bool × List (List Nat × List Nat) := (true, [([], []), ([0], [0]), ([1], [1]), ([], []), ([3], [3]), ([2, 4], [2, 4]), ([5, 2], [5]), ([6], [6]), ([7], [7]), ([7], [7]), ([8, 6, 0, 1, 2, 3, 4, 5, 6, 7, 8], [8]), ([9, 10, 0, 1, 2, 3, 4, 5, 6, 7, 8, 9, 10], [9])])
def intrusionref07_Block.B1 : List Nat := [0, 1, 3, 0, 8, 31, 63, 127, 255, 255, 511, 2047]
theorem intrusionref07_Block.tab1 : rtab .any (opsOf Try.f90 1) = intrusionref07_Block.T1 := by kernel_rfl
theorem intrusionref07_Block.bits1 : waitsOk intrusionref07_Block.T1.2 intrusionref07_Block.B1 = true := by kernel_rfl
set_option maxHeartbeats 8000000 in
set_option maxRecDepth 100000 in
theorem intrusionref07_Block.calls (a0_0 : Bool) (a0_1 : Int) (a0_2 : Int) (a0_3 : Int) (r1 : Bool) (r2 : Int) (r3 : Int) (r4 : Bool) (r5 : Int) (r6 : Int) (w : World) (h : intrusionref07_Block.f a0_0 a0_1 a0_2 a0_3 = some (r1, r2, r3, r4, r5, r6)) :
 Calls Try.prog 90 #[.agg #[.bool a0_0, .int .u64 a0_1, .int .u64 a0_2, .int .i64 a0_3]] w fun e w' => e = .returned (.agg #[.bool r1, .int .u64 r2, .int .u64 r3, .bool r4, .int .u64 r5, .int .u64 r6]) ∧ Below w.heap.size w w' := by
 have hu45 := Try.underlying45
 have hu66 := Try.underlying66
 have hu36 := Try.underlying36
 have HB := Aside0.mk (Below.refl w.heap.size w)
 unfold intrusionref07_Block.f at h; have H := h
 clear h
 replace H := Option.bind_eq_some_iff.mp H
 obtain ⟨t693, A20, H⟩ := H
 replace H : ((intrusionref07_Mask.f (wrap64 (t693 - a0_3))).bind fun bt694 => (some (a0_0, a0_1, a0_2, a0_0, Go.bits .or .u64 a0_1 bt694.1, Go.bits .or .u64 a0_2 bt694.2))) = some (r1, r2, r3, r4, r5, r6) := H
 have A2 := Aside0.mk A20
 clear A20
 replace H := Option.bind_eq_some_iff.mp H
 obtain ⟨⟨t694, t695⟩, A30, H⟩ := H
 replace H : (some (a0_0, a0_1, a0_2, a0_0, Go.bits .or .u64 a0_1 t694, Go.bits .or .u64 a0_2 t695)) = some (r1, r2, r3, r4, r5, r6) := H
 have A3 := Aside0.mk A30
 clear A30
 simp only [Option.some.injEq, Prod.mk.injEq] at H
 obtain ⟨rfl, rfl, rfl, rfl, rfl, rfl⟩ := H
 go_enter Try.func90, Try.ntmps90
 try go_wp2_with (first | ((with_reducible refine gate_dst (N := 1) rfl ?_); refine zx 1 #[.bool a0_0, .int .u64 a0_1, .int .u64 a0_2, .int .i64 a0_3] 45 ?_; intro gb691 hg w4 hbox hb; have BK691 := Aside0.mk (hbox); have GW691 := Aside0.mk ((by rw [hg]; exact (below_size (zB HB)) : w.heap.size ≤ gb691)); have GE691 := Aside0.mk ((by rw [hg]; exact (below_size (zB HB)) : w.heap.size ≤ gb691)); replace HB := Aside0.mk (below_step (zB HB) hb); clear hb hbox hg) | ((with_reducible refine gate_dst (N := 2) rfl ?_); refine zx 2 #[.bool false, .int .u64 0, .int .u64 0, .bool false, .int .u64 0, .int .u64 0] 66 ?_; intro gb692 hg w5 hbox hb; have BK692 := Aside0.mk (hbox); have GW692 := Aside0.mk ((by rw [hg]; exact (below_size (zB HB)) : w.heap.size ≤ gb692)); have GE692 := Aside0.mk ((by rw [hg]; exact (below_size (zB HB)) : w.heap.size ≤ gb692)); replace HB := Aside0.mk (below_step (zB HB) hb); have NB691_692 := Aside0.mk ((by rw [hg]; exact Nat.ne_of_lt (blk_lt (g := gb691) (o := .cells #[.bool a0_0, .int .u64 a0_1, .int .u64 a0_2, .int .i64 a0_3] 45 (0, 0)) (zK BK691)) : gb691 ≠ gb692)); have NB692_691 := Aside0.mk ((by rw [hg]; exact Nat.ne_of_gt (blk_lt (g := gb691) (o := .cells #[.bool a0_0, .int .u64 a0_1, .int .u64 a0_2, .int .i64 a0_3] 45 (0, 0)) (zK BK691)) : gb692 ≠ gb691)); replace BK691 := Aside0.mk (blk_below (g := gb691) (o := .cells #[.bool a0_0, .int .u64 a0_1, .int .u64 a0_2, .int .i64 a0_3] 45 (0, 0)) (zK BK691) hb); clear hb hbox hg))
 replace BK691 := Aside0.mk (blk_drew BK691.out)
 replace BK692 := Aside0.mk (blk_drew BK692.out)
 replace HB := Aside0.mk (below_drew1 HB.out)
 refine start_ (n := 12) (S := fun w' => w'.cell? ⟨gb691, 0, none⟩ = some (.bool a0_0) ∧ w'.cell? ⟨gb691, 1, none⟩ = some (.int .u64 a0_1) ∧ w'.cell? ⟨gb691, 2, none⟩ = some (.int .u64 a0_2) ∧ w'.cell? ⟨gb691, 3, none⟩ = some (.int .i64 a0_3)) (ds := []) #[false, false, false, false, false, false, false, false, false, false, false, false] (by kernel_rfl) rfl rfl ⟨zc BK691 0, zc BK691 1, zc BK691 2, zc BK691 3⟩ (fun hHeld => ?_); refine with_tabW intrusionref07_Block.tab1 intrusionref07_Block.bits1 (fun HT_ HW_ => ?_)
 generalize w5.drew = w6 at BK691 BK692 HB hHeld ⊢
 refine zp 0 6 HT_ ?_; refine zp 3 9 HT_ ?_; refine zt 1 7 HT_ HW_ hHeld ?_; refine zt 4 10 HT_ HW_ hHeld ?_; refine zo 2 8 HT_ (fun K hK => ?_)
 refine zg Try.func111 #[.agg #[.bool a0_0, .int .u64 a0_1, .int .u64 a0_2]] ?_
 with_reducible refine (intrusionref07_Size.calls a0_0 a0_1 a0_2 t693 _ A2.out).mono ?_
 rintro e w7 ⟨rfl, hb⟩
 refine ⟨_, rfl, ?_⟩
 replace BK691 := Aside0.mk (blk_below (g := gb691) (o := .cells #[.bool a0_0, .int .u64 a0_1, .int .u64 a0_2, .int .i64 a0_3] 45 (0, 0)) (zK BK691) hb)
 replace BK692 := Aside0.mk (blk_below (g := gb692) (o := .cells #[.bool false, .int .u64 0, .int .u64 0, .bool false, .int .u64 0, .int .u64 0] 66 (0, 0)) (zK BK692) hb)
 replace HB := Aside0.mk (below_step (zB HB) hb)
 (try clear hb)
 refine hK.out _ _ ⟨zc BK691 0, zc BK691 1, zc BK691 2, zc BK691 3⟩ (fun hHeld => ?_)
 clear hK K
 refine zn 8 ?_; refine zp 5 11 HT_ ?_; refine zo 6 12 HT_ (fun K hK => ?_)
 refine zg Try.func112 #[.int .i64 (wrap64 (t693 - a0_3))] ?_
 with_reducible refine (intrusionref07_Mask.calls (wrap64 (t693 - a0_3)) t694 t695 _ A3.out).mono ?_
 rintro e w' ⟨rfl, ⟨nd, rfl⟩⟩
 refine ⟨_, rfl, ?_⟩
 refine hK.out _ _ ⟨zc BK691 0, zc BK691 1, zc BK691 2, zc BK691 3⟩ (fun hHeld => ?_)
 clear hK K
 refine zn 12 ?_; refine zp 7 5 HT_ ?_; refine zp 8 13 HT_ ?_; refine zp 9 14 HT_ ?_; refine zp 10 3 HT_ ?_; refine zp 11 4 HT_ ?_; refine zd HT_ ?_
 have hnb8 := NB691_692.out
 have hnc8 := NB692_691.out
 obtain ⟨hcz9_0, hcz9_1, hcz9_2, hcz9_3⟩ := zc4 BK691
 obtain ⟨hfz9_0, hfz9_1, hfz9_2, hfz9_3⟩ := zf4 BK691
 obtain ⟨hcz10_0, hcz10_1, hcz10_2, hcz10_3, hcz10_4, hcz10_5⟩ := zc6 BK692
 obtain ⟨hfz10_0, hfz10_1, hfz10_2, hfz10_3, hfz10_4, hfz10_5⟩ := zf6 BK692
 try go_wp2
 refine bodyPost_ret (results_cell_row rfl _ _ gb692 66 #[.bool a0_0, .int .u64 a0_1, .int .u64 a0_2, .bool a0_0, .int .u64 (Go.bits .or .u64 a0_1 t694), .int .u64 (Go.bits .or .u64 a0_2 t695)] (0, 0) _ rfl (by refine zL ?_; refine blk_put (cs := #[.bool a0_0, .int .u64 a0_1, .int .u64 a0_2, .bool a0_0, .int .u64 (Go.bits .or .u64 a0_1 t694), .int .u64 0]) ?_ 5 _ rfl; refine zL ?_; refine blk_put (cs := #[.bool a0_0, .int .u64 a0_1, .int .u64 a0_2, .bool a0_0, .int .u64 0, .int .u64 0]) ?_ 4 _ rfl; refine zL ?_; refine blk_put (cs := #[.bool a0_0, .int .u64 a0_1, .int .u64 a0_2, .bool false, .int .u64 0, .int .u64 0]) ?_ 3 _ rfl; refine zL ?_; refine blk_put (cs := #[.bool a0_0, .int .u64 a0_1, .int .u64 0, .bool false, .int .u64 0, .int .u64 0]) ?_ 2 _ rfl; refine zL ?_; refine blk_put (cs := #[.bool a0_0, .int .u64 0, .int .u64 0, .bool false, .int .u64 0, .int .u64 0]) ?_ 1 _ rfl; refine zL ?_; refine blk_put (cs := #[.bool false, .int .u64 0, .int .u64 0, .bool false, .int .u64 0, .int .u64 0]) ?_ 0 _ rfl; refine zL ?_; exact BK692.out) Try.underlying66 rfl (by kernel_rfl)) rfl ?_
 exact ⟨by first | rfl | (simp [errW_none, errW_some] <;> rfl) | (simp [*, errW_none, errW_some] <;> rfl), by repeat (first | (with_reducible first | exact HB.out | apply below_alloc | apply pw_below_drewN | apply below_drew1 | refine below_set ?_ GE691.out | refine below_set ?_ GE692.out) | exact HB.out)⟩
end Go.Proofs.Ytcgfpffgiimgmaa.Q
end

section
namespace Go.Proofs.Ytcgfpffgiimgmaa.Q
open Go.RowKit Go.Proofs.YtcgfpffgiimgmaaW.PrintWords Go.Proofs.YtcgfpffgiimgmaaW.PrintLast Go.Proofs.YtcgfpffgiimgmaaW.PrintMore
attribute [local go_sem] max2_int min2_int max_two min_two max_three min_three max_four min_four
set_option linter.unusedVariables false
set_option linter.unusedSimpArgs false
def intrusionref07_Of.l0 : Nat → List (S45) → List (S66) → Int → Option ((List (S66)))
  | 0, _, _, _ => none
  | k + 1, x0, x3, x4 => if x4 < (x0.length : Int) then (if 0 ≤ x4 then ((intrusionref07_Right.f k ((rd_T45 x0 x4).f0.f0) ((rd_T45 x0 x4).f0.f1) ((rd_T45 x0 x4).f0.f2) ((rd_T45 x0 x4).f1)).bind fun t767 => (if t767 = true then ((intrusionref07_Block.f ((rd_T45 x0 x4).f0.f0) ((rd_T45 x0 x4).f0.f1) ((rd_T45 x0 x4).f0.f2) ((rd_T45 x0 x4).f1)).bind fun bt769 => ((intrusionref07_add.f k x3 bt769.1 bt769.2.1 bt769.2.2.1 bt769.2.2.2.1 bt769.2.2.2.2.1 bt769.2.2.2.2.2).bind fun t775 => (intrusionref07_Of.l0 k x0 t775 (wrap64 (x4 + 1))))) else (intrusionref07_Of.l0 k x0 x3 (wrap64 (x4 + 1))))) else (none)) else (some x3)
def intrusionref07_Of.f (k : Nat) (l0 : List (S45)) : Option ((List (S66))) := intrusionref07_Of.l0 k l0 ([] : List (S66)) 0
theorem intrusionref07_Of.mono_l : ∀ k, (∀ y0 y1 y2, LeO (intrusionref07_Of.l0 k y0 y1 y2) (intrusionref07_Of.l0 (k + 1) y0 y1 y2))
  | 0 => fun _ _ _ r h => by simp [intrusionref07_Of.l0] at h
  | k + 1 => by
    have ih0 := intrusionref07_Of.mono_l k
    · intro y0 y1 y2
      unfold intrusionref07_Of.l0
      repeat' first
      | (with_reducible exact ih0 _ _ _)
      | (with_reducible exact intrusionref07_Right.mono _ _ _ _ _)
      | (with_reducible exact intrusionref07_add.mono _ _ _ _ _ _ _ _)
      | (with_reducible exact LeO.refl _)
      | (with_reducible exact LeO.none _)
      | (with_reducible refine LeO.ite ?_ ?_)
      | (with_reducible refine LeO.bind ?_ (fun _ => ?_))
      | exact ih0 _ _ _
      | exact intrusionref07_Right.mono _ _ _ _ _
      | exact intrusionref07_add.mono _ _ _ _ _ _ _ _
      | exact LeO.none _
      | refine LeO.ite ?_ ?_
      | refine LeO.bind ?_ (fun _ => ?_)
theorem intrusionref07_Of.mono : ∀ a0 k, LeO (intrusionref07_Of.f k a0) (intrusionref07_Of.f (k + 1) a0) := by
  intro a0 k
  have ih0 := intrusionref07_Of.mono_l k
  unfold intrusionref07_Of.f
  repeat' first
      | (with_reducible exact ih0 _ _ _)
      | (with_reducible exact intrusionref07_Right.mono _ _ _ _ _)
      | (with_reducible exact intrusionref07_add.mono _ _ _ _ _ _ _ _)
      | (with_reducible exact LeO.refl _)
      | (with_reducible exact LeO.none _)
      | (with_reducible refine LeO.ite ?_ ?_)
      | (with_reducible refine LeO.bind ?_ (fun _ => ?_))
      | exact ih0 _ _ _
      | exact intrusionref07_Right.mono _ _ _ _ _
      | exact intrusionref07_add.mono _ _ _ _ _ _ _ _
      | exact LeO.none _
      | refine LeO.ite ?_ ?_
      | refine LeO.bind ?_ (fun _ => ?_)
set_option maxHeartbeats 8000000 in
set_option maxRecDepth 100000 in
theorem intrusionref07_Of.calls (k : Nat) (A0 : Option Addr) (c0 : Nat) (l0 : List (S45)) (r : List (S66)) (w : World) (hr0 : Kd.C k45 w A0 l0.length l0) (hc0 : l0.length ≤ c0) (h : intrusionref07_Of.f k l0 = some r) :
 Calls Try.prog 49 #[.slice A0 l0.length c0] w fun e w' => ∃ v0_ : Value, e = .returned (v0_) ∧ Kd.R k66 66 w' w.heap.size (fun _ => True) v0_ r ∧ Below w.heap.size w w' := by
 have hu45 := Try.underlying45
 have HR0 := Aside0.mk hr0
 have HC0 := Aside0.mk hc0
 clear hr0 hc0
 have HB := Aside0.mk (Below.refl w.heap.size w)
 unfold intrusionref07_Of.f at h; have H := h
 clear h
 have H' := Aside0.mk H
 clear H
 go_enter Try.func49, Try.ntmps49
 go_wp2
 go_loopg [3, 4] k (fun kq v3 v4 w' => ∃ (x3_1 : List (S66)) (x4_1 : Int), v4 = .int .i64 x4_1 ∧ Aside0 (intrusionref07_Of.l0 kq l0 x3_1 x4_1 = some r) ∧ Aside0 (kq ≤ k) ∧ Aside0 (Kd.R k66 66 w' w.heap.size (fun _ => True) v3 x3_1) ∧ Aside0 (Below w.heap.size w w'))
 case atStart => exact ⟨(([] : List (S66))), (0), (by first | rfl | (simp; done) | (simp [*]; done)), H', ⟨Nat.le_refl _⟩, ⟨by first | exact Kd.R_nil _ _ _ _ _ | exact Kd.N_nil _ _ _ _ _ | exact Kd.V_nil _ _ _ _ _ | exact Kd.Q_nil _ _ _ _ _ | exact Kd.S_nil _ _ _ _ _⟩, ⟨zB HB⟩⟩
 case round =>
  clear H'
  obtain ⟨x3_1, x4_1, rfl, HA, HK1, HO_3, HB⟩ := hrel
  cases gk with
  | zero => exact absurd HA.out (by simp [intrusionref07_Of.l0])
  | succ k1 =>
   have H := HA.out
   clear HA
   simp only [intrusionref07_Of.l0] at H
   by_cases c2 : x4_1 < (l0.length : Int)
   · rw [if_pos c2] at H
     have c2b0 : decide (x4_1 < (l0.length : Int)) = true := decide_eq_true c2
     clear c2
     by_cases c3 : 0 ≤ x4_1
     · rw [if_pos c3] at H
       have c3b0 : decide (0 ≤ x4_1) = true := decide_eq_true c3
       clear c3
       replace H := Option.bind_eq_some_iff.mp H
       obtain ⟨t767, A40, H⟩ := H
       try dsimp only at H
       have A4 := Aside0.mk A40
       clear A40
       by_cases c5 : t767 = true
       · subst c5
         rw [if_pos rfl] at H
         replace H := Option.bind_eq_some_iff.mp H
         obtain ⟨⟨t769, t770, t771, t772, t773, t774⟩, A60, H⟩ := H
         try dsimp only at H
         have A6 := Aside0.mk A60
         clear A60
         replace H := Option.bind_eq_some_iff.mp H
         obtain ⟨t775, A70, H⟩ := H
         try dsimp only at H
         have A7 := Aside0.mk A70
         clear A70
         have H' := Aside0.mk H
         clear H
         have p766 : 0 ≤ (x4_1 : Int) := za
         have q766 : x4_1 < (l0.length : Int) := za
         obtain ⟨ad766, e766, hx766_0, hx766_1, hx766_2, hx766_3⟩ := at_T45 HR0.out x4_1 p766 q766
         cases e766
         replace hx766_0 := zh HB hx766_0
         replace hx766_1 := zh HB hx766_1
         replace hx766_2 := zh HB hx766_2
         replace hx766_3 := zh HB hx766_3
         replace p766 := eq_true p766
         replace q766 := eq_true q766
         go_wp2_with (first | ((with_reducible refine gate_callee (f := 89) rfl ?_); refine goesL_ (some 15) rfl rfl Try.func89 (by kernel_rfl) rfl #[.agg #[.bool ((rd_T45 l0 x4_1).f0.f0), .int .u64 ((rd_T45 l0 x4_1).f0.f1), .int .u64 ((rd_T45 l0 x4_1).f0.f2), .int .i64 ((rd_T45 l0 x4_1).f1)]] rfl (by (try simp only [List.map_toArray, List.map_cons, List.map_nil]); first | done | rfl | (simp only [List.length_drop, List.length_take]; rfl)) ?_; (with_reducible refine (intrusionref07_Right.calls k1 ((rd_T45 l0 x4_1).f0.f0) ((rd_T45 l0 x4_1).f0.f1) ((rd_T45 l0 x4_1).f0.f2) ((rd_T45 l0 x4_1).f1) true _ A4.out).mono ?_); rintro e w8 ⟨rfl, hb⟩; refine ⟨_, rfl, ?_⟩; replace HO_3 := Aside0.mk (Kd.R_below (zR HO_3) hb); replace HB := Aside0.mk (below_step (zB HB) hb); (try clear hb); have p768 : 0 ≤ (x4_1 : Int) := za; have q768 : x4_1 < (l0.length : Int) := za; obtain ⟨ad768, e768, hx768_0, hx768_1, hx768_2, hx768_3⟩ := at_T45 HR0.out x4_1 p768 q768; obtain rfl : ad766 = ad768 := (by injection e768); replace hx768_0 := zh HB hx768_0; replace hx768_1 := zh HB hx768_1; replace hx768_2 := zh HB hx768_2; replace hx768_3 := zh HB hx768_3; replace p768 := eq_true p768; replace q768 := eq_true q768) | ((with_reducible refine gate_callee (f := 90) rfl ?_); refine goesL_ (some 21) rfl rfl Try.func90 (by kernel_rfl) rfl #[.agg #[.bool ((rd_T45 l0 x4_1).f0.f0), .int .u64 ((rd_T45 l0 x4_1).f0.f1), .int .u64 ((rd_T45 l0 x4_1).f0.f2), .int .i64 ((rd_T45 l0 x4_1).f1)]] rfl (by (try simp only [List.map_toArray, List.map_cons, List.map_nil]); first | done | rfl | (simp only [List.length_drop, List.length_take]; rfl)) ?_; (with_reducible refine (intrusionref07_Block.calls ((rd_T45 l0 x4_1).f0.f0) ((rd_T45 l0 x4_1).f0.f1) ((rd_T45 l0 x4_1).f0.f2) ((rd_T45 l0 x4_1).f1) t769 t770 t771 t772 t773 t774 _ A6.out).mono ?_); rintro e w9 ⟨rfl, hb⟩; refine ⟨_, rfl, ?_⟩; replace HO_3 := Aside0.mk (Kd.R_below (zR HO_3) hb); replace HB := Aside0.mk (below_step (zB HB) hb); (try clear hb); obtain ⟨Ao10, co10, eo10⟩ := Kd.R_slice HO_3.out; subst eo10) | ((with_reducible refine gate_callee (f := 79) rfl ?_); refine goesL_ (some 22) rfl rfl Try.func79 (by kernel_rfl) rfl #[.slice Ao10 x3_1.length co10, .agg #[.bool t769, .int .u64 t770, .int .u64 t771, .bool t772, .int .u64 t773, .int .u64 t774]] rfl (by (try simp only [List.map_toArray, List.map_cons, List.map_nil]); first | done | rfl | (simp only [List.length_drop, List.length_take]; rfl)) ?_; (with_reducible refine (intrusionref07_add.calls k1 _ _ x3_1 t769 t770 t771 t772 t773 t774 t775 _ ?side1 ?side2 A7.out).mono ?_); (case side1 => repeat (first | exact (Kd.R_reads' HO_3.out).2.2 | (with_reducible refine Kd.C_alloc ?_ _) | (with_reducible refine Kd.C_drewN ?_ _) | (with_reducible refine Kd.C_drew ?_))); (case side2 => exact (Kd.R_reads' HO_3.out).2.1); rintro e w11 ⟨v776, rfl, ho0, hb⟩; refine ⟨_, rfl, ?_⟩; have HO777 := Aside0.mk (Kd.R_lower (Kd.R_new' ho0 (Kd.R_lt (zR HO_3))) (below_size (zB HB))); replace HO_3 := Aside0.mk (Kd.R_elder' (zR HO_3) (Kd.R_base ho0) hb); replace HB := Aside0.mk (below_step (zB HB) hb); (try clear hb); (try clear ho0)))
         go_roundg k1
         case measure => have := HK1.out; omega
         case rel => exact ⟨(t775), (wrap64 (x4_1 + 1)), (by first | rfl | (simp; done) | (simp [*]; done)), H', ⟨by have := HK1.out; omega⟩, ⟨by (with_reducible repeat (first | apply Kd.R_alloc | apply Kd.R_drewN | apply Kd.R_drew)); exact Kd.R_mono HO777.out (fun _ hk => trivial)⟩, ⟨zB HB⟩⟩
       · replace c5 := Bool.eq_false_iff.mpr c5
         subst c5
         rw [if_neg zF] at H
         have H' := Aside0.mk H
         clear H
         have p766 : 0 ≤ (x4_1 : Int) := za
         have q766 : x4_1 < (l0.length : Int) := za
         obtain ⟨ad766, e766, hx766_0, hx766_1, hx766_2, hx766_3⟩ := at_T45 HR0.out x4_1 p766 q766
         cases e766
         replace hx766_0 := zh HB hx766_0
         replace hx766_1 := zh HB hx766_1
         replace hx766_2 := zh HB hx766_2
         replace hx766_3 := zh HB hx766_3
         replace p766 := eq_true p766
         replace q766 := eq_true q766
         go_wp2_with (first | ((with_reducible refine gate_callee (f := 89) rfl ?_); refine goesL_ (some 15) rfl rfl Try.func89 (by kernel_rfl) rfl #[.agg #[.bool ((rd_T45 l0 x4_1).f0.f0), .int .u64 ((rd_T45 l0 x4_1).f0.f1), .int .u64 ((rd_T45 l0 x4_1).f0.f2), .int .i64 ((rd_T45 l0 x4_1).f1)]] rfl (by (try simp only [List.map_toArray, List.map_cons, List.map_nil]); first | done | rfl | (simp only [List.length_drop, List.length_take]; rfl)) ?_; (with_reducible refine (intrusionref07_Right.calls k1 ((rd_T45 l0 x4_1).f0.f0) ((rd_T45 l0 x4_1).f0.f1) ((rd_T45 l0 x4_1).f0.f2) ((rd_T45 l0 x4_1).f1) false _ A4.out).mono ?_); rintro e w12 ⟨rfl, hb⟩; refine ⟨_, rfl, ?_⟩; replace HO_3 := Aside0.mk (Kd.R_below (zR HO_3) hb); replace HB := Aside0.mk (below_step (zB HB) hb); (try clear hb)))
         go_roundg k1
         case measure => have := HK1.out; omega
         case rel => exact ⟨(x3_1), (wrap64 (x4_1 + 1)), (by first | rfl | (simp; done) | (simp [*]; done)), H', ⟨by have := HK1.out; omega⟩, ⟨zR HO_3⟩, ⟨zB HB⟩⟩
     · rw [if_neg c3] at H
       exact absurd H (by simp)
   · rw [if_neg c2] at H
     have c2b0 : decide (x4_1 < (l0.length : Int)) = false := decide_eq_false c2
     clear c2
     obtain rfl := Option.some.inj H
     go_wp2
     go_ret
     exact ⟨_, by first | rfl | (simp [errW_none, errW_some] <;> rfl) | (simp [*, errW_none, errW_some] <;> rfl), by (with_reducible repeat (first | apply Kd.R_alloc | apply Kd.R_drewN | apply Kd.R_drew)); exact HO_3.out, by repeat (first | (with_reducible first | exact HB.out | apply below_alloc | apply pw_below_drewN | apply below_drew1) | exact HB.out)⟩
end Go.Proofs.Ytcgfpffgiimgmaa.Q
end

section
set_option linter.unusedVariables false
set_option linter.unusedSimpArgs false
namespace Go.Proofs.Ytcgfpffgiimgmaa.Q
open Go.RowKit Go.Proofs.YtcgfpffgiimgmaaW.PrintWords Go.Proofs.YtcgfpffgiimgmaaW.PrintLast Go.Proofs.YtcgfpffgiimgmaaW.PrintMore
def address_Previous.f (a0_0 : Bool) (a0_1 : Int) (a0_2 : Int) : Option (Bool × Int × Int × Bool) := if (a0_1 == 0 && (a0_2 == 0)) = true then (some (false, 0, 0, false)) else some (a0_0, (if a0_2 = 0 then IntKind.u64.wrap (a0_1 - 1) else a0_1), IntKind.u64.wrap (a0_2 - 1), true)
set_option maxHeartbeats 1000000 in
set_option maxRecDepth 100000 in
theorem address_Previous.calls (a0_0 : Bool) (a0_1 : Int) (a0_2 : Int) (r1 : Bool) (r2 : Int) (r3 : Int) (r4 : Bool) (w : World) (h : address_Previous.f a0_0 a0_1 a0_2 = some (r1, r2, r3, r4)) :
    Calls Try.prog 115 #[.agg #[.bool a0_0, .int .u64 a0_1, .int .u64 a0_2]] w fun e w' => e = .returned (.tuple #[.agg #[.bool r1, .int .u64 r2, .int .u64 r3], .bool r4]) ∧ Below w.heap.size w w' := by
  unfold address_Previous.f at h
  have hu := Try.underlying36
  by_cases d : (a0_1 == 0 && (a0_2 == 0)) = true
  · rw [if_pos d] at h
    simp only [Option.some.injEq, Prod.mk.injEq] at h
    obtain ⟨rfl, rfl, rfl, rfl⟩ := h
    simp only [Bool.and_eq_true, beq_iff_eq] at d
    obtain ⟨rfl, rfl⟩ := d
    cases a0_0 <;>
    · go_enter Try.func115, Try.ntmps115
      go_wp2
      exact bodyPost_ret (v := .tuple #[.agg #[.bool false, .int .u64 0, .int .u64 0], .bool false]) (by simp [results, Try.results115, go_sem]) rfl ⟨rfl, below_alloc (below_alloc (Below.refl _ _) _) _⟩
  · rw [if_neg d] at h
    simp only [Option.some.injEq, Prod.mk.injEq] at h
    obtain ⟨rfl, h2, rfl, rfl⟩ := h
    have d1 : (a0_1 == 0 && (a0_2 == 0)) = false := by simpa using d
    clear d
    by_cases c : a0_2 = 0
    · rw [if_pos c] at h2
      subst h2
      subst c
      have d2 : (a0_1 == 0) = false := by simpa using d1
      have d3 : decide (a0_1 = 0) = false := by simpa using d2
      clear d1
      cases a0_0 <;>
      · go_enter Try.func115, Try.ntmps115
        go_wp2
        exact bodyPost_ret (v := .tuple #[.agg #[.bool _, .int .u64 (IntKind.u64.wrap (a0_1 - 1)), .int .u64 (IntKind.u64.wrap (0 - 1))], .bool true]) (by simp [results, Try.results115, go_sem]) rfl ⟨rfl, below_alloc (below_alloc (Below.refl _ _) _) _⟩
    · rw [if_neg c] at h2
      subst h2
      have c1 : (a0_2 == 0) = false := by simpa using c
      have c2 : decide (a0_2 = 0) = false := by simpa using c
      clear c
      cases a0_0 <;>
      · go_enter Try.func115, Try.ntmps115
        go_wp2
        exact bodyPost_ret (v := .tuple #[.agg #[.bool _, .int .u64 a0_1, .int .u64 (IntKind.u64.wrap (a0_2 - 1))], .bool true]) (by simp [results, Try.results115, go_sem]) rfl ⟨rfl, below_alloc (below_alloc (Below.refl _ _) _) _⟩
end Go.Proofs.Ytcgfpffgiimgmaa.Q
end

section
namespace Go.Proofs.Ytcgfpffgiimgmaa.Q
open Go.RowKit Go.Proofs.YtcgfpffgiimgmaaW.PrintWords Go.Proofs.YtcgfpffgiimgmaaW.PrintLast Go.Proofs.YtcgfpffgiimgmaaW.PrintMore
attribute [local go_sem] max2_int min2_int max_two min_two max_three min_three max_four min_four
set_option linter.unusedVariables false
set_option linter.unusedSimpArgs false
mutual
def addrset_without.j0 : Nat → Bool → Bool → Int → Int → Bool → Int → Int → Bool → Int → Int → Bool → Int → Int → Option ((List (S66)))
  | 0, _, _, _, _, _, _, _, _, _, _, _, _, _ => none
  | k + 1, x32, x779000, x779001, x779002, x779003, x779004, x779005, x780000, x780001, x780002, x780003, x780004, x780005 => if x32 = true then (some (([(⟨(⟨x779000, x779001, x779002⟩ : S36), (⟨x779003, x779004, x779005⟩ : S36)⟩ : S66)] : List (S66)))) else ((address_Compare.f x779000 x779001 x779002 x780000 x780001 x780002).bind fun t785 => (if t785 < 0 then ((address_Previous.f x780000 x780001 x780002).bind fun bt786 => (if ([] : List (S66)).length < 2932031007402 then (addrset_without.j1 k (([] : List (S66)) ++ [(⟨(⟨x779000, x779001, x779002⟩ : S36), (⟨bt786.1, bt786.2.1, bt786.2.2.1⟩ : S36)⟩ : S66)]) x779000 x779001 x779002 x779003 x779004 x779005 x780000 x780001 x780002 x780003 x780004 x780005) else (none))) else (addrset_without.j1 k ([] : List (S66)) x779000 x779001 x779002 x779003 x779004 x779005 x780000 x780001 x780002 x780003 x780004 x780005)))
def addrset_without.j1 : Nat → List (S66) → Bool → Int → Int → Bool → Int → Int → Bool → Int → Int → Bool → Int → Int → Option ((List (S66)))
  | 0, _, _, _, _, _, _, _, _, _, _, _, _, _ => none
  | k + 1, x5, x779000, x779001, x779002, x779003, x779004, x779005, x780000, x780001, x780002, x780003, x780004, x780005 => (address_Compare.f x780003 x780004 x780005 x779003 x779004 x779005).bind fun t794 => (if t794 < 0 then ((address_Next.f x780003 x780004 x780005).bind fun bt795 => (if x5.length < 2932031007402 then (some (x5 ++ [(⟨(⟨bt795.1, bt795.2.1, bt795.2.2.1⟩ : S36), (⟨x779003, x779004, x779005⟩ : S36)⟩ : S66)])) else (none))) else (some x5))
end
def addrset_without.f (k : Nat) (a0_0 : Bool) (a0_1 : Int) (a0_2 : Int) (a0_3 : Bool) (a0_4 : Int) (a0_5 : Int) (a1_0 : Bool) (a1_1 : Int) (a1_2 : Int) (a1_3 : Bool) (a1_4 : Int) (a1_5 : Int) : Option ((List (S66))) := if (a0_0 != a1_0) = true then (addrset_without.j0 k true a0_0 a0_1 a0_2 a0_3 a0_4 a0_5 a1_0 a1_1 a1_2 a1_3 a1_4 a1_5) else ((address_Compare.f a1_3 a1_4 a1_5 a0_0 a0_1 a0_2).bind fun t780 => (if t780 < 0 then (addrset_without.j0 k true a0_0 a0_1 a0_2 a0_3 a0_4 a0_5 a1_0 a1_1 a1_2 a1_3 a1_4 a1_5) else ((address_Compare.f a0_3 a0_4 a0_5 a1_0 a1_1 a1_2).bind fun t781 => (addrset_without.j0 k (decide (t781 < 0)) a0_0 a0_1 a0_2 a0_3 a0_4 a0_5 a1_0 a1_1 a1_2 a1_3 a1_4 a1_5))))
theorem addrset_without.mono_l : ∀ k, (∀ y0 y1 y2 y3 y4 y5 y6 y7 y8 y9 y10 y11 y12, LeO (addrset_without.j0 k y0 y1 y2 y3 y4 y5 y6 y7 y8 y9 y10 y11 y12) (addrset_without.j0 (k + 1) y0 y1 y2 y3 y4 y5 y6 y7 y8 y9 y10 y11 y12)) ∧ (∀ y0 y1 y2 y3 y4 y5 y6 y7 y8 y9 y10 y11 y12, LeO (addrset_without.j1 k y0 y1 y2 y3 y4 y5 y6 y7 y8 y9 y10 y11 y12) (addrset_without.j1 (k + 1) y0 y1 y2 y3 y4 y5 y6 y7 y8 y9 y10 y11 y12))
  | 0 => ⟨fun _ _ _ _ _ _ _ _ _ _ _ _ _ r h => by simp [addrset_without.j0] at h, fun _ _ _ _ _ _ _ _ _ _ _ _ _ r h => by simp [addrset_without.j1] at h⟩
  | k + 1 => by
    obtain ⟨ih0, ih1⟩ := addrset_without.mono_l k
    refine ⟨?_, ?_⟩
    · intro y0 y1 y2 y3 y4 y5 y6 y7 y8 y9 y10 y11 y12
      unfold addrset_without.j0
      repeat' first
      | (with_reducible exact ih0 _ _ _ _ _ _ _ _ _ _ _ _ _)
      | (with_reducible exact ih1 _ _ _ _ _ _ _ _ _ _ _ _ _)
      | (with_reducible exact LeO.refl _)
      | (with_reducible exact LeO.none _)
      | (with_reducible refine LeO.ite ?_ ?_)
      | (with_reducible refine LeO.bind ?_ (fun _ => ?_))
      | exact ih0 _ _ _ _ _ _ _ _ _ _ _ _ _
      | exact ih1 _ _ _ _ _ _ _ _ _ _ _ _ _
      | exact LeO.none _
      | refine LeO.ite ?_ ?_
      | refine LeO.bind ?_ (fun _ => ?_)
    · intro y0 y1 y2 y3 y4 y5 y6 y7 y8 y9 y10 y11 y12
      unfold addrset_without.j1
      repeat' first
      | (with_reducible exact ih0 _ _ _ _ _ _ _ _ _ _ _ _ _)
      | (with_reducible exact ih1 _ _ _ _ _ _ _ _ _ _ _ _ _)
      | (with_reducible exact LeO.refl _)
      | (with_reducible exact LeO.none _)
      | (with_reducible refine LeO.ite ?_ ?_)
      | (with_reducible refine LeO.bind ?_ (fun _ => ?_))
      | exact ih0 _ _ _ _ _ _ _ _ _ _ _ _ _
      | exact ih1 _ _ _ _ _ _ _ _ _ _ _ _ _
      | exact LeO.none _
      | refine LeO.ite ?_ ?_
      | refine LeO.bind ?_ (fun _ => ?_)
theorem addrset_without.mono : ∀ a0 a1 a2 a3 a4 a5 a6 a7 a8 a9 a10 a11 k, LeO (addrset_without.f k a0 a1 a2 a3 a4 a5 a6 a7 a8 a9 a10 a11) (addrset_without.f (k + 1) a0 a1 a2 a3 a4 a5 a6 a7 a8 a9 a10 a11) := by
  intro a0 a1 a2 a3 a4 a5 a6 a7 a8 a9 a10 a11 k
  obtain ⟨ih0, ih1⟩ := addrset_without.mono_l k
  unfold addrset_without.f
  repeat' first
      | (with_reducible exact ih0 _ _ _ _ _ _ _ _ _ _ _ _ _)
      | (with_reducible exact ih1 _ _ _ _ _ _ _ _ _ _ _ _ _)
      | (with_reducible exact LeO.refl _)
      | (with_reducible exact LeO.none _)
      | (with_reducible refine LeO.ite ?_ ?_)
      | (with_reducible refine LeO.bind ?_ (fun _ => ?_))
      | exact ih0 _ _ _ _ _ _ _ _ _ _ _ _ _
      | exact ih1 _ _ _ _ _ _ _ _ _ _ _ _ _
      | exact LeO.none _
      | refine LeO.ite ?_ ?_
      | refine LeO.bind ?_ (fun _ => ?_)
set_option maxHeartbeats 8000000 in
set_option maxRecDepth 100000 in
theorem addrset_without.calls (k : Nat) (a0_0 : Bool) (a0_1 : Int) (a0_2 : Int) (a0_3 : Bool) (a0_4 : Int) (a0_5 : Int) (a1_0 : Bool) (a1_1 : Int) (a1_2 : Int) (a1_3 : Bool) (a1_4 : Int) (a1_5 : Int) (r : List (S66)) (w : World) (h : addrset_without.f k a0_0 a0_1 a0_2 a0_3 a0_4 a0_5 a1_0 a1_1 a1_2 a1_3 a1_4 a1_5 = some r) :
 Calls Try.prog 96 #[.agg #[.bool a0_0, .int .u64 a0_1, .int .u64 a0_2, .bool a0_3, .int .u64 a0_4, .int .u64 a0_5], .agg #[.bool a1_0, .int .u64 a1_1, .int .u64 a1_2, .bool a1_3, .int .u64 a1_4, .int .u64 a1_5]] w fun e w' => ∃ v0_ : Value, e = .returned (v0_) ∧ Kd.R k66 66 w' w.heap.size (fun _ => True) v0_ r ∧ Below w.heap.size w w' := by
 have hu66 := Try.underlying66
 have hu36 := Try.underlying36
 have HB := Aside0.mk (Below.refl w.heap.size w)
 unfold addrset_without.f at h; have H := h
 clear h
 have HC3 := Aside0.mk H
 clear H
 go_enter Try.func96, Try.ntmps96
 go_upto_region 1 with (first | ((with_reducible refine gate_dst (N := 2) rfl ?_); refine zx 2 #[.bool a0_0, .int .u64 a0_1, .int .u64 a0_2, .bool a0_3, .int .u64 a0_4, .int .u64 a0_5] 66 ?_; intro gb778 hg w4 hbox hb; have BK778 := Aside0.mk (hbox); have GW778 := Aside0.mk ((by rw [hg]; exact (below_size (zB HB)) : w.heap.size ≤ gb778)); have GE778 := Aside0.mk ((by rw [hg]; exact (below_size (zB HB)) : w.heap.size ≤ gb778)); replace HB := Aside0.mk (below_step (zB HB) hb); clear hb hbox hg) | ((with_reducible refine gate_dst (N := 3) rfl ?_); refine zx 3 #[.bool a1_0, .int .u64 a1_1, .int .u64 a1_2, .bool a1_3, .int .u64 a1_4, .int .u64 a1_5] 66 ?_; intro gb779 hg w5 hbox hb; have BK779 := Aside0.mk (hbox); have GW779 := Aside0.mk ((by rw [hg]; exact (below_size (zB HB)) : w.heap.size ≤ gb779)); have GE779 := Aside0.mk ((by rw [hg]; exact (below_size (zB HB)) : w.heap.size ≤ gb779)); replace HB := Aside0.mk (below_step (zB HB) hb); have NB778_779 := Aside0.mk ((by rw [hg]; exact Nat.ne_of_lt (blk_lt (g := gb778) (o := .cells #[.bool a0_0, .int .u64 a0_1, .int .u64 a0_2, .bool a0_3, .int .u64 a0_4, .int .u64 a0_5] 66 (0, 0)) (zK BK778)) : gb778 ≠ gb779)); have NB779_778 := Aside0.mk ((by rw [hg]; exact Nat.ne_of_gt (blk_lt (g := gb778) (o := .cells #[.bool a0_0, .int .u64 a0_1, .int .u64 a0_2, .bool a0_3, .int .u64 a0_4, .int .u64 a0_5] 66 (0, 0)) (zK BK778)) : gb779 ≠ gb778)); replace BK778 := Aside0.mk (blk_below (g := gb778) (o := .cells #[.bool a0_0, .int .u64 a0_1, .int .u64 a0_2, .bool a0_3, .int .u64 a0_4, .int .u64 a0_5] 66 (0, 0)) (zK BK778) hb); clear hb hbox hg))
 (try simp only [Act.put, List.setIfInBounds_toArray, List.set_cons_zero, List.set_cons_succ])
 go_cut [32] (fun v32 wc => ∃ (kq : Nat) (x32_2 : Bool), v32 = .bool x32_2 ∧ Aside0 (addrset_without.j0 kq x32_2 a0_0 a0_1 a0_2 a0_3 a0_4 a0_5 a1_0 a1_1 a1_2 a1_3 a1_4 a1_5 = some r) ∧ Aside0 (kq ≤ k) ∧ Aside0 (wc.heap[gb778]? = some (.cells #[.bool a0_0, .int .u64 a0_1, .int .u64 a0_2, .bool a0_3, .int .u64 a0_4, .int .u64 a0_5] 66 (0, 0))) ∧ Aside0 (wc.heap[gb779]? = some (.cells #[.bool a1_0, .int .u64 a1_1, .int .u64 a1_2, .bool a1_3, .int .u64 a1_4, .int .u64 a1_5] 66 (0, 0))) ∧ Aside0 (Below w.heap.size w wc))
 case first =>
  have H := HC3.out
  clear HC3
  by_cases c6 : (a0_0 != a1_0) = true
  · rw [if_pos c6] at H
    have c6b0 : (a0_0 != a1_0) = true := c6
    (try (have c6b1 : decide (a0_0 = a1_0) = false := by first | (simpa using c6) | exact decide_eq_true (Decidable.not_not.1 (fun hn => c6 (bne_iff_ne.2 hn))) | exact beq_iff_eq.2 (Decidable.not_not.1 (fun hn => c6 (bne_iff_ne.2 hn))) | exact decide_eq_false (bne_iff_ne.1 c6) | exact beq_eq_false_iff_ne.2 (bne_iff_ne.1 c6) | exact bne_iff_ne.1 c6))
    (try (have c6b2 : (a0_0 == a1_0) = false := by first | (simpa using c6) | exact decide_eq_true (Decidable.not_not.1 (fun hn => c6 (bne_iff_ne.2 hn))) | exact beq_iff_eq.2 (Decidable.not_not.1 (fun hn => c6 (bne_iff_ne.2 hn))) | exact decide_eq_false (bne_iff_ne.1 c6) | exact beq_eq_false_iff_ne.2 (bne_iff_ne.1 c6) | exact bne_iff_ne.1 c6))
    (try (have c6b3 : ¬ (a0_0 = a1_0) := by first | (simpa using c6) | exact decide_eq_true (Decidable.not_not.1 (fun hn => c6 (bne_iff_ne.2 hn))) | exact beq_iff_eq.2 (Decidable.not_not.1 (fun hn => c6 (bne_iff_ne.2 hn))) | exact decide_eq_false (bne_iff_ne.1 c6) | exact beq_eq_false_iff_ne.2 (bne_iff_ne.1 c6) | exact bne_iff_ne.1 c6))
    clear c6
    (first | rw [c6b0] | (simp only [i64_w, i32_w]; rw [c6b0]) | skip)
    have H' := Aside0.mk H
    clear H
    have hnb7 := NB778_779.out
    have hnc7 := NB779_778.out
    obtain ⟨hcz8_0, hcz8_1, hcz8_2, hcz8_3, hcz8_4, hcz8_5⟩ := zc6 BK778
    obtain ⟨hfz8_0, hfz8_1, hfz8_2, hfz8_3, hfz8_4, hfz8_5⟩ := zf6 BK778
    obtain ⟨hcz9_0, hcz9_1, hcz9_2, hcz9_3, hcz9_4, hcz9_5⟩ := zc6 BK779
    obtain ⟨hfz9_0, hfz9_1, hfz9_2, hfz9_3, hfz9_4, hfz9_5⟩ := zf6 BK779
    go_wp2
    go_meet
    case rel => exact ⟨_, (true), (by first | rfl | (simp; done) | (simp [*]; done)), H', ⟨by first | omega | exact Nat.le_refl _⟩, ⟨zK BK778⟩, ⟨zK BK779⟩, ⟨zB HB⟩⟩
  · rw [if_neg c6] at H
    have c6b0 : (a0_0 != a1_0) = false := by simpa using c6
    (try (have c6b1 : decide (a0_0 = a1_0) = true := by first | (simpa using c6) | exact decide_eq_true (Decidable.not_not.1 (fun hn => c6 (bne_iff_ne.2 hn))) | exact beq_iff_eq.2 (Decidable.not_not.1 (fun hn => c6 (bne_iff_ne.2 hn))) | exact decide_eq_false (bne_iff_ne.1 c6) | exact beq_eq_false_iff_ne.2 (bne_iff_ne.1 c6) | exact bne_iff_ne.1 c6))
    (try (have c6b2 : (a0_0 == a1_0) = true := by first | (simpa using c6) | exact decide_eq_true (Decidable.not_not.1 (fun hn => c6 (bne_iff_ne.2 hn))) | exact beq_iff_eq.2 (Decidable.not_not.1 (fun hn => c6 (bne_iff_ne.2 hn))) | exact decide_eq_false (bne_iff_ne.1 c6) | exact beq_eq_false_iff_ne.2 (bne_iff_ne.1 c6) | exact bne_iff_ne.1 c6))
    clear c6
    (first | rw [c6b0] | (simp only [i64_w, i32_w]; rw [c6b0]) | skip)
    replace H := Option.bind_eq_some_iff.mp H
    obtain ⟨t780, A100, H⟩ := H
    try dsimp only at H
    have A10 := Aside0.mk A100
    clear A100
    by_cases c11 : t780 < 0
    · rw [if_pos c11] at H
      have c11b0 : decide (t780 < 0) = true := decide_eq_true c11
      clear c11
      have H' := Aside0.mk H
      clear H
      have hnb12 := NB778_779.out
      have hnc12 := NB779_778.out
      obtain ⟨hcz13_0, hcz13_1, hcz13_2, hcz13_3, hcz13_4, hcz13_5⟩ := zc6 BK778
      obtain ⟨hfz13_0, hfz13_1, hfz13_2, hfz13_3, hfz13_4, hfz13_5⟩ := zf6 BK778
      obtain ⟨hcz14_0, hcz14_1, hcz14_2, hcz14_3, hcz14_4, hcz14_5⟩ := zc6 BK779
      obtain ⟨hfz14_0, hfz14_1, hfz14_2, hfz14_3, hfz14_4, hfz14_5⟩ := zf6 BK779
      go_wp2_with (first | (go_at_call 75; (with_reducible refine (address_Compare.calls a1_3 a1_4 a1_5 a0_0 a0_1 a0_2 t780 _ A10.out).mono ?_); rintro e w15 ⟨rfl, hb⟩; replace BK778 := Aside0.mk (blk_below (g := gb778) (o := .cells #[.bool a0_0, .int .u64 a0_1, .int .u64 a0_2, .bool a0_3, .int .u64 a0_4, .int .u64 a0_5] 66 (0, 0)) (zK BK778) hb); replace BK779 := Aside0.mk (blk_below (g := gb779) (o := .cells #[.bool a1_0, .int .u64 a1_1, .int .u64 a1_2, .bool a1_3, .int .u64 a1_4, .int .u64 a1_5] 66 (0, 0)) (zK BK779) hb); replace HB := Aside0.mk (below_step (zB HB) hb); (try clear hb)))
      go_meet
      case rel => exact ⟨_, (true), (by first | rfl | (simp; done) | (simp [*]; done)), H', ⟨by first | omega | exact Nat.le_refl _⟩, ⟨zK BK778⟩, ⟨zK BK779⟩, ⟨zB HB⟩⟩
    · rw [if_neg c11] at H
      have c11b0 : decide (t780 < 0) = false := decide_eq_false c11
      clear c11
      replace H := Option.bind_eq_some_iff.mp H
      obtain ⟨t781, A160, H⟩ := H
      try dsimp only at H
      have A16 := Aside0.mk A160
      clear A160
      have H' := Aside0.mk H
      clear H
      have hnb17 := NB778_779.out
      have hnc17 := NB779_778.out
      obtain ⟨hcz18_0, hcz18_1, hcz18_2, hcz18_3, hcz18_4, hcz18_5⟩ := zc6 BK778
      obtain ⟨hfz18_0, hfz18_1, hfz18_2, hfz18_3, hfz18_4, hfz18_5⟩ := zf6 BK778
      obtain ⟨hcz19_0, hcz19_1, hcz19_2, hcz19_3, hcz19_4, hcz19_5⟩ := zc6 BK779
      obtain ⟨hfz19_0, hfz19_1, hfz19_2, hfz19_3, hfz19_4, hfz19_5⟩ := zf6 BK779
      go_wp2_with (first | (go_at_call 75; (with_reducible refine (address_Compare.calls a1_3 a1_4 a1_5 a0_0 a0_1 a0_2 t780 _ A10.out).mono ?_); rintro e w20 ⟨rfl, hb⟩; replace BK778 := Aside0.mk (blk_below (g := gb778) (o := .cells #[.bool a0_0, .int .u64 a0_1, .int .u64 a0_2, .bool a0_3, .int .u64 a0_4, .int .u64 a0_5] 66 (0, 0)) (zK BK778) hb); replace BK779 := Aside0.mk (blk_below (g := gb779) (o := .cells #[.bool a1_0, .int .u64 a1_1, .int .u64 a1_2, .bool a1_3, .int .u64 a1_4, .int .u64 a1_5] 66 (0, 0)) (zK BK779) hb); replace HB := Aside0.mk (below_step (zB HB) hb); (try clear hb); obtain ⟨hcz21_0, hcz21_1, hcz21_2, hcz21_3, hcz21_4, hcz21_5⟩ := zc6 BK778; obtain ⟨hfz21_0, hfz21_1, hfz21_2, hfz21_3, hfz21_4, hfz21_5⟩ := zf6 BK778; obtain ⟨hcz22_0, hcz22_1, hcz22_2, hcz22_3, hcz22_4, hcz22_5⟩ := zc6 BK779; obtain ⟨hfz22_0, hfz22_1, hfz22_2, hfz22_3, hfz22_4, hfz22_5⟩ := zf6 BK779) | (go_at_call 75; (with_reducible refine (address_Compare.calls a0_3 a0_4 a0_5 a1_0 a1_1 a1_2 t781 _ A16.out).mono ?_); rintro e w23 ⟨rfl, hb⟩; replace BK778 := Aside0.mk (blk_below (g := gb778) (o := .cells #[.bool a0_0, .int .u64 a0_1, .int .u64 a0_2, .bool a0_3, .int .u64 a0_4, .int .u64 a0_5] 66 (0, 0)) (zK BK778) hb); replace BK779 := Aside0.mk (blk_below (g := gb779) (o := .cells #[.bool a1_0, .int .u64 a1_1, .int .u64 a1_2, .bool a1_3, .int .u64 a1_4, .int .u64 a1_5] 66 (0, 0)) (zK BK779) hb); replace HB := Aside0.mk (below_step (zB HB) hb); (try clear hb)))
      go_meet
      case rel => exact ⟨_, (decide (t781 < 0)), (by first | rfl | (simp; done) | (simp [*]; done)), H', ⟨by first | omega | exact Nat.le_refl _⟩, ⟨zK BK778⟩, ⟨zK BK779⟩, ⟨zB HB⟩⟩
 case rest =>
  clear HC3
  try clear c1
  try clear p2
  try clear c6
  try clear c6b0
  try clear c6b1
  try clear c6b2
  try clear c7
  try clear c9
  try clear c11
  try clear c11b0
  try clear c12
  try clear c17
  try clear hcz13_0
  try clear hcz13_1
  try clear hcz13_2
  try clear hcz13_3
  try clear hcz13_4
  try clear hcz13_5
  try clear hcz14_0
  try clear hcz14_1
  try clear hcz14_2
  try clear hcz14_3
  try clear hcz14_4
  try clear hcz14_5
  try clear hcz18_0
  try clear hcz18_1
  try clear hcz18_2
  try clear hcz18_3
  try clear hcz18_4
  try clear hcz18_5
  try clear hcz19_0
  try clear hcz19_1
  try clear hcz19_2
  try clear hcz19_3
  try clear hcz19_4
  try clear hcz19_5
  try clear hcz21_0
  try clear hcz21_1
  try clear hcz21_2
  try clear hcz21_3
  try clear hcz21_4
  try clear hcz21_5
  try clear hcz22_0
  try clear hcz22_1
  try clear hcz22_2
  try clear hcz22_3
  try clear hcz22_4
  try clear hcz22_5
  try clear hcz8_0
  try clear hcz8_1
  try clear hcz8_2
  try clear hcz8_3
  try clear hcz8_4
  try clear hcz8_5
  try clear hcz9_0
  try clear hcz9_1
  try clear hcz9_2
  try clear hcz9_3
  try clear hcz9_4
  try clear hcz9_5
  try clear hfz13_0
  try clear hfz13_1
  try clear hfz13_2
  try clear hfz13_3
  try clear hfz13_4
  try clear hfz13_5
  try clear hfz14_0
  try clear hfz14_1
  try clear hfz14_2
  try clear hfz14_3
  try clear hfz14_4
  try clear hfz14_5
  try clear hfz18_0
  try clear hfz18_1
  try clear hfz18_2
  try clear hfz18_3
  try clear hfz18_4
  try clear hfz18_5
  try clear hfz19_0
  try clear hfz19_1
  try clear hfz19_2
  try clear hfz19_3
  try clear hfz19_4
  try clear hfz19_5
  try clear hfz21_0
  try clear hfz21_1
  try clear hfz21_2
  try clear hfz21_3
  try clear hfz21_4
  try clear hfz21_5
  try clear hfz22_0
  try clear hfz22_1
  try clear hfz22_2
  try clear hfz22_3
  try clear hfz22_4
  try clear hfz22_5
  try clear hfz8_0
  try clear hfz8_1
  try clear hfz8_2
  try clear hfz8_3
  try clear hfz8_4
  try clear hfz8_5
  try clear hfz9_0
  try clear hfz9_1
  try clear hfz9_2
  try clear hfz9_3
  try clear hfz9_4
  try clear hfz9_5
  obtain ⟨kq, x32_2, rfl, HA, HJ2, BK778, BK779, HB⟩ := hcut
  cases kq with
  | zero => exact absurd HA.out (by simp [addrset_without.j0])
  | succ kj2 =>
   have H := HA.out
   clear HA
   simp only [addrset_without.j0] at H
   by_cases c24 : x32_2 = true
   · subst c24
     rw [if_pos rfl] at H
     obtain ⟨y782, hy782⟩ : ∃ y_ : List (S66), y_ = (([(⟨(⟨a0_0, a0_1, a0_2⟩ : S36), (⟨a0_3, a0_4, a0_5⟩ : S36)⟩ : S66)] : List (S66))) := ⟨_, rfl⟩
     rw [← hy782] at H; try dsimp only [Option.bind_some] at H
     have Ny782 := Aside0.mk hy782
     clear hy782
     obtain rfl := Option.some.inj H
     have hnb25 := NB778_779.out
     have hnc25 := NB779_778.out
     obtain ⟨hcz26_0, hcz26_1, hcz26_2, hcz26_3, hcz26_4, hcz26_5⟩ := zc6 BK778
     obtain ⟨hfz26_0, hfz26_1, hfz26_2, hfz26_3, hfz26_4, hfz26_5⟩ := zf6 BK778
     go_wp2_with (first | ((with_reducible refine gate_dst (N := 34) rfl ?_); refine Kd.R_lit k66 _ 66 ?hg (N := 34) ?hd (xs := ([(⟨(⟨a0_0, a0_1, a0_2⟩ : S36), (⟨a0_3, a0_4, a0_5⟩ : S36)⟩ : S66)] : List (S66))) (inner := [.bool a0_0, .int .u64 a0_1, .int .u64 a0_2, .bool a0_3, .int .u64 a0_4, .int .u64 a0_5]) (ok := fun _ => True) (okp := fun _ => True) ?hr ?hp (fun _ hk => hk) trivial (Below.refl _ _) (Nat.le_refl _) (by simp) ?_; (case hd => rfl); (case hg => rfl); (case hr => first | (go_simp; done) | (go_simp; rfl)); (case hp => exact (Reps.c6 (show Kd.M k66 _ _ _ (⟨(⟨a0_0, a0_1, a0_2⟩ : S36), (⟨a0_3, a0_4, a0_5⟩ : S36)⟩ : S66) [.bool a0_0, .int .u64 a0_1, .int .u64 a0_2, .bool a0_3, .int .u64 a0_4, .int .u64 a0_5] from (k66_mkM _ _ _ (⟨(⟨a0_0, a0_1, a0_2⟩ : S36), (⟨a0_3, a0_4, a0_5⟩ : S36)⟩ : S66) )) (Reps.none _ _))); intro v783 w27 ho28 hb hg_ hnew_; clear hg_ hnew_; (first | rw [← Ny782.out] at ho28 | (simp only [Int.reduceToNat] at ho28; rw [← Ny782.out] at ho28)); have HO784 := Aside0.mk (Kd.R_lower (Kd.R_newB (Kd.R_newB ho28 (g := gb778) (o := .cells #[.bool a0_0, .int .u64 a0_1, .int .u64 a0_2, .bool a0_3, .int .u64 a0_4, .int .u64 a0_5] 66 (0, 0)) (zK BK778)) (g := gb779) (o := .cells #[.bool a1_0, .int .u64 a1_1, .int .u64 a1_2, .bool a1_3, .int .u64 a1_4, .int .u64 a1_5] 66 (0, 0)) (zK BK779)) (below_size (zB HB))); replace BK778 := Aside0.mk (blk_below (g := gb778) (o := .cells #[.bool a0_0, .int .u64 a0_1, .int .u64 a0_2, .bool a0_3, .int .u64 a0_4, .int .u64 a0_5] 66 (0, 0)) (zK BK778) hb); replace BK779 := Aside0.mk (blk_below (g := gb779) (o := .cells #[.bool a1_0, .int .u64 a1_1, .int .u64 a1_2, .bool a1_3, .int .u64 a1_4, .int .u64 a1_5] 66 (0, 0)) (zK BK779) hb); replace HB := Aside0.mk (below_step (zB HB) hb); clear hb ho28))
     go_ret
     exact ⟨_, by first | rfl | (simp [errW_none, errW_some] <;> rfl) | (simp [*, errW_none, errW_some] <;> rfl), by (with_reducible repeat (first | apply Kd.R_alloc | apply Kd.R_drewN | apply Kd.R_drew)); exact Kd.R_mono HO784.out (fun _ hk => trivial), by repeat (first | (with_reducible first | exact HB.out | apply below_alloc | apply pw_below_drewN | apply below_drew1 | refine below_set ?_ GE778.out | refine below_set ?_ GE779.out) | exact HB.out)⟩
   · replace c24 := Bool.eq_false_iff.mpr c24
     subst c24
     rw [if_neg zF] at H
     replace H := Option.bind_eq_some_iff.mp H
     obtain ⟨t785, A290, H⟩ := H
     try dsimp only at H
     have A29 := Aside0.mk A290
     clear A290
     have HC30 := Aside0.mk H
     clear H
     have hnb31 := NB778_779.out
     have hnc31 := NB779_778.out
     obtain ⟨hcz32_0, hcz32_1, hcz32_2, hcz32_3, hcz32_4, hcz32_5⟩ := zc6 BK778
     obtain ⟨hfz32_0, hfz32_1, hfz32_2, hfz32_3, hfz32_4, hfz32_5⟩ := zf6 BK778
     obtain ⟨hcz33_0, hcz33_1, hcz33_2, hcz33_3, hcz33_4, hcz33_5⟩ := zc6 BK779
     obtain ⟨hfz33_0, hfz33_1, hfz33_2, hfz33_3, hfz33_4, hfz33_5⟩ := zf6 BK779
     go_upto_if 40 with (first | ((with_reducible refine gate_callee (f := 75) rfl ?_); refine goesL_ (some 39) rfl rfl Try.func75 (by kernel_rfl) rfl #[.agg #[.bool a0_0, .int .u64 a0_1, .int .u64 a0_2], .agg #[.bool a1_0, .int .u64 a1_1, .int .u64 a1_2]] rfl (by (try simp only [List.map_toArray, List.map_cons, List.map_nil]); first | done | rfl | (simp only [List.length_drop, List.length_take]; rfl)) ?_; (with_reducible refine (address_Compare.calls a0_0 a0_1 a0_2 a1_0 a1_1 a1_2 t785 _ A29.out).mono ?_); rintro e w34 ⟨rfl, hb⟩; refine ⟨_, rfl, ?_⟩; replace BK778 := Aside0.mk (blk_below (g := gb778) (o := .cells #[.bool a0_0, .int .u64 a0_1, .int .u64 a0_2, .bool a0_3, .int .u64 a0_4, .int .u64 a0_5] 66 (0, 0)) (zK BK778) hb); replace BK779 := Aside0.mk (blk_below (g := gb779) (o := .cells #[.bool a1_0, .int .u64 a1_1, .int .u64 a1_2, .bool a1_3, .int .u64 a1_4, .int .u64 a1_5] 66 (0, 0)) (zK BK779) hb); replace HB := Aside0.mk (below_step (zB HB) hb); (try clear hb)))
     (try simp only [Act.put, List.setIfInBounds_toArray, List.set_cons_zero, List.set_cons_succ])
     go_cut [5] (fun v5 wc => ∃ (kq : Nat) (x5_29 : List (S66)), Aside0 (addrset_without.j1 kq x5_29 a0_0 a0_1 a0_2 a0_3 a0_4 a0_5 a1_0 a1_1 a1_2 a1_3 a1_4 a1_5 = some r) ∧ Aside0 (kq ≤ kj2) ∧ Aside0 (Kd.R k66 66 wc w.heap.size (fun k_ => k_ ≠ gb778 ∧ k_ ≠ gb779) v5 x5_29) ∧ Aside0 (wc.heap[gb778]? = some (.cells #[.bool a0_0, .int .u64 a0_1, .int .u64 a0_2, .bool a0_3, .int .u64 a0_4, .int .u64 a0_5] 66 (0, 0))) ∧ Aside0 (wc.heap[gb779]? = some (.cells #[.bool a1_0, .int .u64 a1_1, .int .u64 a1_2, .bool a1_3, .int .u64 a1_4, .int .u64 a1_5] 66 (0, 0))) ∧ Aside0 (Below w.heap.size w wc))
     case first =>
      have H := HC30.out
      clear HC30
      by_cases c35 : t785 < 0
      · rw [if_pos c35] at H
        have c35b0 : decide (t785 < 0) = true := decide_eq_true c35
        clear c35
        (first | rw [c35b0] | (simp only [i64_w, i32_w]; rw [c35b0]) | skip)
        replace H := Option.bind_eq_some_iff.mp H
        obtain ⟨⟨t786, t787, t788, t789⟩, A360, H⟩ := H
        try dsimp only at H
        have A36 := Aside0.mk A360
        clear A360
        by_cases c37 : ([] : List (S66)).length < 2932031007402
        · rw [if_pos c37] at H
          have LMc37 := Aside0.mk c37
          clear c37
          obtain ⟨y791, hy791⟩ : ∃ y_ : List (S66), y_ = (([] : List (S66)) ++ [(⟨(⟨a0_0, a0_1, a0_2⟩ : S36), (⟨t786, t787, t788⟩ : S36)⟩ : S66)]) := ⟨_, rfl⟩
          rw [← hy791] at H; try dsimp only [Option.bind_some] at H
          have Ny791 := Aside0.mk hy791
          clear hy791
          have H' := Aside0.mk H
          clear H
          have hnb38 := NB779_778.out
          have hnc38 := NB778_779.out
          obtain ⟨hcz39_0, hcz39_1, hcz39_2, hcz39_3, hcz39_4, hcz39_5⟩ := zc6 BK779
          obtain ⟨hfz39_0, hfz39_1, hfz39_2, hfz39_3, hfz39_4, hfz39_5⟩ := zf6 BK779
          go_wp2_with (first | ((with_reducible refine gate_callee (f := 115) rfl ?_); refine goesL_ (some 44) rfl rfl Try.func115 (by kernel_rfl) rfl #[.agg #[.bool a1_0, .int .u64 a1_1, .int .u64 a1_2]] rfl (by (try simp only [List.map_toArray, List.map_cons, List.map_nil]); first | done | rfl | (simp only [List.length_drop, List.length_take]; rfl)) ?_; (with_reducible refine (address_Previous.calls a1_0 a1_1 a1_2 t786 t787 t788 t789 _ A36.out).mono ?_); rintro e w40 ⟨rfl, hb⟩; refine ⟨_, rfl, ?_⟩; replace BK778 := Aside0.mk (blk_below (g := gb778) (o := .cells #[.bool a0_0, .int .u64 a0_1, .int .u64 a0_2, .bool a0_3, .int .u64 a0_4, .int .u64 a0_5] 66 (0, 0)) (zK BK778) hb); replace BK779 := Aside0.mk (blk_below (g := gb779) (o := .cells #[.bool a1_0, .int .u64 a1_1, .int .u64 a1_2, .bool a1_3, .int .u64 a1_4, .int .u64 a1_5] 66 (0, 0)) (zK BK779) hb); replace HB := Aside0.mk (below_step (zB HB) hb); (try clear hb)) | ((with_reducible refine gate_dst (N := 6) rfl ?_); refine zx 6 #[.bool false, .int .u64 0, .int .u64 0] 36 ?_; intro gb790 hg w41 hbox hb; have BK790 := Aside0.mk (hbox); have GW790 := Aside0.mk ((by rw [hg]; exact (below_size (zB HB)) : w.heap.size ≤ gb790)); have GE790 := Aside0.mk ((by rw [hg]; exact (below_size (zB HB)) : w.heap.size ≤ gb790)); replace HB := Aside0.mk (below_step (zB HB) hb); have NB778_790 := Aside0.mk ((by rw [hg]; exact Nat.ne_of_lt (blk_lt (g := gb778) (o := .cells #[.bool a0_0, .int .u64 a0_1, .int .u64 a0_2, .bool a0_3, .int .u64 a0_4, .int .u64 a0_5] 66 (0, 0)) (zK BK778)) : gb778 ≠ gb790)); have NB790_778 := Aside0.mk ((by rw [hg]; exact Nat.ne_of_gt (blk_lt (g := gb778) (o := .cells #[.bool a0_0, .int .u64 a0_1, .int .u64 a0_2, .bool a0_3, .int .u64 a0_4, .int .u64 a0_5] 66 (0, 0)) (zK BK778)) : gb790 ≠ gb778)); replace BK778 := Aside0.mk (blk_below (g := gb778) (o := .cells #[.bool a0_0, .int .u64 a0_1, .int .u64 a0_2, .bool a0_3, .int .u64 a0_4, .int .u64 a0_5] 66 (0, 0)) (zK BK778) hb); have NB779_790 := Aside0.mk ((by rw [hg]; exact Nat.ne_of_lt (blk_lt (g := gb779) (o := .cells #[.bool a1_0, .int .u64 a1_1, .int .u64 a1_2, .bool a1_3, .int .u64 a1_4, .int .u64 a1_5] 66 (0, 0)) (zK BK779)) : gb779 ≠ gb790)); have NB790_779 := Aside0.mk ((by rw [hg]; exact Nat.ne_of_gt (blk_lt (g := gb779) (o := .cells #[.bool a1_0, .int .u64 a1_1, .int .u64 a1_2, .bool a1_3, .int .u64 a1_4, .int .u64 a1_5] 66 (0, 0)) (zK BK779)) : gb790 ≠ gb779)); replace BK779 := Aside0.mk (blk_below (g := gb779) (o := .cells #[.bool a1_0, .int .u64 a1_1, .int .u64 a1_2, .bool a1_3, .int .u64 a1_4, .int .u64 a1_5] 66 (0, 0)) (zK BK779) hb); clear hb hbox hg; have hnb42 := NB790_778.out; have hnc42 := NB778_790.out; have hnb43 := NB790_779.out; have hnc43 := NB779_790.out; obtain ⟨hcz44_0, hcz44_1, hcz44_2⟩ := zc3 BK790; obtain ⟨hfz44_0, hfz44_1, hfz44_2⟩ := zf3 BK790; obtain ⟨hcz45_0, hcz45_1, hcz45_2, hcz45_3, hcz45_4, hcz45_5⟩ := zc6 BK778; obtain ⟨hfz45_0, hfz45_1, hfz45_2, hfz45_3, hfz45_4, hfz45_5⟩ := zf6 BK778) | ((with_reducible refine gate_builtin (b := .append) (xs := #[.tmp 47, .tmp 52]) rfl ?_); at_builtin; refine Kd.R_append k66 (w0 := w) w.heap.size rfl (.tmp 47) (.tmp 52) 33 66 (.agg #[(.bool false), (.int .u64 0), (.int .u64 0), (.bool false), (.int .u64 0), (.int .u64 0)]) 48 rfl Try.underlying33 info66 rfl (by decide) (by omega) (.slice none 0 0) ([] : List (S66)) (⟨(⟨a0_0, a0_1, a0_2⟩ : S36), (⟨t786, t787, t788⟩ : S36)⟩ : S66) [.bool a0_0, .int .u64 a0_1, .int .u64 a0_2, .bool t786, .int .u64 t787, .int .u64 t788] (fun k_ => k_ ≠ gb778 ∧ k_ ≠ gb779) (fun _ => False) rfl (by first | (go_simp; done) | (go_simp; rfl)) ?aP (fun _ hk => hk.elim) ?aF ?aO ?aB ?aS ?aL ?_; (case aP => exact k66_mkM _ _ _ (⟨(⟨a0_0, a0_1, a0_2⟩ : S36), (⟨t786, t787, t788⟩ : S36)⟩ : S66)); (case aB => exact (zB HB)); (case aF => exact (fun k_ hk => ⟨Kd.freshB (g := gb778) (o := .cells #[.bool a0_0, .int .u64 a0_1, .int .u64 a0_2, .bool a0_3, .int .u64 a0_4, .int .u64 a0_5] 66 (0, 0)) (by refine zL ?_; refine blk_far ?_ NB778_790.out _; refine zL ?_; refine blk_far ?_ NB778_790.out _; refine zL ?_; refine blk_far ?_ NB778_790.out _; refine zL ?_; exact BK778.out) k_ hk, Kd.freshB (g := gb779) (o := .cells #[.bool a1_0, .int .u64 a1_1, .int .u64 a1_2, .bool a1_3, .int .u64 a1_4, .int .u64 a1_5] 66 (0, 0)) (by refine zL ?_; refine blk_far ?_ NB779_790.out _; refine zL ?_; refine blk_far ?_ NB779_790.out _; refine zL ?_; refine blk_far ?_ NB779_790.out _; refine zL ?_; exact BK779.out) k_ hk⟩)); (case aO => exact ((Kd.R_nil _ _ _ _ (fun k_ => k_ ≠ gb778 ∧ k_ ≠ gb779)))); (case aS => exact (below_size (zB HB))); (case aL => have := LMc37.out; omega); intro v792 w46 ho hb hg hat; rw [← Ny791.out] at ho; replace BK778 := Aside0.mk (blk_grown (g := gb778) (o := .cells #[.bool a0_0, .int .u64 a0_1, .int .u64 a0_2, .bool a0_3, .int .u64 a0_4, .int .u64 a0_5] 66 (0, 0)) (by refine zL ?_; refine blk_far ?_ NB778_790.out _; refine zL ?_; refine blk_far ?_ NB778_790.out _; refine zL ?_; refine blk_far ?_ NB778_790.out _; refine zL ?_; exact BK778.out) hg (by simp [Value.ownBlock])); replace BK779 := Aside0.mk (blk_grown (g := gb779) (o := .cells #[.bool a1_0, .int .u64 a1_1, .int .u64 a1_2, .bool a1_3, .int .u64 a1_4, .int .u64 a1_5] 66 (0, 0)) (by refine zL ?_; refine blk_far ?_ NB779_790.out _; refine zL ?_; refine blk_far ?_ NB779_790.out _; refine zL ?_; refine blk_far ?_ NB779_790.out _; refine zL ?_; exact BK779.out) hg (by simp [Value.ownBlock])); replace BK790 := Aside0.mk (blk_grown (g := gb790) (o := .cells #[.bool t786, .int .u64 t787, .int .u64 t788] 36 (0, 0)) (by refine zL ?_; refine blk_put (cs := #[.bool t786, .int .u64 t787, .int .u64 0]) ?_ 2 _ rfl; refine zL ?_; refine blk_put (cs := #[.bool t786, .int .u64 0, .int .u64 0]) ?_ 1 _ rfl; refine zL ?_; refine blk_put (cs := #[.bool false, .int .u64 0, .int .u64 0]) ?_ 0 _ rfl; refine zL ?_; exact BK790.out) hg (by simp [Value.ownBlock])); replace HB := Aside0.mk (hb); have HO793 := Aside0.mk (ho); clear ho hb hg hat))
          go_meet
          case rel => exact ⟨_, (y791), H', ⟨by have := HJ2.out; first | omega | exact Nat.le_refl _⟩, ⟨zR HO793⟩, ⟨zK BK778⟩, ⟨zK BK779⟩, ⟨zB HB⟩⟩
        · rw [if_neg c37] at H
          exact absurd H (by simp)
      · rw [if_neg c35] at H
        have c35b0 : decide (t785 < 0) = false := decide_eq_false c35
        clear c35
        (first | rw [c35b0] | (simp only [i64_w, i32_w]; rw [c35b0]) | skip)
        have H' := Aside0.mk H
        clear H
        go_wp2
        go_meet
        case rel => exact ⟨_, (([] : List (S66))), H', ⟨by have := HJ2.out; first | omega | exact Nat.le_refl _⟩, ⟨by first | exact Kd.R_nil _ _ _ _ _ | exact Kd.N_nil _ _ _ _ _ | exact Kd.V_nil _ _ _ _ _ | exact Kd.Q_nil _ _ _ _ _ | exact Kd.S_nil _ _ _ _ _⟩, ⟨zK BK778⟩, ⟨zK BK779⟩, ⟨zB HB⟩⟩
     case rest =>
      clear HC30
      try clear c1
      try clear c2
      try clear p2
      try clear c3
      try clear c4
      try clear c6
      try clear c6b0
      try clear c6b1
      try clear c6b2
      try clear c7
      try clear c9
      try clear c11
      try clear c11b0
      try clear c12
      try clear c17
      try clear c24
      try clear c25
      try clear c31
      try clear c35
      try clear c35b0
      try clear c37
      try clear c38
      try clear c42
      try clear c43
      try clear hcz13_0
      try clear hcz13_1
      try clear hcz13_2
      try clear hcz13_3
      try clear hcz13_4
      try clear hcz13_5
      try clear hcz14_0
      try clear hcz14_1
      try clear hcz14_2
      try clear hcz14_3
      try clear hcz14_4
      try clear hcz14_5
      try clear hcz18_0
      try clear hcz18_1
      try clear hcz18_2
      try clear hcz18_3
      try clear hcz18_4
      try clear hcz18_5
      try clear hcz19_0
      try clear hcz19_1
      try clear hcz19_2
      try clear hcz19_3
      try clear hcz19_4
      try clear hcz19_5
      try clear hcz21_0
      try clear hcz21_1
      try clear hcz21_2
      try clear hcz21_3
      try clear hcz21_4
      try clear hcz21_5
      try clear hcz22_0
      try clear hcz22_1
      try clear hcz22_2
      try clear hcz22_3
      try clear hcz22_4
      try clear hcz22_5
      try clear hcz26_0
      try clear hcz26_1
      try clear hcz26_2
      try clear hcz26_3
      try clear hcz26_4
      try clear hcz26_5
      try clear hcz32_0
      try clear hcz32_1
      try clear hcz32_2
      try clear hcz32_3
      try clear hcz32_4
      try clear hcz32_5
      try clear hcz33_0
      try clear hcz33_1
      try clear hcz33_2
      try clear hcz33_3
      try clear hcz33_4
      try clear hcz33_5
      try clear hcz39_0
      try clear hcz39_1
      try clear hcz39_2
      try clear hcz39_3
      try clear hcz39_4
      try clear hcz39_5
      try clear hcz44_0
      try clear hcz44_1
      try clear hcz44_2
      try clear hcz45_0
      try clear hcz45_1
      try clear hcz45_2
      try clear hcz45_3
      try clear hcz45_4
      try clear hcz45_5
      try clear hcz8_0
      try clear hcz8_1
      try clear hcz8_2
      try clear hcz8_3
      try clear hcz8_4
      try clear hcz8_5
      try clear hcz9_0
      try clear hcz9_1
      try clear hcz9_2
      try clear hcz9_3
      try clear hcz9_4
      try clear hcz9_5
      try clear hfz13_0
      try clear hfz13_1
      try clear hfz13_2
      try clear hfz13_3
      try clear hfz13_4
      try clear hfz13_5
      try clear hfz14_0
      try clear hfz14_1
      try clear hfz14_2
      try clear hfz14_3
      try clear hfz14_4
      try clear hfz14_5
      try clear hfz18_0
      try clear hfz18_1
      try clear hfz18_2
      try clear hfz18_3
      try clear hfz18_4
      try clear hfz18_5
      try clear hfz19_0
      try clear hfz19_1
      try clear hfz19_2
      try clear hfz19_3
      try clear hfz19_4
      try clear hfz19_5
      try clear hfz21_0
      try clear hfz21_1
      try clear hfz21_2
      try clear hfz21_3
      try clear hfz21_4
      try clear hfz21_5
      try clear hfz22_0
      try clear hfz22_1
      try clear hfz22_2
      try clear hfz22_3
      try clear hfz22_4
      try clear hfz22_5
      try clear hfz26_0
      try clear hfz26_1
      try clear hfz26_2
      try clear hfz26_3
      try clear hfz26_4
      try clear hfz26_5
      try clear hfz32_0
      try clear hfz32_1
      try clear hfz32_2
      try clear hfz32_3
      try clear hfz32_4
      try clear hfz32_5
      try clear hfz33_0
      try clear hfz33_1
      try clear hfz33_2
      try clear hfz33_3
      try clear hfz33_4
      try clear hfz33_5
      try clear hfz39_0
      try clear hfz39_1
      try clear hfz39_2
      try clear hfz39_3
      try clear hfz39_4
      try clear hfz39_5
      try clear hfz44_0
      try clear hfz44_1
      try clear hfz44_2
      try clear hfz45_0
      try clear hfz45_1
      try clear hfz45_2
      try clear hfz45_3
      try clear hfz45_4
      try clear hfz45_5
      try clear hfz8_0
      try clear hfz8_1
      try clear hfz8_2
      try clear hfz8_3
      try clear hfz8_4
      try clear hfz8_5
      try clear hfz9_0
      try clear hfz9_1
      try clear hfz9_2
      try clear hfz9_3
      try clear hfz9_4
      try clear hfz9_5
      try clear p2
      obtain ⟨kq, x5_29, HA, HJ29, HO_5, BK778, BK779, HB⟩ := hcut
      cases kq with
      | zero => exact absurd HA.out (by simp [addrset_without.j1])
      | succ kj29 =>
       have H := HA.out
       clear HA
       simp only [addrset_without.j1] at H
       replace H := Option.bind_eq_some_iff.mp H
       obtain ⟨t794, A470, H⟩ := H
       try dsimp only at H
       have A47 := Aside0.mk A470
       clear A470
       by_cases c48 : t794 < 0
       · rw [if_pos c48] at H
         have c48b0 : decide (t794 < 0) = true := decide_eq_true c48
         clear c48
         replace H := Option.bind_eq_some_iff.mp H
         obtain ⟨⟨t795, t796, t797, t798⟩, A490, H⟩ := H
         try dsimp only at H
         have A49 := Aside0.mk A490
         clear A490
         by_cases c50 : x5_29.length < 2932031007402
         · rw [if_pos c50] at H
           have LMc50 := Aside0.mk c50
           clear c50
           obtain ⟨y800, hy800⟩ : ∃ y_ : List (S66), y_ = (x5_29 ++ [(⟨(⟨t795, t796, t797⟩ : S36), (⟨a0_3, a0_4, a0_5⟩ : S36)⟩ : S66)]) := ⟨_, rfl⟩
           rw [← hy800] at H; try dsimp only [Option.bind_some] at H
           have Ny800 := Aside0.mk hy800
           clear hy800
           obtain rfl := Option.some.inj H
           have hnb51 := NB779_778.out
           have hnc51 := NB778_779.out
           obtain ⟨hcz52_0, hcz52_1, hcz52_2, hcz52_3, hcz52_4, hcz52_5⟩ := zc6 BK779
           obtain ⟨hfz52_0, hfz52_1, hfz52_2, hfz52_3, hfz52_4, hfz52_5⟩ := zf6 BK779
           obtain ⟨hcz53_0, hcz53_1, hcz53_2, hcz53_3, hcz53_4, hcz53_5⟩ := zc6 BK778
           obtain ⟨hfz53_0, hfz53_1, hfz53_2, hfz53_3, hfz53_4, hfz53_5⟩ := zf6 BK778
           go_wp2_with (first | ((with_reducible refine gate_callee (f := 75) rfl ?_); refine goesL_ (some 58) rfl rfl Try.func75 (by kernel_rfl) rfl #[.agg #[.bool a1_3, .int .u64 a1_4, .int .u64 a1_5], .agg #[.bool a0_3, .int .u64 a0_4, .int .u64 a0_5]] rfl (by (try simp only [List.map_toArray, List.map_cons, List.map_nil]); first | done | rfl | (simp only [List.length_drop, List.length_take]; rfl)) ?_; (with_reducible refine (address_Compare.calls a1_3 a1_4 a1_5 a0_3 a0_4 a0_5 t794 _ A47.out).mono ?_); rintro e w54 ⟨rfl, hb⟩; refine ⟨_, rfl, ?_⟩; replace HO_5 := Aside0.mk (Kd.R_below (zR HO_5) hb); replace BK778 := Aside0.mk (blk_below (g := gb778) (o := .cells #[.bool a0_0, .int .u64 a0_1, .int .u64 a0_2, .bool a0_3, .int .u64 a0_4, .int .u64 a0_5] 66 (0, 0)) (zK BK778) hb); replace BK779 := Aside0.mk (blk_below (g := gb779) (o := .cells #[.bool a1_0, .int .u64 a1_1, .int .u64 a1_2, .bool a1_3, .int .u64 a1_4, .int .u64 a1_5] 66 (0, 0)) (zK BK779) hb); replace HB := Aside0.mk (below_step (zB HB) hb); (try clear hb); obtain ⟨hcz55_0, hcz55_1, hcz55_2, hcz55_3, hcz55_4, hcz55_5⟩ := zc6 BK779; obtain ⟨hfz55_0, hfz55_1, hfz55_2, hfz55_3, hfz55_4, hfz55_5⟩ := zf6 BK779) | ((with_reducible refine gate_callee (f := 88) rfl ?_); refine goesL_ (some 63) rfl rfl Try.func88 (by kernel_rfl) rfl #[.agg #[.bool a1_3, .int .u64 a1_4, .int .u64 a1_5]] rfl (by (try simp only [List.map_toArray, List.map_cons, List.map_nil]); first | done | rfl | (simp only [List.length_drop, List.length_take]; rfl)) ?_; (with_reducible refine (address_Next.calls a1_3 a1_4 a1_5 t795 t796 t797 t798 _ A49.out).mono ?_); rintro e w56 ⟨rfl, hb⟩; refine ⟨_, rfl, ?_⟩; replace HO_5 := Aside0.mk (Kd.R_below (zR HO_5) hb); replace BK778 := Aside0.mk (blk_below (g := gb778) (o := .cells #[.bool a0_0, .int .u64 a0_1, .int .u64 a0_2, .bool a0_3, .int .u64 a0_4, .int .u64 a0_5] 66 (0, 0)) (zK BK778) hb); replace BK779 := Aside0.mk (blk_below (g := gb779) (o := .cells #[.bool a1_0, .int .u64 a1_1, .int .u64 a1_2, .bool a1_3, .int .u64 a1_4, .int .u64 a1_5] 66 (0, 0)) (zK BK779) hb); replace HB := Aside0.mk (below_step (zB HB) hb); (try clear hb)) | ((with_reducible refine gate_dst (N := 8) rfl ?_); refine zx 8 #[.bool false, .int .u64 0, .int .u64 0] 36 ?_; intro gb799 hg w57 hbox hb; replace HO_5 := Aside0.mk (Kd.R_below (zR HO_5) hb); have BK799 := Aside0.mk (hbox); have GW799 := Aside0.mk ((by rw [hg]; exact (below_size (zB HB)) : w.heap.size ≤ gb799)); have GE799 := Aside0.mk ((by rw [hg]; exact (below_size (zB HB)) : w.heap.size ≤ gb799)); replace HB := Aside0.mk (below_step (zB HB) hb); have NB778_799 := Aside0.mk ((by rw [hg]; exact Nat.ne_of_lt (blk_lt (g := gb778) (o := .cells #[.bool a0_0, .int .u64 a0_1, .int .u64 a0_2, .bool a0_3, .int .u64 a0_4, .int .u64 a0_5] 66 (0, 0)) (zK BK778)) : gb778 ≠ gb799)); have NB799_778 := Aside0.mk ((by rw [hg]; exact Nat.ne_of_gt (blk_lt (g := gb778) (o := .cells #[.bool a0_0, .int .u64 a0_1, .int .u64 a0_2, .bool a0_3, .int .u64 a0_4, .int .u64 a0_5] 66 (0, 0)) (zK BK778)) : gb799 ≠ gb778)); replace BK778 := Aside0.mk (blk_below (g := gb778) (o := .cells #[.bool a0_0, .int .u64 a0_1, .int .u64 a0_2, .bool a0_3, .int .u64 a0_4, .int .u64 a0_5] 66 (0, 0)) (zK BK778) hb); have NB779_799 := Aside0.mk ((by rw [hg]; exact Nat.ne_of_lt (blk_lt (g := gb779) (o := .cells #[.bool a1_0, .int .u64 a1_1, .int .u64 a1_2, .bool a1_3, .int .u64 a1_4, .int .u64 a1_5] 66 (0, 0)) (zK BK779)) : gb779 ≠ gb799)); have NB799_779 := Aside0.mk ((by rw [hg]; exact Nat.ne_of_gt (blk_lt (g := gb779) (o := .cells #[.bool a1_0, .int .u64 a1_1, .int .u64 a1_2, .bool a1_3, .int .u64 a1_4, .int .u64 a1_5] 66 (0, 0)) (zK BK779)) : gb799 ≠ gb779)); replace BK779 := Aside0.mk (blk_below (g := gb779) (o := .cells #[.bool a1_0, .int .u64 a1_1, .int .u64 a1_2, .bool a1_3, .int .u64 a1_4, .int .u64 a1_5] 66 (0, 0)) (zK BK779) hb); clear hb hbox hg; have hnb58 := NB799_778.out; have hnc58 := NB778_799.out; have hnb59 := NB799_779.out; have hnc59 := NB779_799.out; obtain ⟨hcz60_0, hcz60_1, hcz60_2⟩ := zc3 BK799; obtain ⟨hfz60_0, hfz60_1, hfz60_2⟩ := zf3 BK799; obtain ⟨hcz61_0, hcz61_1, hcz61_2, hcz61_3, hcz61_4, hcz61_5⟩ := zc6 BK778; obtain ⟨hfz61_0, hfz61_1, hfz61_2, hfz61_3, hfz61_4, hfz61_5⟩ := zf6 BK778) | ((with_reducible refine gate_builtin (b := .append) (xs := #[.tmp 66, .tmp 71]) rfl ?_); at_builtin; refine Kd.R_append k66 (w0 := w) w.heap.size rfl (.tmp 66) (.tmp 71) 33 66 (.agg #[(.bool false), (.int .u64 0), (.int .u64 0), (.bool false), (.int .u64 0), (.int .u64 0)]) 48 rfl Try.underlying33 info66 rfl (by decide) (by omega) u5 x5_29 (⟨(⟨t795, t796, t797⟩ : S36), (⟨a0_3, a0_4, a0_5⟩ : S36)⟩ : S66) [.bool t795, .int .u64 t796, .int .u64 t797, .bool a0_3, .int .u64 a0_4, .int .u64 a0_5] (fun k_ => k_ ≠ gb778 ∧ k_ ≠ gb779) (fun _ => False) rfl (by first | (go_simp; done) | (go_simp; rfl)) ?aP (fun _ hk => hk.elim) ?aF ?aO ?aB ?aS ?aL ?_; (case aP => exact k66_mkM _ _ _ (⟨(⟨t795, t796, t797⟩ : S36), (⟨a0_3, a0_4, a0_5⟩ : S36)⟩ : S66)); (case aB => exact (zB HB)); (case aF => exact (fun k_ hk => ⟨Kd.freshB (g := gb778) (o := .cells #[.bool a0_0, .int .u64 a0_1, .int .u64 a0_2, .bool a0_3, .int .u64 a0_4, .int .u64 a0_5] 66 (0, 0)) (by refine zL ?_; refine blk_far ?_ NB778_799.out _; refine zL ?_; refine blk_far ?_ NB778_799.out _; refine zL ?_; refine blk_far ?_ NB778_799.out _; refine zL ?_; exact BK778.out) k_ hk, Kd.freshB (g := gb779) (o := .cells #[.bool a1_0, .int .u64 a1_1, .int .u64 a1_2, .bool a1_3, .int .u64 a1_4, .int .u64 a1_5] 66 (0, 0)) (by refine zL ?_; refine blk_far ?_ NB779_799.out _; refine zL ?_; refine blk_far ?_ NB779_799.out _; refine zL ?_; refine blk_far ?_ NB779_799.out _; refine zL ?_; exact BK779.out) k_ hk⟩)); (case aO => exact (by (with_reducible repeat (first | apply Kd.R_alloc | apply Kd.R_drewN | apply Kd.R_drew)); exact Kd.R_mono (Kd.R_far (p := ⟨gb799, 2, none⟩) (Kd.R_far (p := ⟨gb799, 1, none⟩) (Kd.R_far (p := ⟨gb799, 0, none⟩) (Kd.R_types HO_5.out BK799.out (by decide)) (fun _ hk => hk.2) (.bool t795)) (fun _ hk => hk.2) (.int .u64 t796)) (fun _ hk => hk.2) (.int .u64 t797)) (fun _ hk => ⟨hk.1.1, hk.1.2⟩))); (case aS => exact (below_size (zB HB))); (case aL => have := LMc50.out; omega); intro v801 w62 ho hb hg hat; rw [← Ny800.out] at ho; replace BK778 := Aside0.mk (blk_grown (g := gb778) (o := .cells #[.bool a0_0, .int .u64 a0_1, .int .u64 a0_2, .bool a0_3, .int .u64 a0_4, .int .u64 a0_5] 66 (0, 0)) (by refine zL ?_; refine blk_far ?_ NB778_799.out _; refine zL ?_; refine blk_far ?_ NB778_799.out _; refine zL ?_; refine blk_far ?_ NB778_799.out _; refine zL ?_; exact BK778.out) hg (Kd.R_away HO_5.out (fun _ hk => hk.1))); replace BK779 := Aside0.mk (blk_grown (g := gb779) (o := .cells #[.bool a1_0, .int .u64 a1_1, .int .u64 a1_2, .bool a1_3, .int .u64 a1_4, .int .u64 a1_5] 66 (0, 0)) (by refine zL ?_; refine blk_far ?_ NB779_799.out _; refine zL ?_; refine blk_far ?_ NB779_799.out _; refine zL ?_; refine blk_far ?_ NB779_799.out _; refine zL ?_; exact BK779.out) hg (Kd.R_away HO_5.out (fun _ hk => hk.2))); replace BK799 := Aside0.mk (blk_grown (g := gb799) (o := .cells #[.bool t795, .int .u64 t796, .int .u64 t797] 36 (0, 0)) (by refine zL ?_; refine blk_put (cs := #[.bool t795, .int .u64 t796, .int .u64 0]) ?_ 2 _ rfl; refine zL ?_; refine blk_put (cs := #[.bool t795, .int .u64 0, .int .u64 0]) ?_ 1 _ rfl; refine zL ?_; refine blk_put (cs := #[.bool false, .int .u64 0, .int .u64 0]) ?_ 0 _ rfl; refine zL ?_; exact BK799.out) hg (Kd.R_ne HO_5.out BK799.out (by decide))); replace HB := Aside0.mk (hb); have HO802 := Aside0.mk (ho); clear HO_5; clear ho hb hg hat))
           go_ret
           exact ⟨_, by first | rfl | (simp [errW_none, errW_some] <;> rfl) | (simp [*, errW_none, errW_some] <;> rfl), by (with_reducible repeat (first | apply Kd.R_alloc | apply Kd.R_drewN | apply Kd.R_drew)); exact Kd.R_mono HO802.out (fun _ hk => trivial), by repeat (first | (with_reducible first | exact HB.out | apply below_alloc | apply pw_below_drewN | apply below_drew1 | refine below_set ?_ GE778.out | refine below_set ?_ GE779.out | refine below_set ?_ GE799.out) | exact HB.out)⟩
         · rw [if_neg c50] at H
           exact absurd H (by simp)
       · rw [if_neg c48] at H
         have c48b0 : decide (t794 < 0) = false := decide_eq_false c48
         clear c48
         obtain rfl := Option.some.inj H
         have hnb63 := NB779_778.out
         have hnc63 := NB778_779.out
         obtain ⟨hcz64_0, hcz64_1, hcz64_2, hcz64_3, hcz64_4, hcz64_5⟩ := zc6 BK779
         obtain ⟨hfz64_0, hfz64_1, hfz64_2, hfz64_3, hfz64_4, hfz64_5⟩ := zf6 BK779
         obtain ⟨hcz65_0, hcz65_1, hcz65_2, hcz65_3, hcz65_4, hcz65_5⟩ := zc6 BK778
         obtain ⟨hfz65_0, hfz65_1, hfz65_2, hfz65_3, hfz65_4, hfz65_5⟩ := zf6 BK778
         go_wp2_with (first | ((with_reducible refine gate_callee (f := 75) rfl ?_); refine goesL_ (some 58) rfl rfl Try.func75 (by kernel_rfl) rfl #[.agg #[.bool a1_3, .int .u64 a1_4, .int .u64 a1_5], .agg #[.bool a0_3, .int .u64 a0_4, .int .u64 a0_5]] rfl (by (try simp only [List.map_toArray, List.map_cons, List.map_nil]); first | done | rfl | (simp only [List.length_drop, List.length_take]; rfl)) ?_; (with_reducible refine (address_Compare.calls a1_3 a1_4 a1_5 a0_3 a0_4 a0_5 t794 _ A47.out).mono ?_); rintro e w66 ⟨rfl, hb⟩; refine ⟨_, rfl, ?_⟩; replace HO_5 := Aside0.mk (Kd.R_below (zR HO_5) hb); replace BK778 := Aside0.mk (blk_below (g := gb778) (o := .cells #[.bool a0_0, .int .u64 a0_1, .int .u64 a0_2, .bool a0_3, .int .u64 a0_4, .int .u64 a0_5] 66 (0, 0)) (zK BK778) hb); replace BK779 := Aside0.mk (blk_below (g := gb779) (o := .cells #[.bool a1_0, .int .u64 a1_1, .int .u64 a1_2, .bool a1_3, .int .u64 a1_4, .int .u64 a1_5] 66 (0, 0)) (zK BK779) hb); replace HB := Aside0.mk (below_step (zB HB) hb); (try clear hb)))
         go_ret
         exact ⟨_, by first | rfl | (simp [errW_none, errW_some] <;> rfl) | (simp [*, errW_none, errW_some] <;> rfl), by (with_reducible repeat (first | apply Kd.R_alloc | apply Kd.R_drewN | apply Kd.R_drew)); exact Kd.R_mono HO_5.out (fun _ hk => trivial), by repeat (first | (with_reducible first | exact HB.out | apply below_alloc | apply pw_below_drewN | apply below_drew1 | refine below_set ?_ GE778.out | refine below_set ?_ GE779.out) | exact HB.out)⟩
end Go.Proofs.Ytcgfpffgiimgmaa.Q
end

section
namespace Go.Proofs.Ytcgfpffgiimgmaa.Q
open Go.RowKit Go.Proofs.YtcgfpffgiimgmaaW.PrintWords Go.Proofs.YtcgfpffgiimgmaaW.PrintLast Go.Proofs.YtcgfpffgiimgmaaW.PrintMore
attribute [local go_sem] max2_int min2_int max_two min_two max_three min_three max_four min_four
set_option linter.unusedVariables false
set_option linter.unusedSimpArgs false
mutual
def addrset_Minus.l0 : Nat → List (S66) → List (S66) → Int → Int → Option ((List (S66)))
  | 0, _, _, _, _ => none
  | k + 1, x5, x14, x15, x16 => if x16 < x15 then (if 0 ≤ x16 then (if x16 < (x14.length : Int) then (addrset_Minus.l1 k ([] : List (S66)) x14 x15 x16 x5 (x5.length : Int) 0 ((rd_T66 x14 x16).f0.f0) ((rd_T66 x14 x16).f0.f1) ((rd_T66 x14 x16).f0.f2) ((rd_T66 x14 x16).f1.f0) ((rd_T66 x14 x16).f1.f1) ((rd_T66 x14 x16).f1.f2)) else (none)) else (none)) else ((addrset_Normal.f k x5).bind fun t809 => (some t809))
def addrset_Minus.l1 : Nat → List (S66) → List (S66) → Int → Int → List (S66) → Int → Int → Bool → Int → Int → Bool → Int → Int → Option ((List (S66)))
  | 0, _, _, _, _, _, _, _, _, _, _, _, _, _ => none
  | k + 1, x8, x14, x15, x16, x20, x21, x22, x814000, x814001, x814002, x814003, x814004, x814005 => if x22 < x21 then (if 0 ≤ x22 then (if x22 < (x20.length : Int) then ((addrset_without.f k ((rd_T66 x20 x22).f0.f0) ((rd_T66 x20 x22).f0.f1) ((rd_T66 x20 x22).f0.f2) ((rd_T66 x20 x22).f1.f0) ((rd_T66 x20 x22).f1.f1) ((rd_T66 x20 x22).f1.f2) x814000 x814001 x814002 x814003 x814004 x814005).bind fun t816 => (if x8.length + t816.length < 2932031007402 then (addrset_Minus.l1 k (x8 ++ t816) x14 x15 x16 x20 x21 (wrap64 (x22 + 1)) x814000 x814001 x814002 x814003 x814004 x814005) else (none))) else (none)) else (none)) else (addrset_Minus.l0 k x8 x14 x15 (wrap64 (x16 + 1)))
end
def addrset_Minus.f (k : Nat) (l0 : List (S66)) (l1 : List (S66)) : Option ((List (S66))) := (addrset_Normal.f k l0).bind fun t803 => ((addrset_Normal.f k l1).bind fun t806 => (addrset_Minus.l0 k t803 t806 (t806.length : Int) 0))
theorem addrset_Minus.mono_l : ∀ k, (∀ y0 y1 y2 y3, LeO (addrset_Minus.l0 k y0 y1 y2 y3) (addrset_Minus.l0 (k + 1) y0 y1 y2 y3)) ∧ (∀ y0 y1 y2 y3 y4 y5 y6 y7 y8 y9 y10 y11 y12, LeO (addrset_Minus.l1 k y0 y1 y2 y3 y4 y5 y6 y7 y8 y9 y10 y11 y12) (addrset_Minus.l1 (k + 1) y0 y1 y2 y3 y4 y5 y6 y7 y8 y9 y10 y11 y12))
  | 0 => ⟨fun _ _ _ _ r h => by simp [addrset_Minus.l0] at h, fun _ _ _ _ _ _ _ _ _ _ _ _ _ r h => by simp [addrset_Minus.l1] at h⟩
  | k + 1 => by
    obtain ⟨ih0, ih1⟩ := addrset_Minus.mono_l k
    refine ⟨?_, ?_⟩
    · intro y0 y1 y2 y3
      unfold addrset_Minus.l0
      repeat' first
      | (with_reducible exact ih0 _ _ _ _)
      | (with_reducible exact ih1 _ _ _ _ _ _ _ _ _ _ _ _ _)
      | (with_reducible exact addrset_Normal.mono _ _)
      | (with_reducible exact addrset_without.mono _ _ _ _ _ _ _ _ _ _ _ _ _)
      | (with_reducible exact LeO.refl _)
      | (with_reducible exact LeO.none _)
      | (with_reducible refine LeO.ite ?_ ?_)
      | (with_reducible refine LeO.bind ?_ (fun _ => ?_))
      | exact ih0 _ _ _ _
      | exact ih1 _ _ _ _ _ _ _ _ _ _ _ _ _
      | exact addrset_Normal.mono _ _
      | exact addrset_without.mono _ _ _ _ _ _ _ _ _ _ _ _ _
      | exact LeO.none _
      | refine LeO.ite ?_ ?_
      | refine LeO.bind ?_ (fun _ => ?_)
    · intro y0 y1 y2 y3 y4 y5 y6 y7 y8 y9 y10 y11 y12
      unfold addrset_Minus.l1
      repeat' first
      | (with_reducible exact ih0 _ _ _ _)
      | (with_reducible exact ih1 _ _ _ _ _ _ _ _ _ _ _ _ _)
      | (with_reducible exact addrset_Normal.mono _ _)
      | (with_reducible exact addrset_without.mono _ _ _ _ _ _ _ _ _ _ _ _ _)
      | (with_reducible exact LeO.refl _)
      | (with_reducible exact LeO.none _)
      | (with_reducible refine LeO.ite ?_ ?_)
      | (with_reducible refine LeO.bind ?_ (fun _ => ?_))
      | exact ih0 _ _ _ _
      | exact ih1 _ _ _ _ _ _ _ _ _ _ _ _ _
      | exact addrset_Normal.mono _ _
      | exact addrset_without.mono _ _ _ _ _ _ _ _ _ _ _ _ _
      | exact LeO.none _
      | refine LeO.ite ?_ ?_
      | refine LeO.bind ?_ (fun _ => ?_)
theorem addrset_Minus.mono : ∀ a0 a1 k, LeO (addrset_Minus.f k a0 a1) (addrset_Minus.f (k + 1) a0 a1) := by
  intro a0 a1 k
  obtain ⟨ih0, ih1⟩ := addrset_Minus.mono_l k
  unfold addrset_Minus.f
  repeat' first
      | (with_reducible exact ih0 _ _ _ _)
      | (with_reducible exact ih1 _ _ _ _ _ _ _ _ _ _ _ _ _)
      | (with_reducible exact addrset_Normal.mono _ _)
      | (with_reducible exact addrset_without.mono _ _ _ _ _ _ _ _ _ _ _ _ _)
      | (with_reducible exact LeO.refl _)
      | (with_reducible exact LeO.none _)
      | (with_reducible refine LeO.ite ?_ ?_)
      | (with_reducible refine LeO.bind ?_ (fun _ => ?_))
      | exact ih0 _ _ _ _
      | exact ih1 _ _ _ _ _ _ _ _ _ _ _ _ _
      | exact addrset_Normal.mono _ _
      | exact addrset_without.mono _ _ _ _ _ _ _ _ _ _ _ _ _
      | exact LeO.none _
      | refine LeO.ite ?_ ?_
      | refine LeO.bind ?_ (fun _ => ?_)
set_option maxHeartbeats 8000000 in
set_option maxRecDepth 100000 in
theorem addrset_Minus.calls (k : Nat) (A0 : Option Addr) (c0 : Nat) (l0 : List (S66)) (A1 : Option Addr) (c1 : Nat) (l1 : List (S66)) (r : List (S66)) (w : World) (hr0 : Kd.C k66 w A0 l0.length l0) (hc0 : l0.length ≤ c0) (hr1 : Kd.C k66 w A1 l1.length l1) (hc1 : l1.length ≤ c1) (h : addrset_Minus.f k l0 l1 = some r) :
 Calls Try.prog 56 #[.slice A0 l0.length c0, .slice A1 l1.length c1] w fun e w' => ∃ v0_ : Value, e = .returned (v0_) ∧ Kd.R k66 66 w' w.heap.size (fun _ => True) v0_ r ∧ Below w.heap.size w w' := by
 have hu66 := Try.underlying66
 have HR0 := Aside0.mk hr0
 have HC0 := Aside0.mk hc0
 clear hr0 hc0
 have HR1 := Aside0.mk hr1
 have HC1 := Aside0.mk hc1
 clear hr1 hc1
 have HB := Aside0.mk (Below.refl w.heap.size w)
 unfold addrset_Minus.f at h; have H := h
 clear h
 replace H := Option.bind_eq_some_iff.mp H
 obtain ⟨t803, A30, H⟩ := H
 try dsimp only at H
 have A3 := Aside0.mk A30
 clear A30
 replace H := Option.bind_eq_some_iff.mp H
 obtain ⟨t806, A40, H⟩ := H
 try dsimp only at H
 have A4 := Aside0.mk A40
 clear A40
 have H' := Aside0.mk H
 clear H
 go_enter Try.func56, Try.ntmps56
 go_wp2_with (first | ((with_reducible refine gate_callee (f := 38) rfl ?_); refine goesL_ (some 12) rfl rfl Try.func38 (by kernel_rfl) rfl #[.slice A0 l0.length c0] rfl (by (try simp only [List.map_toArray, List.map_cons, List.map_nil]); first | done | rfl | (simp only [List.length_drop, List.length_take]; rfl)) ?_; (with_reducible refine (addrset_Normal.calls k _ _ l0 t803 _ ?side1 ?side2 A3.out).mono ?_); (case side1 => repeat (first | exact HR0.out | (with_reducible refine Kd.C_alloc ?_ _) | (with_reducible refine Kd.C_drewN ?_ _) | (with_reducible refine Kd.C_drew ?_))); (case side2 => exact HC0.out); rintro e w5 ⟨v804, rfl, ho0, hb⟩; refine ⟨_, rfl, ?_⟩; have HO805 := Aside0.mk (Kd.R_lower ho0 (below_size (zB HB))); replace HB := Aside0.mk (below_step (zB HB) hb); (try clear hb); (try clear ho0)) | ((with_reducible refine gate_callee (f := 38) rfl ?_); refine goesL_ (some 14) rfl rfl Try.func38 (by kernel_rfl) rfl #[.slice A1 l1.length c1] rfl (by (try simp only [List.map_toArray, List.map_cons, List.map_nil]); first | done | rfl | (simp only [List.length_drop, List.length_take]; rfl)) ?_; (with_reducible refine (addrset_Normal.calls k _ _ l1 t806 _ ?side1 ?side2 A4.out).mono ?_); (case side1 => repeat (first | exact (Kd.C_below HR1.out HB.out) | (with_reducible refine Kd.C_alloc ?_ _) | (with_reducible refine Kd.C_drewN ?_ _) | (with_reducible refine Kd.C_drew ?_))); (case side2 => exact HC1.out); rintro e w6 ⟨v807, rfl, ho0, hb⟩; refine ⟨_, rfl, ?_⟩; have HO808 := Aside0.mk (Kd.R_lower (Kd.R_new' ho0 (Kd.R_lt (zR HO805))) (below_size (zB HB))); replace HO805 := Aside0.mk (Kd.R_elder' (zR HO805) (Kd.R_base ho0) hb); replace HB := Aside0.mk (below_step (zB HB) hb); (try clear hb); (try clear ho0); obtain ⟨Ao7, co7, eo7⟩ := Kd.R_slice HO808.out; subst eo7))
 go_loopg [5, 16] k (fun kq v5 v16 w' => ∃ (x5_1 : List (S66)) (x16_1 : Int), v16 = .int .i64 x16_1 ∧ Aside0 (addrset_Minus.l0 kq x5_1 t806 (t806.length : Int) x16_1 = some r) ∧ Aside0 (kq ≤ k) ∧ Aside0 (Kd.R k66 66 w' w.heap.size (fun k_ => some k_ ≠ ((.slice Ao7 t806.length co7) : Value).ownBlock) v5 x5_1) ∧ Aside0 (Kd.R k66 66 w' w.heap.size (fun k_ => some k_ ≠ (v5 : Value).ownBlock) (.slice Ao7 t806.length co7) t806) ∧ Aside0 (Below w.heap.size w w'))
 case atStart => exact ⟨(t803), (0), (by first | rfl | (simp; done) | (simp [*]; done)), H', ⟨Nat.le_refl _⟩, ⟨by (with_reducible repeat (first | apply Kd.R_alloc | apply Kd.R_drewN | apply Kd.R_drew)); exact Kd.R_mono HO805.out (fun _ hk => hk.2)⟩, ⟨by (with_reducible repeat (first | apply Kd.R_alloc | apply Kd.R_drewN | apply Kd.R_drew)); exact Kd.R_mono HO808.out (fun _ hk => hk.2)⟩, ⟨zB HB⟩⟩
 case round =>
  clear H'
  try clear c1
  try clear p2
  try clear c3
  try clear c5
  obtain ⟨x5_1, x16_1, rfl, HA, HK1, HO_5, HO_14, HB⟩ := hrel
  cases gk with
  | zero => exact absurd HA.out (by simp [addrset_Minus.l0])
  | succ k1 =>
   have H := HA.out
   clear HA
   simp only [addrset_Minus.l0] at H
   by_cases c8 : x16_1 < (t806.length : Int)
   · rw [if_pos c8] at H
     have c8b0 : decide (x16_1 < (t806.length : Int)) = true := decide_eq_true c8
     clear c8
     by_cases c9 : 0 ≤ x16_1
     · rw [if_pos c9] at H
       have c9b0 : decide (0 ≤ x16_1) = true := decide_eq_true c9
       clear c9
       by_cases c10 : x16_1 < (t806.length : Int)
       · rw [if_pos c10] at H
         have c10b0 : decide (x16_1 < (t806.length : Int)) = true := decide_eq_true c10
         clear c10
         have H' := Aside0.mk H
         clear H
         have p812 : 0 ≤ (x16_1 : Int) := za
         have q812 : x16_1 < (t806.length : Int) := za
         (try (obtain ⟨Ax_, cx_, ex_⟩ := Kd.R_slice HO_14.out; subst ex_))
         obtain ⟨ad812, e812, hx812_0, hx812_1, hx812_2, hx812_3, hx812_4, hx812_5⟩ := at_T66 (Kd.R_reads' HO_14.out).2.2 x16_1 p812 q812
         cases e812
         replace p812 := eq_true p812
         replace q812 := eq_true q812
         go_wp2_with (first | ((with_reducible refine gate_dst (N := 7) rfl ?_); refine zx 7 #[.bool false, .int .u64 0, .int .u64 0, .bool false, .int .u64 0, .int .u64 0] 66 ?_; intro gb813 hg w11 hbox hb; replace HO_5 := Aside0.mk (Kd.R_below (Kd.R_elderB (zR HO_5) gb813 (Nat.le_of_eq hg.symm)) hb); replace HO_14 := Aside0.mk (Kd.R_below (Kd.R_elderB (zR HO_14) gb813 (Nat.le_of_eq hg.symm)) hb); have BK813 := Aside0.mk (hbox); have GW813 := Aside0.mk ((by rw [hg]; exact (below_size (zB HB)) : w.heap.size ≤ gb813)); have GE813 := Aside0.mk ((by rw [hg]; exact (below_size (zB HB)) : w.heap.size ≤ gb813)); replace HB := Aside0.mk (below_step (zB HB) hb); clear hb hbox hg; obtain ⟨hcz12_0, hcz12_1, hcz12_2, hcz12_3, hcz12_4, hcz12_5⟩ := zc6 BK813; obtain ⟨hfz12_0, hfz12_1, hfz12_2, hfz12_3, hfz12_4, hfz12_5⟩ := zf6 BK813; obtain ⟨Ao13, co13, eo13⟩ := Kd.R_slice HO_5.out; subst eo13))
         go_loopg [8, 22] k1 (fun kq v8 v22 w' => ∃ (x8_2 : List (S66)) (x22_2 : Int), v22 = .int .i64 x22_2 ∧ Aside0 (addrset_Minus.l1 kq x8_2 t806 (t806.length : Int) x16_1 x5_1 (x5_1.length : Int) x22_2 ((rd_T66 t806 x16_1).f0.f0) ((rd_T66 t806 x16_1).f0.f1) ((rd_T66 t806 x16_1).f0.f2) ((rd_T66 t806 x16_1).f1.f0) ((rd_T66 t806 x16_1).f1.f1) ((rd_T66 t806 x16_1).f1.f2) = some r) ∧ Aside0 (kq ≤ k1) ∧ Aside0 (Kd.R k66 66 w' w.heap.size (fun k_ => some k_ ≠ ((.slice (some ad812) t806.length co7) : Value).ownBlock ∧ some k_ ≠ ((.slice Ao13 x5_1.length co13) : Value).ownBlock ∧ k_ ≠ gb813) v8 x8_2) ∧ Aside0 (Kd.R k66 66 w' w.heap.size (fun k_ => some k_ ≠ (v8 : Value).ownBlock ∧ some k_ ≠ ((.slice Ao13 x5_1.length co13) : Value).ownBlock ∧ k_ ≠ gb813) (.slice (some ad812) t806.length co7) t806) ∧ Aside0 (Kd.R k66 66 w' w.heap.size (fun k_ => some k_ ≠ (v8 : Value).ownBlock ∧ some k_ ≠ ((.slice (some ad812) t806.length co7) : Value).ownBlock ∧ k_ ≠ gb813) (.slice Ao13 x5_1.length co13) x5_1) ∧ Aside0 (w'.heap[gb813]? = some (.cells #[.bool ((rd_T66 t806 x16_1).f0.f0), .int .u64 ((rd_T66 t806 x16_1).f0.f1), .int .u64 ((rd_T66 t806 x16_1).f0.f2), .bool ((rd_T66 t806 x16_1).f1.f0), .int .u64 ((rd_T66 t806 x16_1).f1.f1), .int .u64 ((rd_T66 t806 x16_1).f1.f2)] 66 (0, 0))) ∧ Aside0 (Below w.heap.size w w'))
         case atStart => exact ⟨(([] : List (S66))), (0), (by first | rfl | (simp; done) | (simp [*]; done)), H', ⟨Nat.le_refl _⟩, ⟨by first | exact Kd.R_nil _ _ _ _ _ | exact Kd.N_nil _ _ _ _ _ | exact Kd.V_nil _ _ _ _ _ | exact Kd.Q_nil _ _ _ _ _ | exact Kd.S_nil _ _ _ _ _⟩, ⟨by (with_reducible repeat (first | apply Kd.R_alloc | apply Kd.R_drewN | apply Kd.R_drew)); exact Kd.R_mono (Kd.R_far (p := ⟨gb813, 5, none⟩) (Kd.R_far (p := ⟨gb813, 4, none⟩) (Kd.R_far (p := ⟨gb813, 3, none⟩) (Kd.R_far (p := ⟨gb813, 2, none⟩) (Kd.R_far (p := ⟨gb813, 1, none⟩) (Kd.R_far (p := ⟨gb813, 0, none⟩) (Kd.R_mono HO_14.out (fun k_ hk => (⟨hk, hk.2⟩ : _ ∧ k_ ≠ gb813))) (fun _ hk => hk.2) (.bool ((rd_T66 t806 x16_1).f0.f0))) (fun _ hk => hk.2) (.int .u64 ((rd_T66 t806 x16_1).f0.f1))) (fun _ hk => hk.2) (.int .u64 ((rd_T66 t806 x16_1).f0.f2))) (fun _ hk => hk.2) (.bool ((rd_T66 t806 x16_1).f1.f0))) (fun _ hk => hk.2) (.int .u64 ((rd_T66 t806 x16_1).f1.f1))) (fun _ hk => hk.2) (.int .u64 ((rd_T66 t806 x16_1).f1.f2))) (fun _ hk => ⟨(by simp [Value.ownBlock]), ⟨hk.1.1, hk.1.2⟩⟩)⟩, ⟨by (with_reducible repeat (first | apply Kd.R_alloc | apply Kd.R_drewN | apply Kd.R_drew)); exact Kd.R_mono (Kd.R_far (p := ⟨gb813, 5, none⟩) (Kd.R_far (p := ⟨gb813, 4, none⟩) (Kd.R_far (p := ⟨gb813, 3, none⟩) (Kd.R_far (p := ⟨gb813, 2, none⟩) (Kd.R_far (p := ⟨gb813, 1, none⟩) (Kd.R_far (p := ⟨gb813, 0, none⟩) (Kd.R_mono HO_5.out (fun k_ hk => (⟨hk, hk.2⟩ : _ ∧ k_ ≠ gb813))) (fun _ hk => hk.2) (.bool ((rd_T66 t806 x16_1).f0.f0))) (fun _ hk => hk.2) (.int .u64 ((rd_T66 t806 x16_1).f0.f1))) (fun _ hk => hk.2) (.int .u64 ((rd_T66 t806 x16_1).f0.f2))) (fun _ hk => hk.2) (.bool ((rd_T66 t806 x16_1).f1.f0))) (fun _ hk => hk.2) (.int .u64 ((rd_T66 t806 x16_1).f1.f1))) (fun _ hk => hk.2) (.int .u64 ((rd_T66 t806 x16_1).f1.f2))) (fun _ hk => ⟨(by simp [Value.ownBlock]), ⟨hk.1.1, hk.1.2⟩⟩)⟩, ⟨by refine zL ?_; refine blk_put (cs := #[.bool ((rd_T66 t806 x16_1).f0.f0), .int .u64 ((rd_T66 t806 x16_1).f0.f1), .int .u64 ((rd_T66 t806 x16_1).f0.f2), .bool ((rd_T66 t806 x16_1).f1.f0), .int .u64 ((rd_T66 t806 x16_1).f1.f1), .int .u64 0]) ?_ 5 _ rfl; refine zL ?_; refine blk_put (cs := #[.bool ((rd_T66 t806 x16_1).f0.f0), .int .u64 ((rd_T66 t806 x16_1).f0.f1), .int .u64 ((rd_T66 t806 x16_1).f0.f2), .bool ((rd_T66 t806 x16_1).f1.f0), .int .u64 0, .int .u64 0]) ?_ 4 _ rfl; refine zL ?_; refine blk_put (cs := #[.bool ((rd_T66 t806 x16_1).f0.f0), .int .u64 ((rd_T66 t806 x16_1).f0.f1), .int .u64 ((rd_T66 t806 x16_1).f0.f2), .bool false, .int .u64 0, .int .u64 0]) ?_ 3 _ rfl; refine zL ?_; refine blk_put (cs := #[.bool ((rd_T66 t806 x16_1).f0.f0), .int .u64 ((rd_T66 t806 x16_1).f0.f1), .int .u64 0, .bool false, .int .u64 0, .int .u64 0]) ?_ 2 _ rfl; refine zL ?_; refine blk_put (cs := #[.bool ((rd_T66 t806 x16_1).f0.f0), .int .u64 0, .int .u64 0, .bool false, .int .u64 0, .int .u64 0]) ?_ 1 _ rfl; refine zL ?_; refine blk_put (cs := #[.bool false, .int .u64 0, .int .u64 0, .bool false, .int .u64 0, .int .u64 0]) ?_ 0 _ rfl; refine zL ?_; exact BK813.out⟩, ⟨zB HB⟩⟩
         case round =>
          clear H'
          try clear c1
          try clear p2
          try clear c3
          try clear c5
          try clear c8
          try clear c8b0
          try clear p8
          try clear q8
          try clear hx8
          try clear c9
          try clear c9b0
          try clear c10
          try clear c10b0
          try clear hcz12_0
          try clear hcz12_1
          try clear hcz12_2
          try clear hcz12_3
          try clear hcz12_4
          try clear hcz12_5
          try clear hfz12_0
          try clear hfz12_1
          try clear hfz12_2
          try clear hfz12_3
          try clear hfz12_4
          try clear hfz12_5
          try clear hx812_0
          try clear hx812_1
          try clear hx812_2
          try clear hx812_3
          try clear hx812_4
          try clear hx812_5
          try clear p2
          try clear p812
          try clear q812
          obtain ⟨x8_2, x22_2, rfl, HA, HK2, HO_8, HO_14, HO_20, BK813, HB⟩ := hrel
          cases gk with
          | zero => exact absurd HA.out (by simp [addrset_Minus.l1])
          | succ k2 =>
           have H := HA.out
           clear HA
           simp only [addrset_Minus.l1] at H
           by_cases c14 : x22_2 < (x5_1.length : Int)
           · rw [if_pos c14] at H
             have c14b0 : decide (x22_2 < (x5_1.length : Int)) = true := decide_eq_true c14
             clear c14
             by_cases c15 : 0 ≤ x22_2
             · rw [if_pos c15] at H
               have c15b0 : decide (0 ≤ x22_2) = true := decide_eq_true c15
               clear c15
               by_cases c16 : x22_2 < (x5_1.length : Int)
               · rw [if_pos c16] at H
                 have c16b0 : decide (x22_2 < (x5_1.length : Int)) = true := decide_eq_true c16
                 clear c16
                 replace H := Option.bind_eq_some_iff.mp H
                 obtain ⟨t816, A170, H⟩ := H
                 try dsimp only at H
                 have A17 := Aside0.mk A170
                 clear A170
                 by_cases c18 : x8_2.length + t816.length < 2932031007402
                 · rw [if_pos c18] at H
                   have LMc18 := Aside0.mk c18
                   clear c18
                   obtain ⟨y819, hy819⟩ : ∃ y_ : List (S66), y_ = (x8_2 ++ t816) := ⟨_, rfl⟩
                   rw [← hy819] at H; try dsimp only [Option.bind_some] at H
                   have Ny819 := Aside0.mk hy819
                   clear hy819
                   have H' := Aside0.mk H
                   clear H
                   have p814 : 0 ≤ (x22_2 : Int) := za
                   have q814 : x22_2 < (x5_1.length : Int) := za
                   (try (obtain ⟨Ax_, cx_, ex_⟩ := Kd.R_slice HO_20.out; subst ex_))
                   obtain ⟨ad814, e814, hx814_0, hx814_1, hx814_2, hx814_3, hx814_4, hx814_5⟩ := at_T66 (Kd.R_reads' HO_20.out).2.2 x22_2 p814 q814
                   cases e814
                   replace p814 := eq_true p814
                   replace q814 := eq_true q814
                   go_wp2_with (first | ((with_reducible refine gate_dst (N := 10) rfl ?_); refine zx 10 #[.bool false, .int .u64 0, .int .u64 0, .bool false, .int .u64 0, .int .u64 0] 66 ?_; intro gb815 hg w19 hbox hb; replace HO_8 := Aside0.mk (Kd.R_below (Kd.R_elderB (zR HO_8) gb815 (Nat.le_of_eq hg.symm)) hb); replace HO_14 := Aside0.mk (Kd.R_below (Kd.R_elderB (zR HO_14) gb815 (Nat.le_of_eq hg.symm)) hb); replace HO_20 := Aside0.mk (Kd.R_below (Kd.R_elderB (zR HO_20) gb815 (Nat.le_of_eq hg.symm)) hb); have BK815 := Aside0.mk (hbox); have GW815 := Aside0.mk ((by rw [hg]; exact (below_size (zB HB)) : w.heap.size ≤ gb815)); have GE815 := Aside0.mk ((by rw [hg]; exact (below_size (zB HB)) : w.heap.size ≤ gb815)); replace HB := Aside0.mk (below_step (zB HB) hb); have NB813_815 := Aside0.mk ((by rw [hg]; exact Nat.ne_of_lt (blk_lt (g := gb813) (o := .cells #[.bool ((rd_T66 t806 x16_1).f0.f0), .int .u64 ((rd_T66 t806 x16_1).f0.f1), .int .u64 ((rd_T66 t806 x16_1).f0.f2), .bool ((rd_T66 t806 x16_1).f1.f0), .int .u64 ((rd_T66 t806 x16_1).f1.f1), .int .u64 ((rd_T66 t806 x16_1).f1.f2)] 66 (0, 0)) (zK BK813)) : gb813 ≠ gb815)); have NB815_813 := Aside0.mk ((by rw [hg]; exact Nat.ne_of_gt (blk_lt (g := gb813) (o := .cells #[.bool ((rd_T66 t806 x16_1).f0.f0), .int .u64 ((rd_T66 t806 x16_1).f0.f1), .int .u64 ((rd_T66 t806 x16_1).f0.f2), .bool ((rd_T66 t806 x16_1).f1.f0), .int .u64 ((rd_T66 t806 x16_1).f1.f1), .int .u64 ((rd_T66 t806 x16_1).f1.f2)] 66 (0, 0)) (zK BK813)) : gb815 ≠ gb813)); replace BK813 := Aside0.mk (blk_below (g := gb813) (o := .cells #[.bool ((rd_T66 t806 x16_1).f0.f0), .int .u64 ((rd_T66 t806 x16_1).f0.f1), .int .u64 ((rd_T66 t806 x16_1).f0.f2), .bool ((rd_T66 t806 x16_1).f1.f0), .int .u64 ((rd_T66 t806 x16_1).f1.f1), .int .u64 ((rd_T66 t806 x16_1).f1.f2)] 66 (0, 0)) (zK BK813) hb); clear hb hbox hg; have hnb20 := NB815_813.out; have hnc20 := NB813_815.out; obtain ⟨hcz21_0, hcz21_1, hcz21_2, hcz21_3, hcz21_4, hcz21_5⟩ := zc6 BK815; obtain ⟨hfz21_0, hfz21_1, hfz21_2, hfz21_3, hfz21_4, hfz21_5⟩ := zf6 BK815; obtain ⟨hcz22_0, hcz22_1, hcz22_2, hcz22_3, hcz22_4, hcz22_5⟩ := zc6 BK813; obtain ⟨hfz22_0, hfz22_1, hfz22_2, hfz22_3, hfz22_4, hfz22_5⟩ := zf6 BK813) | ((with_reducible refine gate_callee (f := 96) rfl ?_); refine goesL_ (some 29) rfl rfl Try.func96 (by kernel_rfl) rfl #[.agg #[.bool ((rd_T66 x5_1 x22_2).f0.f0), .int .u64 ((rd_T66 x5_1 x22_2).f0.f1), .int .u64 ((rd_T66 x5_1 x22_2).f0.f2), .bool ((rd_T66 x5_1 x22_2).f1.f0), .int .u64 ((rd_T66 x5_1 x22_2).f1.f1), .int .u64 ((rd_T66 x5_1 x22_2).f1.f2)], .agg #[.bool ((rd_T66 t806 x16_1).f0.f0), .int .u64 ((rd_T66 t806 x16_1).f0.f1), .int .u64 ((rd_T66 t806 x16_1).f0.f2), .bool ((rd_T66 t806 x16_1).f1.f0), .int .u64 ((rd_T66 t806 x16_1).f1.f1), .int .u64 ((rd_T66 t806 x16_1).f1.f2)]] rfl (by (try simp only [List.map_toArray, List.map_cons, List.map_nil]); first | done | rfl | (simp only [List.length_drop, List.length_take]; rfl)) ?_; (with_reducible refine (addrset_without.calls k2 ((rd_T66 x5_1 x22_2).f0.f0) ((rd_T66 x5_1 x22_2).f0.f1) ((rd_T66 x5_1 x22_2).f0.f2) ((rd_T66 x5_1 x22_2).f1.f0) ((rd_T66 x5_1 x22_2).f1.f1) ((rd_T66 x5_1 x22_2).f1.f2) ((rd_T66 t806 x16_1).f0.f0) ((rd_T66 t806 x16_1).f0.f1) ((rd_T66 t806 x16_1).f0.f2) ((rd_T66 t806 x16_1).f1.f0) ((rd_T66 t806 x16_1).f1.f1) ((rd_T66 t806 x16_1).f1.f2) t816 _ A17.out).mono ?_); rintro e w23 ⟨v817, rfl, ho0, hb⟩; refine ⟨_, rfl, ?_⟩; have HO818 := Aside0.mk (Kd.R_lower (Kd.R_newB (Kd.R_newB (Kd.R_new' (Kd.R_new' (Kd.R_new' ho0 (Kd.R_lt (zQ (Kd.R_mono (Kd.R_far (p := ⟨gb815, 5, none⟩) (Kd.R_far (p := ⟨gb815, 4, none⟩) (Kd.R_far (p := ⟨gb815, 3, none⟩) (Kd.R_far (p := ⟨gb815, 2, none⟩) (Kd.R_far (p := ⟨gb815, 1, none⟩) (Kd.R_far (p := ⟨gb815, 0, none⟩) (Kd.R_mono HO_8.out (fun k_ hk => (⟨hk, hk.2⟩ : _ ∧ k_ ≠ gb815))) (fun _ hk => hk.2) (.bool ((rd_T66 x5_1 x22_2).f0.f0))) (fun _ hk => hk.2) (.int .u64 ((rd_T66 x5_1 x22_2).f0.f1))) (fun _ hk => hk.2) (.int .u64 ((rd_T66 x5_1 x22_2).f0.f2))) (fun _ hk => hk.2) (.bool ((rd_T66 x5_1 x22_2).f1.f0))) (fun _ hk => hk.2) (.int .u64 ((rd_T66 x5_1 x22_2).f1.f1))) (fun _ hk => hk.2) (.int .u64 ((rd_T66 x5_1 x22_2).f1.f2))) (fun _ h_ => h_.1))))) (Kd.R_lt (zQ (Kd.R_mono (Kd.R_far (p := ⟨gb815, 5, none⟩) (Kd.R_far (p := ⟨gb815, 4, none⟩) (Kd.R_far (p := ⟨gb815, 3, none⟩) (Kd.R_far (p := ⟨gb815, 2, none⟩) (Kd.R_far (p := ⟨gb815, 1, none⟩) (Kd.R_far (p := ⟨gb815, 0, none⟩) (Kd.R_mono HO_14.out (fun k_ hk => (⟨hk, hk.2⟩ : _ ∧ k_ ≠ gb815))) (fun _ hk => hk.2) (.bool ((rd_T66 x5_1 x22_2).f0.f0))) (fun _ hk => hk.2) (.int .u64 ((rd_T66 x5_1 x22_2).f0.f1))) (fun _ hk => hk.2) (.int .u64 ((rd_T66 x5_1 x22_2).f0.f2))) (fun _ hk => hk.2) (.bool ((rd_T66 x5_1 x22_2).f1.f0))) (fun _ hk => hk.2) (.int .u64 ((rd_T66 x5_1 x22_2).f1.f1))) (fun _ hk => hk.2) (.int .u64 ((rd_T66 x5_1 x22_2).f1.f2))) (fun _ h_ => h_.1))))) (Kd.R_lt (zQ (Kd.R_mono (Kd.R_far (p := ⟨gb815, 5, none⟩) (Kd.R_far (p := ⟨gb815, 4, none⟩) (Kd.R_far (p := ⟨gb815, 3, none⟩) (Kd.R_far (p := ⟨gb815, 2, none⟩) (Kd.R_far (p := ⟨gb815, 1, none⟩) (Kd.R_far (p := ⟨gb815, 0, none⟩) (Kd.R_mono HO_20.out (fun k_ hk => (⟨hk, hk.2⟩ : _ ∧ k_ ≠ gb815))) (fun _ hk => hk.2) (.bool ((rd_T66 x5_1 x22_2).f0.f0))) (fun _ hk => hk.2) (.int .u64 ((rd_T66 x5_1 x22_2).f0.f1))) (fun _ hk => hk.2) (.int .u64 ((rd_T66 x5_1 x22_2).f0.f2))) (fun _ hk => hk.2) (.bool ((rd_T66 x5_1 x22_2).f1.f0))) (fun _ hk => hk.2) (.int .u64 ((rd_T66 x5_1 x22_2).f1.f1))) (fun _ hk => hk.2) (.int .u64 ((rd_T66 x5_1 x22_2).f1.f2))) (fun _ h_ => h_.1))))) (g := gb813) (o := .cells #[.bool ((rd_T66 t806 x16_1).f0.f0), .int .u64 ((rd_T66 t806 x16_1).f0.f1), .int .u64 ((rd_T66 t806 x16_1).f0.f2), .bool ((rd_T66 t806 x16_1).f1.f0), .int .u64 ((rd_T66 t806 x16_1).f1.f1), .int .u64 ((rd_T66 t806 x16_1).f1.f2)] 66 (0, 0)) (by refine zL ?_; refine blk_far ?_ NB813_815.out _; refine zL ?_; refine blk_far ?_ NB813_815.out _; refine zL ?_; refine blk_far ?_ NB813_815.out _; refine zL ?_; refine blk_far ?_ NB813_815.out _; refine zL ?_; refine blk_far ?_ NB813_815.out _; refine zL ?_; refine blk_far ?_ NB813_815.out _; refine zL ?_; exact BK813.out)) (g := gb815) (o := .cells #[.bool ((rd_T66 x5_1 x22_2).f0.f0), .int .u64 ((rd_T66 x5_1 x22_2).f0.f1), .int .u64 ((rd_T66 x5_1 x22_2).f0.f2), .bool ((rd_T66 x5_1 x22_2).f1.f0), .int .u64 ((rd_T66 x5_1 x22_2).f1.f1), .int .u64 ((rd_T66 x5_1 x22_2).f1.f2)] 66 (0, 0)) (by refine zL ?_; refine blk_put (cs := #[.bool ((rd_T66 x5_1 x22_2).f0.f0), .int .u64 ((rd_T66 x5_1 x22_2).f0.f1), .int .u64 ((rd_T66 x5_1 x22_2).f0.f2), .bool ((rd_T66 x5_1 x22_2).f1.f0), .int .u64 ((rd_T66 x5_1 x22_2).f1.f1), .int .u64 0]) ?_ 5 _ rfl; refine zL ?_; refine blk_put (cs := #[.bool ((rd_T66 x5_1 x22_2).f0.f0), .int .u64 ((rd_T66 x5_1 x22_2).f0.f1), .int .u64 ((rd_T66 x5_1 x22_2).f0.f2), .bool ((rd_T66 x5_1 x22_2).f1.f0), .int .u64 0, .int .u64 0]) ?_ 4 _ rfl; refine zL ?_; refine blk_put (cs := #[.bool ((rd_T66 x5_1 x22_2).f0.f0), .int .u64 ((rd_T66 x5_1 x22_2).f0.f1), .int .u64 ((rd_T66 x5_1 x22_2).f0.f2), .bool false, .int .u64 0, .int .u64 0]) ?_ 3 _ rfl; refine zL ?_; refine blk_put (cs := #[.bool ((rd_T66 x5_1 x22_2).f0.f0), .int .u64 ((rd_T66 x5_1 x22_2).f0.f1), .int .u64 0, .bool false, .int .u64 0, .int .u64 0]) ?_ 2 _ rfl; refine zL ?_; refine blk_put (cs := #[.bool ((rd_T66 x5_1 x22_2).f0.f0), .int .u64 0, .int .u64 0, .bool false, .int .u64 0, .int .u64 0]) ?_ 1 _ rfl; refine zL ?_; refine blk_put (cs := #[.bool false, .int .u64 0, .int .u64 0, .bool false, .int .u64 0, .int .u64 0]) ?_ 0 _ rfl; refine zL ?_; exact BK815.out)) (below_size (zB HB))); replace HO_8 := Aside0.mk (Kd.R_elder' (zQ (Kd.R_mono (Kd.R_far (p := ⟨gb815, 5, none⟩) (Kd.R_far (p := ⟨gb815, 4, none⟩) (Kd.R_far (p := ⟨gb815, 3, none⟩) (Kd.R_far (p := ⟨gb815, 2, none⟩) (Kd.R_far (p := ⟨gb815, 1, none⟩) (Kd.R_far (p := ⟨gb815, 0, none⟩) (Kd.R_mono HO_8.out (fun k_ hk => (⟨hk, hk.2⟩ : _ ∧ k_ ≠ gb815))) (fun _ hk => hk.2) (.bool ((rd_T66 x5_1 x22_2).f0.f0))) (fun _ hk => hk.2) (.int .u64 ((rd_T66 x5_1 x22_2).f0.f1))) (fun _ hk => hk.2) (.int .u64 ((rd_T66 x5_1 x22_2).f0.f2))) (fun _ hk => hk.2) (.bool ((rd_T66 x5_1 x22_2).f1.f0))) (fun _ hk => hk.2) (.int .u64 ((rd_T66 x5_1 x22_2).f1.f1))) (fun _ hk => hk.2) (.int .u64 ((rd_T66 x5_1 x22_2).f1.f2))) (fun _ h_ => h_.1))) (Kd.R_base ho0) hb); replace HO_14 := Aside0.mk (Kd.R_elder' (zQ (Kd.R_mono (Kd.R_far (p := ⟨gb815, 5, none⟩) (Kd.R_far (p := ⟨gb815, 4, none⟩) (Kd.R_far (p := ⟨gb815, 3, none⟩) (Kd.R_far (p := ⟨gb815, 2, none⟩) (Kd.R_far (p := ⟨gb815, 1, none⟩) (Kd.R_far (p := ⟨gb815, 0, none⟩) (Kd.R_mono HO_14.out (fun k_ hk => (⟨hk, hk.2⟩ : _ ∧ k_ ≠ gb815))) (fun _ hk => hk.2) (.bool ((rd_T66 x5_1 x22_2).f0.f0))) (fun _ hk => hk.2) (.int .u64 ((rd_T66 x5_1 x22_2).f0.f1))) (fun _ hk => hk.2) (.int .u64 ((rd_T66 x5_1 x22_2).f0.f2))) (fun _ hk => hk.2) (.bool ((rd_T66 x5_1 x22_2).f1.f0))) (fun _ hk => hk.2) (.int .u64 ((rd_T66 x5_1 x22_2).f1.f1))) (fun _ hk => hk.2) (.int .u64 ((rd_T66 x5_1 x22_2).f1.f2))) (fun _ h_ => h_.1))) (Kd.R_base ho0) hb); replace HO_20 := Aside0.mk (Kd.R_elder' (zQ (Kd.R_mono (Kd.R_far (p := ⟨gb815, 5, none⟩) (Kd.R_far (p := ⟨gb815, 4, none⟩) (Kd.R_far (p := ⟨gb815, 3, none⟩) (Kd.R_far (p := ⟨gb815, 2, none⟩) (Kd.R_far (p := ⟨gb815, 1, none⟩) (Kd.R_far (p := ⟨gb815, 0, none⟩) (Kd.R_mono HO_20.out (fun k_ hk => (⟨hk, hk.2⟩ : _ ∧ k_ ≠ gb815))) (fun _ hk => hk.2) (.bool ((rd_T66 x5_1 x22_2).f0.f0))) (fun _ hk => hk.2) (.int .u64 ((rd_T66 x5_1 x22_2).f0.f1))) (fun _ hk => hk.2) (.int .u64 ((rd_T66 x5_1 x22_2).f0.f2))) (fun _ hk => hk.2) (.bool ((rd_T66 x5_1 x22_2).f1.f0))) (fun _ hk => hk.2) (.int .u64 ((rd_T66 x5_1 x22_2).f1.f1))) (fun _ hk => hk.2) (.int .u64 ((rd_T66 x5_1 x22_2).f1.f2))) (fun _ h_ => h_.1))) (Kd.R_base ho0) hb); replace BK813 := Aside0.mk (blk_below (g := gb813) (o := .cells #[.bool ((rd_T66 t806 x16_1).f0.f0), .int .u64 ((rd_T66 t806 x16_1).f0.f1), .int .u64 ((rd_T66 t806 x16_1).f0.f2), .bool ((rd_T66 t806 x16_1).f1.f0), .int .u64 ((rd_T66 t806 x16_1).f1.f1), .int .u64 ((rd_T66 t806 x16_1).f1.f2)] 66 (0, 0)) (by refine zL ?_; refine blk_far ?_ NB813_815.out _; refine zL ?_; refine blk_far ?_ NB813_815.out _; refine zL ?_; refine blk_far ?_ NB813_815.out _; refine zL ?_; refine blk_far ?_ NB813_815.out _; refine zL ?_; refine blk_far ?_ NB813_815.out _; refine zL ?_; refine blk_far ?_ NB813_815.out _; refine zL ?_; exact BK813.out) hb); replace BK815 := Aside0.mk (blk_below (g := gb815) (o := .cells #[.bool ((rd_T66 x5_1 x22_2).f0.f0), .int .u64 ((rd_T66 x5_1 x22_2).f0.f1), .int .u64 ((rd_T66 x5_1 x22_2).f0.f2), .bool ((rd_T66 x5_1 x22_2).f1.f0), .int .u64 ((rd_T66 x5_1 x22_2).f1.f1), .int .u64 ((rd_T66 x5_1 x22_2).f1.f2)] 66 (0, 0)) (by refine zL ?_; refine blk_put (cs := #[.bool ((rd_T66 x5_1 x22_2).f0.f0), .int .u64 ((rd_T66 x5_1 x22_2).f0.f1), .int .u64 ((rd_T66 x5_1 x22_2).f0.f2), .bool ((rd_T66 x5_1 x22_2).f1.f0), .int .u64 ((rd_T66 x5_1 x22_2).f1.f1), .int .u64 0]) ?_ 5 _ rfl; refine zL ?_; refine blk_put (cs := #[.bool ((rd_T66 x5_1 x22_2).f0.f0), .int .u64 ((rd_T66 x5_1 x22_2).f0.f1), .int .u64 ((rd_T66 x5_1 x22_2).f0.f2), .bool ((rd_T66 x5_1 x22_2).f1.f0), .int .u64 0, .int .u64 0]) ?_ 4 _ rfl; refine zL ?_; refine blk_put (cs := #[.bool ((rd_T66 x5_1 x22_2).f0.f0), .int .u64 ((rd_T66 x5_1 x22_2).f0.f1), .int .u64 ((rd_T66 x5_1 x22_2).f0.f2), .bool false, .int .u64 0, .int .u64 0]) ?_ 3 _ rfl; refine zL ?_; refine blk_put (cs := #[.bool ((rd_T66 x5_1 x22_2).f0.f0), .int .u64 ((rd_T66 x5_1 x22_2).f0.f1), .int .u64 0, .bool false, .int .u64 0, .int .u64 0]) ?_ 2 _ rfl; refine zL ?_; refine blk_put (cs := #[.bool ((rd_T66 x5_1 x22_2).f0.f0), .int .u64 0, .int .u64 0, .bool false, .int .u64 0, .int .u64 0]) ?_ 1 _ rfl; refine zL ?_; refine blk_put (cs := #[.bool false, .int .u64 0, .int .u64 0, .bool false, .int .u64 0, .int .u64 0]) ?_ 0 _ rfl; refine zL ?_; exact BK815.out) hb); replace HB := Aside0.mk (below_step (zB HB) hb); (try clear hb); (try clear ho0); obtain ⟨Ao25, co25, eo25⟩ := Kd.R_slice HO818.out; subst eo25) | ((with_reducible refine gate_builtin (b := .append) (xs := #[.tmp 26, .tmp 29]) rfl ?_); at_builtin; refine Kd.R_append_rows k66 (w0 := w) w.heap.size rfl (.tmp 26) (.tmp 29) 33 66 (.agg #[(.bool false), (.int .u64 0), (.int .u64 0), (.bool false), (.int .u64 0), (.int .u64 0)]) 48 rfl Try.underlying33 info66 rfl (by decide) (by omega) u8 x8_2 t816 _ _ _ (fun k_ => some k_ ≠ (.slice (some ad812) t806.length co7 : Value).ownBlock ∧ some k_ ≠ (.slice (some ad814) x5_1.length co13 : Value).ownBlock ∧ some k_ ≠ (.slice Ao25 t816.length co25 : Value).ownBlock ∧ k_ ≠ gb813 ∧ k_ ≠ gb815) (fun _ => False) rfl rfl ?aO ?aR (fun _ _ h => h) (fun _ h => h.elim) ?aF ?aB ?aS ?aL ?_; (case aR => repeat (first | exact (Kd.R_reads' HO818.out).2.2 | (with_reducible refine Kd.C_alloc ?_ _) | (with_reducible refine Kd.C_drewN ?_ _) | (with_reducible refine Kd.C_drew ?_))); (case aB => exact (zB HB)); (case aF => exact (fun k_ hk => ⟨Kd.fresh' (Kd.R_lt (zR HO_14)) k_ hk, Kd.fresh' (Kd.R_lt (zR HO_20)) k_ hk, Kd.fresh' (Kd.R_lt (zR HO818)) k_ hk, Kd.freshB (g := gb813) (o := .cells #[.bool ((rd_T66 t806 x16_1).f0.f0), .int .u64 ((rd_T66 t806 x16_1).f0.f1), .int .u64 ((rd_T66 t806 x16_1).f0.f2), .bool ((rd_T66 t806 x16_1).f1.f0), .int .u64 ((rd_T66 t806 x16_1).f1.f1), .int .u64 ((rd_T66 t806 x16_1).f1.f2)] 66 (0, 0)) (zK BK813) k_ hk, Kd.freshB (g := gb815) (o := .cells #[.bool ((rd_T66 x5_1 x22_2).f0.f0), .int .u64 ((rd_T66 x5_1 x22_2).f0.f1), .int .u64 ((rd_T66 x5_1 x22_2).f0.f2), .bool ((rd_T66 x5_1 x22_2).f1.f0), .int .u64 ((rd_T66 x5_1 x22_2).f1.f1), .int .u64 ((rd_T66 x5_1 x22_2).f1.f2)] 66 (0, 0)) (zK BK815) k_ hk⟩)); (case aO => exact (by (with_reducible repeat (first | apply Kd.R_alloc | apply Kd.R_drewN | apply Kd.R_drew)); exact Kd.R_mono HO_8.out (fun _ hk => ⟨hk.1.1.1, ⟨hk.1.1.2.1, ⟨hk.2, ⟨hk.1.1.2.2, hk.1.2⟩⟩⟩⟩))); (case aS => exact (below_size (zB HB))); (case aL => have := LMc18.out; omega); intro v820 w24 ho hb hg hat; rw [← Ny819.out] at ho; replace HO_14 := Aside0.mk (Kd.R_after (ok := (fun k_ => some k_ ≠ (.slice (some ad814) x5_1.length co13 : Value).ownBlock ∧ some k_ ≠ (.slice Ao25 t816.length co25 : Value).ownBlock ∧ k_ ≠ gb813 ∧ k_ ≠ gb815)) (by (with_reducible repeat (first | apply Kd.R_alloc | apply Kd.R_drewN | apply Kd.R_drew)); exact Kd.R_mono HO_14.out (fun _ hk => ⟨⟨hk.1.1.2.1, ⟨hk.2, ⟨hk.1.1.2.2, hk.1.2⟩⟩⟩, hk.1.1.1⟩)) hg hat); replace HO_20 := Aside0.mk (Kd.R_after (ok := (fun k_ => some k_ ≠ (.slice (some ad812) t806.length co7 : Value).ownBlock ∧ some k_ ≠ (.slice Ao25 t816.length co25 : Value).ownBlock ∧ k_ ≠ gb813 ∧ k_ ≠ gb815)) (by (with_reducible repeat (first | apply Kd.R_alloc | apply Kd.R_drewN | apply Kd.R_drew)); exact Kd.R_mono HO_20.out (fun _ hk => ⟨⟨hk.1.1.2.1, ⟨hk.2, ⟨hk.1.1.2.2, hk.1.2⟩⟩⟩, hk.1.1.1⟩)) hg hat); replace BK813 := Aside0.mk (blk_grown (g := gb813) (o := .cells #[.bool ((rd_T66 t806 x16_1).f0.f0), .int .u64 ((rd_T66 t806 x16_1).f0.f1), .int .u64 ((rd_T66 t806 x16_1).f0.f2), .bool ((rd_T66 t806 x16_1).f1.f0), .int .u64 ((rd_T66 t806 x16_1).f1.f1), .int .u64 ((rd_T66 t806 x16_1).f1.f2)] 66 (0, 0)) (zK BK813) hg (Kd.R_away HO_8.out (fun _ hk => hk.1.1.2.2))); replace BK815 := Aside0.mk (blk_grown (g := gb815) (o := .cells #[.bool ((rd_T66 x5_1 x22_2).f0.f0), .int .u64 ((rd_T66 x5_1 x22_2).f0.f1), .int .u64 ((rd_T66 x5_1 x22_2).f0.f2), .bool ((rd_T66 x5_1 x22_2).f1.f0), .int .u64 ((rd_T66 x5_1 x22_2).f1.f1), .int .u64 ((rd_T66 x5_1 x22_2).f1.f2)] 66 (0, 0)) (zK BK815) hg (Kd.R_away HO_8.out (fun _ hk => hk.1.2))); replace HO818 := Aside0.mk (Kd.R_after (ok := (fun k_ => some k_ ≠ (.slice (some ad812) t806.length co7 : Value).ownBlock ∧ some k_ ≠ (.slice (some ad814) x5_1.length co13 : Value).ownBlock ∧ k_ ≠ gb813 ∧ k_ ≠ gb815)) (by (with_reducible repeat (first | apply Kd.R_alloc | apply Kd.R_drewN | apply Kd.R_drew)); exact Kd.R_mono HO818.out (fun _ hk => ⟨⟨hk.1.1.1.2, ⟨hk.1.1.2, ⟨hk.1.2, hk.2⟩⟩⟩, hk.1.1.1.1.2⟩)) hg hat); replace HB := Aside0.mk (hb); have HO821 := Aside0.mk (ho); clear HO_8; clear ho hb hg hat))
                   go_roundg k2
                   case measure => have := HK1.out; have := HK2.out; omega
                   case rel => exact ⟨(y819), (wrap64 (x22_2 + 1)), (by first | rfl | (simp; done) | (simp [*]; done)), H', ⟨by have := HK1.out; have := HK2.out; omega⟩, ⟨by (with_reducible repeat (first | apply Kd.R_alloc | apply Kd.R_drewN | apply Kd.R_drew)); exact Kd.R_mono HO821.out (fun _ hk => ⟨hk.1, ⟨hk.2.1, hk.2.2.2.1⟩⟩)⟩, ⟨by (with_reducible repeat (first | apply Kd.R_alloc | apply Kd.R_drewN | apply Kd.R_drew)); exact Kd.R_mono HO_14.out (fun _ hk => ⟨hk.2, ⟨hk.1.1, hk.1.2.2.1⟩⟩)⟩, ⟨by (with_reducible repeat (first | apply Kd.R_alloc | apply Kd.R_drewN | apply Kd.R_drew)); exact Kd.R_mono HO_20.out (fun _ hk => ⟨hk.2, ⟨hk.1.1, hk.1.2.2.1⟩⟩)⟩, ⟨zK BK813⟩, ⟨zB HB⟩⟩
                 · rw [if_neg c18] at H
                   exact absurd H (by simp)
               · rw [if_neg c16] at H
                 exact absurd H (by simp)
             · rw [if_neg c15] at H
               exact absurd H (by simp)
           · rw [if_neg c14] at H
             have c14b0 : decide (x22_2 < (x5_1.length : Int)) = false := decide_eq_false c14
             clear c14
             have H' := Aside0.mk H
             clear H
             go_wp2
             go_roundg k2
             case measure => have := HK1.out; have := HK2.out; omega
             case rel => exact ⟨(x8_2), (wrap64 (x16_1 + 1)), (by first | rfl | (simp; done) | (simp [*]; done)), H', ⟨by have := HK1.out; have := HK2.out; omega⟩, ⟨by (with_reducible repeat (first | apply Kd.R_alloc | apply Kd.R_drewN | apply Kd.R_drew)); exact Kd.R_mono HO_8.out (fun _ hk => hk.1)⟩, ⟨by (with_reducible repeat (first | apply Kd.R_alloc | apply Kd.R_drewN | apply Kd.R_drew)); exact Kd.R_mono HO_14.out (fun _ hk => hk.1)⟩, ⟨zB HB⟩⟩
       · rw [if_neg c10] at H
         exact absurd H (by simp)
     · rw [if_neg c9] at H
       exact absurd H (by simp)
   · rw [if_neg c8] at H
     have c8b0 : decide (x16_1 < (t806.length : Int)) = false := decide_eq_false c8
     clear c8
     replace H := Option.bind_eq_some_iff.mp H
     obtain ⟨t809, A260, H⟩ := H
     try dsimp only at H
     have A26 := Aside0.mk A260
     clear A260
     obtain rfl := Option.some.inj H
     obtain ⟨Ao27, co27, eo27⟩ := Kd.R_slice HO_5.out
     subst eo27
     go_wp2_with (first | ((with_reducible refine gate_callee (f := 38) rfl ?_); refine goesL_ (some 35) rfl rfl Try.func38 (by kernel_rfl) rfl #[.slice Ao27 x5_1.length co27] rfl (by (try simp only [List.map_toArray, List.map_cons, List.map_nil]); first | done | rfl | (simp only [List.length_drop, List.length_take]; rfl)) ?_; (with_reducible refine (addrset_Normal.calls k1 _ _ x5_1 t809 _ ?side1 ?side2 A26.out).mono ?_); (case side1 => repeat (first | exact (Kd.R_reads' HO_5.out).2.2 | (with_reducible refine Kd.C_alloc ?_ _) | (with_reducible refine Kd.C_drewN ?_ _) | (with_reducible refine Kd.C_drew ?_))); (case side2 => exact (Kd.R_reads' HO_5.out).2.1); rintro e w28 ⟨v810, rfl, ho0, hb⟩; refine ⟨_, rfl, ?_⟩; have HO811 := Aside0.mk (Kd.R_lower (Kd.R_new' (Kd.R_new' ho0 (Kd.R_lt (zR HO_5))) (Kd.R_lt (zR HO_14))) (below_size (zB HB))); replace HO_5 := Aside0.mk (Kd.R_elder' (zR HO_5) (Kd.R_base ho0) hb); replace HO_14 := Aside0.mk (Kd.R_elder' (zR HO_14) (Kd.R_base ho0) hb); replace HB := Aside0.mk (below_step (zB HB) hb); (try clear hb); (try clear ho0)))
     go_ret
     exact ⟨_, by first | rfl | (simp [errW_none, errW_some] <;> rfl) | (simp [*, errW_none, errW_some] <;> rfl), by (with_reducible repeat (first | apply Kd.R_alloc | apply Kd.R_drewN | apply Kd.R_drew)); exact Kd.R_mono HO811.out (fun _ hk => trivial), by repeat (first | (with_reducible first | exact HB.out | apply below_alloc | apply pw_below_drewN | apply below_drew1) | exact HB.out)⟩
end Go.Proofs.Ytcgfpffgiimgmaa.Q
end

section
namespace Go.Proofs.Ytcgfpffgiimgmaa.Q
open Go.RowKit Go.Proofs.YtcgfpffgiimgmaaW.PrintWords Go.Proofs.YtcgfpffgiimgmaaW.PrintLast Go.Proofs.YtcgfpffgiimgmaaW.PrintMore
attribute [local go_sem] max2_int min2_int max_two min_two max_three min_three max_four min_four
set_option linter.unusedVariables false
set_option linter.unusedSimpArgs false
def addrset_Eval.f (k : Nat) (l0 : List (S45)) (l1 : List (S45)) : Option ((List (S66))) := (addrset_All.f).bind fun t822 => (if (l0.length : Int) > 0 then ((addrset_Of.f k l0).bind fun t825 => ((addrset_Of.f k l1).bind fun t828 => ((addrset_Minus.f k t825 t828).bind fun t831 => (some t831)))) else ((addrset_Of.f k l1).bind fun t834 => ((addrset_Minus.f k t822 t834).bind fun t837 => (some t837))))
theorem addrset_Eval.mono : ∀ a0 a1 k, LeO (addrset_Eval.f k a0 a1) (addrset_Eval.f (k + 1) a0 a1) := by
  intro a0 a1 k
  unfold addrset_Eval.f
  repeat' first
      | (with_reducible exact addrset_Minus.mono _ _ _)
      | (with_reducible exact addrset_Of.mono _ _)
      | (with_reducible exact LeO.refl _)
      | (with_reducible exact LeO.none _)
      | (with_reducible refine LeO.ite ?_ ?_)
      | (with_reducible refine LeO.bind ?_ (fun _ => ?_))
      | exact addrset_Minus.mono _ _ _
      | exact addrset_Of.mono _ _
      | exact LeO.none _
      | refine LeO.ite ?_ ?_
      | refine LeO.bind ?_ (fun _ => ?_)
set_option maxHeartbeats 8000000 in
set_option maxRecDepth 100000 in
theorem addrset_Eval.calls (k : Nat) (A0 : Option Addr) (c0 : Nat) (l0 : List (S45)) (A1 : Option Addr) (c1 : Nat) (l1 : List (S45)) (r : List (S66)) (w : World) (hr0 : Kd.C k45 w A0 l0.length l0) (hc0 : l0.length ≤ c0) (hr1 : Kd.C k45 w A1 l1.length l1) (hc1 : l1.length ≤ c1) (h : addrset_Eval.f k l0 l1 = some r) :
 Calls Try.prog 50 #[.slice A0 l0.length c0, .slice A1 l1.length c1] w fun e w' => ∃ v0_ : Value, e = .returned (v0_) ∧ Kd.R k66 66 w' w.heap.size (fun _ => True) v0_ r ∧ Below w.heap.size w w' := by
 have HR0 := Aside0.mk hr0
 have HC0 := Aside0.mk hc0
 clear hr0 hc0
 have HR1 := Aside0.mk hr1
 have HC1 := Aside0.mk hc1
 clear hr1 hc1
 have HB := Aside0.mk (Below.refl w.heap.size w)
 unfold addrset_Eval.f at h; have H := h
 clear h
 replace H := Option.bind_eq_some_iff.mp H
 obtain ⟨t822, A30, H⟩ := H
 try dsimp only at H
 have A3 := Aside0.mk A30
 clear A30
 by_cases c4 : (l0.length : Int) > 0
 · rw [if_pos c4] at H
   have c4b0 : decide (0 < (l0.length : Int)) = true := decide_eq_true c4
   have c4b1 : decide (0 < l0.length) = true := decide_eq_true (by omega)
   clear c4
   replace H := Option.bind_eq_some_iff.mp H
   obtain ⟨t825, A50, H⟩ := H
   try dsimp only at H
   have A5 := Aside0.mk A50
   clear A50
   replace H := Option.bind_eq_some_iff.mp H
   obtain ⟨t828, A60, H⟩ := H
   try dsimp only at H
   have A6 := Aside0.mk A60
   clear A60
   replace H := Option.bind_eq_some_iff.mp H
   obtain ⟨t831, A70, H⟩ := H
   try dsimp only at H
   have A7 := Aside0.mk A70
   clear A70
   obtain rfl := Option.some.inj H
   go_enter Try.func50, Try.ntmps50
   go_wp2_with (first | ((with_reducible refine gate_callee (f := 44) rfl ?_); refine goesL_ (some 6) rfl rfl Try.func44 (by kernel_rfl) rfl #[] rfl (by (try simp only [List.map_toArray, List.map_cons, List.map_nil]); first | done | rfl | (simp only [List.length_drop, List.length_take]; rfl)) ?_; (with_reducible refine (addrset_All.calls  t822 _ A3.out).mono ?_); rintro e w8 ⟨v823, rfl, ho0, hb⟩; refine ⟨_, rfl, ?_⟩; have HO824 := Aside0.mk (Kd.R_lower ho0 (below_size (zB HB))); replace HB := Aside0.mk (below_step (zB HB) hb); (try clear hb); (try clear ho0)) | ((with_reducible refine gate_callee (f := 48) rfl ?_); refine goesL_ (some 11) rfl rfl Try.func48 (by kernel_rfl) rfl #[.slice A0 l0.length c0] rfl (by (try simp only [List.map_toArray, List.map_cons, List.map_nil]); first | done | rfl | (simp only [List.length_drop, List.length_take]; rfl)) ?_; (with_reducible refine (addrset_Of.calls k _ _ l0 t825 _ ?side1 ?side2 A5.out).mono ?_); (case side1 => repeat (first | exact (Kd.C_below HR0.out HB.out) | (with_reducible refine Kd.C_alloc ?_ _) | (with_reducible refine Kd.C_drewN ?_ _) | (with_reducible refine Kd.C_drew ?_))); (case side2 => exact HC0.out); rintro e w9 ⟨v826, rfl, ho0, hb⟩; refine ⟨_, rfl, ?_⟩; have HO827 := Aside0.mk (Kd.R_lower (Kd.R_new' ho0 (Kd.R_lt (zR HO824))) (below_size (zB HB))); replace HO824 := Aside0.mk (Kd.R_elder' (zR HO824) (Kd.R_base ho0) hb); replace HB := Aside0.mk (below_step (zB HB) hb); (try clear hb); (try clear ho0)) | ((with_reducible refine gate_callee (f := 48) rfl ?_); refine goesL_ (some 14) rfl rfl Try.func48 (by kernel_rfl) rfl #[.slice A1 l1.length c1] rfl (by (try simp only [List.map_toArray, List.map_cons, List.map_nil]); first | done | rfl | (simp only [List.length_drop, List.length_take]; rfl)) ?_; (with_reducible refine (addrset_Of.calls k _ _ l1 t828 _ ?side1 ?side2 A6.out).mono ?_); (case side1 => repeat (first | exact (Kd.C_below HR1.out HB.out) | (with_reducible refine Kd.C_alloc ?_ _) | (with_reducible refine Kd.C_drewN ?_ _) | (with_reducible refine Kd.C_drew ?_))); (case side2 => exact HC1.out); rintro e w10 ⟨v829, rfl, ho0, hb⟩; refine ⟨_, rfl, ?_⟩; have HO830 := Aside0.mk (Kd.R_lower (Kd.R_new' (Kd.R_new' ho0 (Kd.R_lt (zR HO824))) (Kd.R_lt (zR HO827))) (below_size (zB HB))); replace HO824 := Aside0.mk (Kd.R_elder' (zR HO824) (Kd.R_base ho0) hb); replace HO827 := Aside0.mk (Kd.R_elder' (zR HO827) (Kd.R_base ho0) hb); replace HB := Aside0.mk (below_step (zB HB) hb); (try clear hb); (try clear ho0); obtain ⟨Ao11, co11, eo11⟩ := Kd.R_slice HO827.out; subst eo11; obtain ⟨Ao12, co12, eo12⟩ := Kd.R_slice HO830.out; subst eo12) | ((with_reducible refine gate_callee (f := 56) rfl ?_); refine goesL_ (some 15) rfl rfl Try.func56 (by kernel_rfl) rfl #[.slice Ao11 t825.length co11, .slice Ao12 t828.length co12] rfl (by (try simp only [List.map_toArray, List.map_cons, List.map_nil]); first | done | rfl | (simp only [List.length_drop, List.length_take]; rfl)) ?_; (with_reducible refine (addrset_Minus.calls k _ _ t825 _ _ t828 t831 _ ?side1 ?side2 ?side3 ?side4 A7.out).mono ?_); (case side1 => repeat (first | exact (Kd.R_reads' HO827.out).2.2 | (with_reducible refine Kd.C_alloc ?_ _) | (with_reducible refine Kd.C_drewN ?_ _) | (with_reducible refine Kd.C_drew ?_))); (case side2 => exact (Kd.R_reads' HO827.out).2.1); (case side3 => repeat (first | exact (Kd.R_reads' HO830.out).2.2 | (with_reducible refine Kd.C_alloc ?_ _) | (with_reducible refine Kd.C_drewN ?_ _) | (with_reducible refine Kd.C_drew ?_))); (case side4 => exact (Kd.R_reads' HO830.out).2.1); rintro e w13 ⟨v832, rfl, ho0, hb⟩; refine ⟨_, rfl, ?_⟩; have HO833 := Aside0.mk (Kd.R_lower (Kd.R_new' (Kd.R_new' (Kd.R_new' ho0 (Kd.R_lt (zR HO824))) (Kd.R_lt (zR HO827))) (Kd.R_lt (zR HO830))) (below_size (zB HB))); replace HO824 := Aside0.mk (Kd.R_elder' (zR HO824) (Kd.R_base ho0) hb); replace HO827 := Aside0.mk (Kd.R_elder' (zR HO827) (Kd.R_base ho0) hb); replace HO830 := Aside0.mk (Kd.R_elder' (zR HO830) (Kd.R_base ho0) hb); replace HB := Aside0.mk (below_step (zB HB) hb); (try clear hb); (try clear ho0)))
   go_ret
   exact ⟨_, by first | rfl | (simp [errW_none, errW_some] <;> rfl) | (simp [*, errW_none, errW_some] <;> rfl), by (with_reducible repeat (first | apply Kd.R_alloc | apply Kd.R_drewN | apply Kd.R_drew)); exact Kd.R_mono HO833.out (fun _ hk => trivial), by repeat (first | (with_reducible first | exact HB.out | apply below_alloc | apply pw_below_drewN | apply below_drew1) | exact HB.out)⟩
 · rw [if_neg c4] at H
   have c4b0 : decide (0 < (l0.length : Int)) = false := decide_eq_false c4
   have c4b1 : decide (0 < l0.length) = false := decide_eq_false (by omega)
   clear c4
   replace H := Option.bind_eq_some_iff.mp H
   obtain ⟨t834, A140, H⟩ := H
   try dsimp only at H
   have A14 := Aside0.mk A140
   clear A140
   replace H := Option.bind_eq_some_iff.mp H
   obtain ⟨t837, A150, H⟩ := H
   try dsimp only at H
   have A15 := Aside0.mk A150
   clear A150
   obtain rfl := Option.some.inj H
   go_enter Try.func50, Try.ntmps50
   go_wp2_with (first | ((with_reducible refine gate_callee (f := 44) rfl ?_); refine goesL_ (some 6) rfl rfl Try.func44 (by kernel_rfl) rfl #[] rfl (by (try simp only [List.map_toArray, List.map_cons, List.map_nil]); first | done | rfl | (simp only [List.length_drop, List.length_take]; rfl)) ?_; (with_reducible refine (addrset_All.calls  t822 _ A3.out).mono ?_); rintro e w16 ⟨v823, rfl, ho0, hb⟩; refine ⟨_, rfl, ?_⟩; have HO824 := Aside0.mk (Kd.R_lower ho0 (below_size (zB HB))); replace HB := Aside0.mk (below_step (zB HB) hb); (try clear hb); (try clear ho0)) | ((with_reducible refine gate_callee (f := 48) rfl ?_); refine goesL_ (some 14) rfl rfl Try.func48 (by kernel_rfl) rfl #[.slice A1 l1.length c1] rfl (by (try simp only [List.map_toArray, List.map_cons, List.map_nil]); first | done | rfl | (simp only [List.length_drop, List.length_take]; rfl)) ?_; (with_reducible refine (addrset_Of.calls k _ _ l1 t834 _ ?side1 ?side2 A14.out).mono ?_); (case side1 => repeat (first | exact (Kd.C_below HR1.out HB.out) | (with_reducible refine Kd.C_alloc ?_ _) | (with_reducible refine Kd.C_drewN ?_ _) | (with_reducible refine Kd.C_drew ?_))); (case side2 => exact HC1.out); rintro e w17 ⟨v835, rfl, ho0, hb⟩; refine ⟨_, rfl, ?_⟩; have HO836 := Aside0.mk (Kd.R_lower (Kd.R_new' ho0 (Kd.R_lt (zR HO824))) (below_size (zB HB))); replace HO824 := Aside0.mk (Kd.R_elder' (zR HO824) (Kd.R_base ho0) hb); replace HB := Aside0.mk (below_step (zB HB) hb); (try clear hb); (try clear ho0); obtain ⟨Ao18, co18, eo18⟩ := Kd.R_slice HO824.out; subst eo18; obtain ⟨Ao19, co19, eo19⟩ := Kd.R_slice HO836.out; subst eo19) | ((with_reducible refine gate_callee (f := 56) rfl ?_); refine goesL_ (some 15) rfl rfl Try.func56 (by kernel_rfl) rfl #[.slice Ao18 t822.length co18, .slice Ao19 t834.length co19] rfl (by (try simp only [List.map_toArray, List.map_cons, List.map_nil]); first | done | rfl | (simp only [List.length_drop, List.length_take]; rfl)) ?_; (with_reducible refine (addrset_Minus.calls k _ _ t822 _ _ t834 t837 _ ?side1 ?side2 ?side3 ?side4 A15.out).mono ?_); (case side1 => repeat (first | exact (Kd.R_reads' HO824.out).2.2 | (with_reducible refine Kd.C_alloc ?_ _) | (with_reducible refine Kd.C_drewN ?_ _) | (with_reducible refine Kd.C_drew ?_))); (case side2 => exact (Kd.R_reads' HO824.out).2.1); (case side3 => repeat (first | exact (Kd.R_reads' HO836.out).2.2 | (with_reducible refine Kd.C_alloc ?_ _) | (with_reducible refine Kd.C_drewN ?_ _) | (with_reducible refine Kd.C_drew ?_))); (case side4 => exact (Kd.R_reads' HO836.out).2.1); rintro e w20 ⟨v838, rfl, ho0, hb⟩; refine ⟨_, rfl, ?_⟩; have HO839 := Aside0.mk (Kd.R_lower (Kd.R_new' (Kd.R_new' ho0 (Kd.R_lt (zR HO824))) (Kd.R_lt (zR HO836))) (below_size (zB HB))); replace HO824 := Aside0.mk (Kd.R_elder' (zR HO824) (Kd.R_base ho0) hb); replace HO836 := Aside0.mk (Kd.R_elder' (zR HO836) (Kd.R_base ho0) hb); replace HB := Aside0.mk (below_step (zB HB) hb); (try clear hb); (try clear ho0)))
   go_ret
   exact ⟨_, by first | rfl | (simp [errW_none, errW_some] <;> rfl) | (simp [*, errW_none, errW_some] <;> rfl), by (with_reducible repeat (first | apply Kd.R_alloc | apply Kd.R_drewN | apply Kd.R_drew)); exact Kd.R_mono HO839.out (fun _ hk => trivial), by repeat (first | (with_reducible first | exact HB.out | apply below_alloc | apply pw_below_drewN | apply below_drew1) | exact HB.out)⟩
end Go.Proofs.Ytcgfpffgiimgmaa.Q
end

section
namespace Go.Proofs.Ytcgfpffgiimgmaa.Q
open Go.RowKit Go.Proofs.YtcgfpffgiimgmaaW.PrintWords Go.Proofs.YtcgfpffgiimgmaaW.PrintLast Go.Proofs.YtcgfpffgiimgmaaW.PrintMore
attribute [local go_sem] max2_int min2_int max_two min_two max_three min_three max_four min_four
set_option linter.unusedVariables false
set_option linter.unusedSimpArgs false
def intrusionref07_All.f  : Option ((List (S66))) := some (([(⟨(⟨false, 0, 0⟩ : S36), (⟨false, 0, 4294967295⟩ : S36)⟩ : S66), (⟨(⟨true, 0, 0⟩ : S36), (⟨true, 18446744073709551615, 18446744073709551615⟩ : S36)⟩ : S66)] : List (S66)))
set_option maxHeartbeats 8000000 in
set_option maxRecDepth 100000 in
theorem intrusionref07_All.calls  (r : List (S66)) (w : World) (h : intrusionref07_All.f  = some r) :
 Calls Try.prog 45 #[] w fun e w' => ∃ v0_ : Value, e = .returned (v0_) ∧ Kd.R k66 66 w' w.heap.size (fun _ => True) v0_ r ∧ Below w.heap.size w w' := by
 have hu36 := Try.underlying36
 have hu66 := Try.underlying66
 have HB := Aside0.mk (Below.refl w.heap.size w)
 unfold intrusionref07_All.f at h; have H := h
 clear h
 obtain ⟨y656, hy656⟩ : ∃ y_ : List (S66), y_ = (([(⟨(⟨false, 0, 0⟩ : S36), (⟨false, 0, 4294967295⟩ : S36)⟩ : S66), (⟨(⟨true, 0, 0⟩ : S36), (⟨true, 18446744073709551615, 18446744073709551615⟩ : S36)⟩ : S66)] : List (S66))) := ⟨_, rfl⟩
 rw [← hy656] at H; try dsimp only [Option.bind_some] at H
 have Ny656 := Aside0.mk hy656
 clear hy656
 obtain rfl := Option.some.inj H
 go_enter Try.func45, Try.ntmps45
 go_wp2_with (first | ((with_reducible refine gate_dst (N := 10) rfl ?_); refine Kd.R_lit k66 _ 66 ?hg (N := 10) ?hd (xs := ([(⟨(⟨false, 0, 0⟩ : S36), (⟨false, 0, 4294967295⟩ : S36)⟩ : S66), (⟨(⟨true, 0, 0⟩ : S36), (⟨true, 18446744073709551615, 18446744073709551615⟩ : S36)⟩ : S66)] : List (S66))) (inner := [.bool false, .int .u64 0, .int .u64 0, .bool false, .int .u64 0, .int .u64 4294967295, .bool true, .int .u64 0, .int .u64 0, .bool true, .int .u64 18446744073709551615, .int .u64 18446744073709551615]) (ok := fun _ => True) (okp := fun _ => True) ?hr ?hp (fun _ hk => hk) trivial (Below.refl _ _) (Nat.le_refl _) (by simp) ?_; (case hd => rfl); (case hg => rfl); (case hr => first | (go_simp; done) | (go_simp; rfl)); (case hp => exact (Reps.c6 (show Kd.M k66 _ _ _ (⟨(⟨false, 0, 0⟩ : S36), (⟨false, 0, 4294967295⟩ : S36)⟩ : S66) [.bool false, .int .u64 0, .int .u64 0, .bool false, .int .u64 0, .int .u64 4294967295] from (k66_mkM _ _ _ (⟨(⟨false, 0, 0⟩ : S36), (⟨false, 0, 4294967295⟩ : S36)⟩ : S66) )) (Reps.c6 (show Kd.M k66 _ _ _ (⟨(⟨true, 0, 0⟩ : S36), (⟨true, 18446744073709551615, 18446744073709551615⟩ : S36)⟩ : S66) [.bool true, .int .u64 0, .int .u64 0, .bool true, .int .u64 18446744073709551615, .int .u64 18446744073709551615] from (k66_mkM _ _ _ (⟨(⟨true, 0, 0⟩ : S36), (⟨true, 18446744073709551615, 18446744073709551615⟩ : S36)⟩ : S66) )) (Reps.none _ _)))); intro v657 w1 ho2 hb hg_ hnew_; clear hg_ hnew_; (first | rw [← Ny656.out] at ho2 | (simp only [Int.reduceToNat] at ho2; rw [← Ny656.out] at ho2)); have HO658 := Aside0.mk (Kd.R_lower ho2 (below_size (zB HB))); replace HB := Aside0.mk (below_step (zB HB) hb); clear hb ho2))
 go_ret
 exact ⟨_, by first | rfl | (simp [errW_none, errW_some] <;> rfl) | (simp [*, errW_none, errW_some] <;> rfl), by (with_reducible repeat (first | apply Kd.R_alloc | apply Kd.R_drewN | apply Kd.R_drew)); exact HO658.out, by repeat (first | (with_reducible first | exact HB.out | apply below_alloc | apply pw_below_drewN | apply below_drew1) | exact HB.out)⟩
end Go.Proofs.Ytcgfpffgiimgmaa.Q
end

section
namespace Go.Proofs.Ytcgfpffgiimgmaa.Q
open Go.RowKit Go.Proofs.YtcgfpffgiimgmaaW.PrintWords Go.Proofs.YtcgfpffgiimgmaaW.PrintLast Go.Proofs.YtcgfpffgiimgmaaW.PrintMore
attribute [local go_sem] max2_int min2_int max_two min_two max_three min_three max_four min_four
set_option linter.unusedVariables false
set_option linter.unusedSimpArgs false
def intrusionref07_Some.f (a0_0 : Bool) (a0_1 : Int) (a0_2 : Int) (a0_3 : Bool) (a0_4 : Int) (a0_5 : Int) : Option (Bool) := (intrusionref07_Fine.f a0_0 a0_1 a0_2).bind fun t600 => (if t600 = true then ((intrusionref07_Fine.f a0_3 a0_4 a0_5).bind fun t601 => (if t601 = true then (if (a0_0 == a0_3) = true then ((intrusionref07_Before.f a0_3 a0_4 a0_5 a0_0 a0_1 a0_2).bind fun t602 => (some (!t602))) else (some false)) else (some false))) else (some false))
set_option maxHeartbeats 8000000 in
set_option maxRecDepth 100000 in
theorem intrusionref07_Some.calls (a0_0 : Bool) (a0_1 : Int) (a0_2 : Int) (a0_3 : Bool) (a0_4 : Int) (a0_5 : Int) (r : Bool) (w : World) (h : intrusionref07_Some.f a0_0 a0_1 a0_2 a0_3 a0_4 a0_5 = some r) :
 Calls Try.prog 78 #[.agg #[.bool a0_0, .int .u64 a0_1, .int .u64 a0_2, .bool a0_3, .int .u64 a0_4, .int .u64 a0_5]] w fun e w' => e = .returned (.bool r) ∧ Below w.heap.size w w' := by
 have hu66 := Try.underlying66
 have hu36 := Try.underlying36
 have HB := Aside0.mk (Below.refl w.heap.size w)
 unfold intrusionref07_Some.f at h; have H := h
 clear h
 replace H := Option.bind_eq_some_iff.mp H
 obtain ⟨t600, A20, H⟩ := H
 try dsimp only at H
 have A2 := Aside0.mk A20
 clear A20
 by_cases c3 : t600 = true
 · subst c3
   rw [if_pos rfl] at H
   replace H := Option.bind_eq_some_iff.mp H
   obtain ⟨t601, A40, H⟩ := H
   try dsimp only at H
   have A4 := Aside0.mk A40
   clear A40
   by_cases c5 : t601 = true
   · subst c5
     rw [if_pos rfl] at H
     by_cases c6 : (a0_0 == a0_3) = true
     · rw [if_pos c6] at H
       have c6b0 : (a0_0 == a0_3) = true := c6
       (try (have c6b1 : decide (a0_0 = a0_3) = true := by first | (simpa using c6) | exact decide_eq_true (Decidable.not_not.1 (fun hn => c6 (bne_iff_ne.2 hn))) | exact beq_iff_eq.2 (Decidable.not_not.1 (fun hn => c6 (bne_iff_ne.2 hn))) | exact decide_eq_false (bne_iff_ne.1 c6) | exact beq_eq_false_iff_ne.2 (bne_iff_ne.1 c6) | exact bne_iff_ne.1 c6))
       (try (have c6b2 : (a0_0 == a0_3) = true := by first | (simpa using c6) | exact decide_eq_true (Decidable.not_not.1 (fun hn => c6 (bne_iff_ne.2 hn))) | exact beq_iff_eq.2 (Decidable.not_not.1 (fun hn => c6 (bne_iff_ne.2 hn))) | exact decide_eq_false (bne_iff_ne.1 c6) | exact beq_eq_false_iff_ne.2 (bne_iff_ne.1 c6) | exact bne_iff_ne.1 c6))
       clear c6
       replace H := Option.bind_eq_some_iff.mp H
       obtain ⟨t602, A70, H⟩ := H
       try dsimp only at H
       have A7 := Aside0.mk A70
       clear A70
       obtain rfl := Option.some.inj H
       go_enter Try.func78, Try.ntmps78
       go_wp2_with (first | ((with_reducible refine gate_dst (N := 1) rfl ?_); refine zx 1 #[.bool a0_0, .int .u64 a0_1, .int .u64 a0_2, .bool a0_3, .int .u64 a0_4, .int .u64 a0_5] 66 ?_; intro gb599 hg w8 hbox hb; have BK599 := Aside0.mk (hbox); have GW599 := Aside0.mk ((by rw [hg]; exact (below_size (zB HB)) : w.heap.size ≤ gb599)); have GE599 := Aside0.mk ((by rw [hg]; exact (below_size (zB HB)) : w.heap.size ≤ gb599)); replace HB := Aside0.mk (below_step (zB HB) hb); clear hb hbox hg; obtain ⟨hcz9_0, hcz9_1, hcz9_2, hcz9_3, hcz9_4, hcz9_5⟩ := zc6 BK599; obtain ⟨hfz9_0, hfz9_1, hfz9_2, hfz9_3, hfz9_4, hfz9_5⟩ := zf6 BK599) | ((with_reducible refine gate_callee (f := 85) rfl ?_); refine goesL_ (some 5) rfl rfl Try.func85 (by kernel_rfl) rfl #[.agg #[.bool a0_0, .int .u64 a0_1, .int .u64 a0_2]] rfl (by (try simp only [List.map_toArray, List.map_cons, List.map_nil]); first | done | rfl | (simp only [List.length_drop, List.length_take]; rfl)) ?_; (with_reducible refine (intrusionref07_Fine.calls a0_0 a0_1 a0_2 true _ A2.out).mono ?_); rintro e w10 ⟨rfl, hb⟩; refine ⟨_, rfl, ?_⟩; replace BK599 := Aside0.mk (blk_below (g := gb599) (o := .cells #[.bool a0_0, .int .u64 a0_1, .int .u64 a0_2, .bool a0_3, .int .u64 a0_4, .int .u64 a0_5] 66 (0, 0)) (zK BK599) hb); replace HB := Aside0.mk (below_step (zB HB) hb); (try clear hb); obtain ⟨hcz11_0, hcz11_1, hcz11_2, hcz11_3, hcz11_4, hcz11_5⟩ := zc6 BK599; obtain ⟨hfz11_0, hfz11_1, hfz11_2, hfz11_3, hfz11_4, hfz11_5⟩ := zf6 BK599) | (go_at_call 85; (with_reducible refine (intrusionref07_Fine.calls a0_3 a0_4 a0_5 true _ A4.out).mono ?_); rintro e w12 ⟨rfl, hb⟩; replace BK599 := Aside0.mk (blk_below (g := gb599) (o := .cells #[.bool a0_0, .int .u64 a0_1, .int .u64 a0_2, .bool a0_3, .int .u64 a0_4, .int .u64 a0_5] 66 (0, 0)) (zK BK599) hb); replace HB := Aside0.mk (below_step (zB HB) hb); (try clear hb); obtain ⟨hcz13_0, hcz13_1, hcz13_2, hcz13_3, hcz13_4, hcz13_5⟩ := zc6 BK599; obtain ⟨hfz13_0, hfz13_1, hfz13_2, hfz13_3, hfz13_4, hfz13_5⟩ := zf6 BK599) | (go_at_call 80; (with_reducible refine (intrusionref07_Before.calls a0_3 a0_4 a0_5 a0_0 a0_1 a0_2 t602 _ A7.out).mono ?_); rintro e w14 ⟨rfl, hb⟩; replace BK599 := Aside0.mk (blk_below (g := gb599) (o := .cells #[.bool a0_0, .int .u64 a0_1, .int .u64 a0_2, .bool a0_3, .int .u64 a0_4, .int .u64 a0_5] 66 (0, 0)) (zK BK599) hb); replace HB := Aside0.mk (below_step (zB HB) hb); (try clear hb)))
       go_ret
       exact ⟨by first | rfl | (simp [errW_none, errW_some] <;> rfl) | (simp [*, errW_none, errW_some] <;> rfl), by repeat (first | (with_reducible first | exact HB.out | apply below_alloc | apply pw_below_drewN | apply below_drew1 | refine below_set ?_ GE599.out) | exact HB.out)⟩
     · rw [if_neg c6] at H
       have c6b0 : (a0_0 == a0_3) = false := by simpa using c6
       (try (have c6b1 : decide (a0_0 = a0_3) = false := by first | (simpa using c6) | exact decide_eq_true (Decidable.not_not.1 (fun hn => c6 (bne_iff_ne.2 hn))) | exact beq_iff_eq.2 (Decidable.not_not.1 (fun hn => c6 (bne_iff_ne.2 hn))) | exact decide_eq_false (bne_iff_ne.1 c6) | exact beq_eq_false_iff_ne.2 (bne_iff_ne.1 c6) | exact bne_iff_ne.1 c6))
       (try (have c6b2 : (a0_0 == a0_3) = false := by first | (simpa using c6) | exact decide_eq_true (Decidable.not_not.1 (fun hn => c6 (bne_iff_ne.2 hn))) | exact beq_iff_eq.2 (Decidable.not_not.1 (fun hn => c6 (bne_iff_ne.2 hn))) | exact decide_eq_false (bne_iff_ne.1 c6) | exact beq_eq_false_iff_ne.2 (bne_iff_ne.1 c6) | exact bne_iff_ne.1 c6))
       (try (have c6b3 : ¬ (a0_0 = a0_3) := by first | (simpa using c6) | exact decide_eq_true (Decidable.not_not.1 (fun hn => c6 (bne_iff_ne.2 hn))) | exact beq_iff_eq.2 (Decidable.not_not.1 (fun hn => c6 (bne_iff_ne.2 hn))) | exact decide_eq_false (bne_iff_ne.1 c6) | exact beq_eq_false_iff_ne.2 (bne_iff_ne.1 c6) | exact bne_iff_ne.1 c6))
       clear c6
       obtain rfl := Option.some.inj H
       go_enter Try.func78, Try.ntmps78
       go_wp2_with (first | ((with_reducible refine gate_dst (N := 1) rfl ?_); refine zx 1 #[.bool a0_0, .int .u64 a0_1, .int .u64 a0_2, .bool a0_3, .int .u64 a0_4, .int .u64 a0_5] 66 ?_; intro gb599 hg w15 hbox hb; have BK599 := Aside0.mk (hbox); have GW599 := Aside0.mk ((by rw [hg]; exact (below_size (zB HB)) : w.heap.size ≤ gb599)); have GE599 := Aside0.mk ((by rw [hg]; exact (below_size (zB HB)) : w.heap.size ≤ gb599)); replace HB := Aside0.mk (below_step (zB HB) hb); clear hb hbox hg; obtain ⟨hcz16_0, hcz16_1, hcz16_2, hcz16_3, hcz16_4, hcz16_5⟩ := zc6 BK599; obtain ⟨hfz16_0, hfz16_1, hfz16_2, hfz16_3, hfz16_4, hfz16_5⟩ := zf6 BK599) | ((with_reducible refine gate_callee (f := 85) rfl ?_); refine goesL_ (some 5) rfl rfl Try.func85 (by kernel_rfl) rfl #[.agg #[.bool a0_0, .int .u64 a0_1, .int .u64 a0_2]] rfl (by (try simp only [List.map_toArray, List.map_cons, List.map_nil]); first | done | rfl | (simp only [List.length_drop, List.length_take]; rfl)) ?_; (with_reducible refine (intrusionref07_Fine.calls a0_0 a0_1 a0_2 true _ A2.out).mono ?_); rintro e w17 ⟨rfl, hb⟩; refine ⟨_, rfl, ?_⟩; replace BK599 := Aside0.mk (blk_below (g := gb599) (o := .cells #[.bool a0_0, .int .u64 a0_1, .int .u64 a0_2, .bool a0_3, .int .u64 a0_4, .int .u64 a0_5] 66 (0, 0)) (zK BK599) hb); replace HB := Aside0.mk (below_step (zB HB) hb); (try clear hb); obtain ⟨hcz18_0, hcz18_1, hcz18_2, hcz18_3, hcz18_4, hcz18_5⟩ := zc6 BK599; obtain ⟨hfz18_0, hfz18_1, hfz18_2, hfz18_3, hfz18_4, hfz18_5⟩ := zf6 BK599) | (go_at_call 85; (with_reducible refine (intrusionref07_Fine.calls a0_3 a0_4 a0_5 true _ A4.out).mono ?_); rintro e w19 ⟨rfl, hb⟩; replace BK599 := Aside0.mk (blk_below (g := gb599) (o := .cells #[.bool a0_0, .int .u64 a0_1, .int .u64 a0_2, .bool a0_3, .int .u64 a0_4, .int .u64 a0_5] 66 (0, 0)) (zK BK599) hb); replace HB := Aside0.mk (below_step (zB HB) hb); (try clear hb); obtain ⟨hcz20_0, hcz20_1, hcz20_2, hcz20_3, hcz20_4, hcz20_5⟩ := zc6 BK599; obtain ⟨hfz20_0, hfz20_1, hfz20_2, hfz20_3, hfz20_4, hfz20_5⟩ := zf6 BK599))
       go_ret
       exact ⟨by first | rfl | (simp [errW_none, errW_some] <;> rfl) | (simp [*, errW_none, errW_some] <;> rfl), by repeat (first | (with_reducible first | exact HB.out | apply below_alloc | apply pw_below_drewN | apply below_drew1 | refine below_set ?_ GE599.out) | exact HB.out)⟩
   · replace c5 := Bool.eq_false_iff.mpr c5
     subst c5
     rw [if_neg zF] at H
     obtain rfl := Option.some.inj H
     go_enter Try.func78, Try.ntmps78
     go_wp2_with (first | ((with_reducible refine gate_dst (N := 1) rfl ?_); refine zx 1 #[.bool a0_0, .int .u64 a0_1, .int .u64 a0_2, .bool a0_3, .int .u64 a0_4, .int .u64 a0_5] 66 ?_; intro gb599 hg w21 hbox hb; have BK599 := Aside0.mk (hbox); have GW599 := Aside0.mk ((by rw [hg]; exact (below_size (zB HB)) : w.heap.size ≤ gb599)); have GE599 := Aside0.mk ((by rw [hg]; exact (below_size (zB HB)) : w.heap.size ≤ gb599)); replace HB := Aside0.mk (below_step (zB HB) hb); clear hb hbox hg; obtain ⟨hcz22_0, hcz22_1, hcz22_2, hcz22_3, hcz22_4, hcz22_5⟩ := zc6 BK599; obtain ⟨hfz22_0, hfz22_1, hfz22_2, hfz22_3, hfz22_4, hfz22_5⟩ := zf6 BK599) | ((with_reducible refine gate_callee (f := 85) rfl ?_); refine goesL_ (some 5) rfl rfl Try.func85 (by kernel_rfl) rfl #[.agg #[.bool a0_0, .int .u64 a0_1, .int .u64 a0_2]] rfl (by (try simp only [List.map_toArray, List.map_cons, List.map_nil]); first | done | rfl | (simp only [List.length_drop, List.length_take]; rfl)) ?_; (with_reducible refine (intrusionref07_Fine.calls a0_0 a0_1 a0_2 true _ A2.out).mono ?_); rintro e w23 ⟨rfl, hb⟩; refine ⟨_, rfl, ?_⟩; replace BK599 := Aside0.mk (blk_below (g := gb599) (o := .cells #[.bool a0_0, .int .u64 a0_1, .int .u64 a0_2, .bool a0_3, .int .u64 a0_4, .int .u64 a0_5] 66 (0, 0)) (zK BK599) hb); replace HB := Aside0.mk (below_step (zB HB) hb); (try clear hb); obtain ⟨hcz24_0, hcz24_1, hcz24_2, hcz24_3, hcz24_4, hcz24_5⟩ := zc6 BK599; obtain ⟨hfz24_0, hfz24_1, hfz24_2, hfz24_3, hfz24_4, hfz24_5⟩ := zf6 BK599) | (go_at_call 85; (with_reducible refine (intrusionref07_Fine.calls a0_3 a0_4 a0_5 false _ A4.out).mono ?_); rintro e w25 ⟨rfl, hb⟩; replace BK599 := Aside0.mk (blk_below (g := gb599) (o := .cells #[.bool a0_0, .int .u64 a0_1, .int .u64 a0_2, .bool a0_3, .int .u64 a0_4, .int .u64 a0_5] 66 (0, 0)) (zK BK599) hb); replace HB := Aside0.mk (below_step (zB HB) hb); (try clear hb)))
     go_ret
     exact ⟨by first | rfl | (simp [errW_none, errW_some] <;> rfl) | (simp [*, errW_none, errW_some] <;> rfl), by repeat (first | (with_reducible first | exact HB.out | apply below_alloc | apply pw_below_drewN | apply below_drew1 | refine below_set ?_ GE599.out) | exact HB.out)⟩
 · replace c3 := Bool.eq_false_iff.mpr c3
   subst c3
   rw [if_neg zF] at H
   obtain rfl := Option.some.inj H
   go_enter Try.func78, Try.ntmps78
   go_wp2_with (first | ((with_reducible refine gate_dst (N := 1) rfl ?_); refine zx 1 #[.bool a0_0, .int .u64 a0_1, .int .u64 a0_2, .bool a0_3, .int .u64 a0_4, .int .u64 a0_5] 66 ?_; intro gb599 hg w26 hbox hb; have BK599 := Aside0.mk (hbox); have GW599 := Aside0.mk ((by rw [hg]; exact (below_size (zB HB)) : w.heap.size ≤ gb599)); have GE599 := Aside0.mk ((by rw [hg]; exact (below_size (zB HB)) : w.heap.size ≤ gb599)); replace HB := Aside0.mk (below_step (zB HB) hb); clear hb hbox hg; obtain ⟨hcz27_0, hcz27_1, hcz27_2, hcz27_3, hcz27_4, hcz27_5⟩ := zc6 BK599; obtain ⟨hfz27_0, hfz27_1, hfz27_2, hfz27_3, hfz27_4, hfz27_5⟩ := zf6 BK599) | ((with_reducible refine gate_callee (f := 85) rfl ?_); refine goesL_ (some 5) rfl rfl Try.func85 (by kernel_rfl) rfl #[.agg #[.bool a0_0, .int .u64 a0_1, .int .u64 a0_2]] rfl (by (try simp only [List.map_toArray, List.map_cons, List.map_nil]); first | done | rfl | (simp only [List.length_drop, List.length_take]; rfl)) ?_; (with_reducible refine (intrusionref07_Fine.calls a0_0 a0_1 a0_2 false _ A2.out).mono ?_); rintro e w28 ⟨rfl, hb⟩; refine ⟨_, rfl, ?_⟩; replace BK599 := Aside0.mk (blk_below (g := gb599) (o := .cells #[.bool a0_0, .int .u64 a0_1, .int .u64 a0_2, .bool a0_3, .int .u64 a0_4, .int .u64 a0_5] 66 (0, 0)) (zK BK599) hb); replace HB := Aside0.mk (below_step (zB HB) hb); (try clear hb)))
   go_ret
   exact ⟨by first | rfl | (simp [errW_none, errW_some] <;> rfl) | (simp [*, errW_none, errW_some] <;> rfl), by repeat (first | (with_reducible first | exact HB.out | apply below_alloc | apply pw_below_drewN | apply below_drew1 | refine below_set ?_ GE599.out) | exact HB.out)⟩
end Go.Proofs.Ytcgfpffgiimgmaa.Q
end
