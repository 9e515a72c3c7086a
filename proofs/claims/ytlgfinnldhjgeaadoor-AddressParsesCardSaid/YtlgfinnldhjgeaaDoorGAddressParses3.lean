/- The law AddressParses answers true for every input and leaves its arguments as they were. No condition. (Part 3 of 5: the kit's printed words and walks, hand-made contracts and plain laws, joined in build order, without what the theorem does not reach.) -/
import Derived.Shelf.SlSortCmp.InsertionK
import Derived.Lib.AppendIntMem
import Derived.Test.YtlgfinnldhjgeaaDoorGAddressParses2
section
namespace Go.Proofs.YtlgfinnldhjgeaaDoor.Q
open Go.RowKit Go.Proofs.YtlgfinnldhjgeaaDoorW.PrintWords Go.Proofs.YtlgfinnldhjgeaaDoorW.PrintLast Go.Proofs.YtlgfinnldhjgeaaDoorW.PrintMore
attribute [local go_sem] max2_int min2_int max_two min_two max_three min_three max_four min_four
set_option linter.unusedVariables false
set_option linter.unusedSimpArgs false
mutual
def intrusionref06_group.j0 : Nat → ByteArray → Bool → Option (Int)
  | 0, _, _ => none
  | k + 1, x0, x13 => if x13 = true then (some (-1)) else (intrusionref06_group.l0 k x0 0 0)
def intrusionref06_group.l0 : Nat → ByteArray → Int → Int → Option (Int)
  | 0, _, _, _ => none
  | k + 1, x0, x3, x4 => if x4 < (x0.size : Int) then (if 0 ≤ x4 then (if (bt x0 x4) ≥ 48 then (intrusionref06_group.j2 k x0 x3 x4 (-1) (decide ((bt x0 x4) ≤ 57))) else (intrusionref06_group.j2 k x0 x3 x4 (-1) false)) else (none)) else (some x3)
def intrusionref06_group.j2 : Nat → ByteArray → Int → Int → Int → Bool → Option (Int)
  | 0, _, _, _, _, _ => none
  | k + 1, x0, x3, x4, x5, x20 => if x20 = true then (if 0 ≤ x4 then (if x4 < (x0.size : Int) then (if (wrap64 ((wrap64 (bt x0 x4)) - 48)) < 0 then (some (-1)) else (intrusionref06_group.l0 k x0 (wrap64 ((wrap64 (16 * x3)) + (wrap64 ((wrap64 (bt x0 x4)) - 48)))) (wrap64 (x4 + 1)))) else (none)) else (none)) else (if 0 ≤ x4 then (if x4 < (x0.size : Int) then (if (bt x0 x4) ≥ 97 then (intrusionref06_group.j3 k x0 x3 x4 x5 (decide ((bt x0 x4) ≤ 102))) else (intrusionref06_group.j3 k x0 x3 x4 x5 false)) else (none)) else (none))
def intrusionref06_group.j3 : Nat → ByteArray → Int → Int → Int → Bool → Option (Int)
  | 0, _, _, _, _, _ => none
  | k + 1, x0, x3, x4, x5, x36 => if x36 = true then (if 0 ≤ x4 then (if x4 < (x0.size : Int) then (if (wrap64 ((wrap64 (bt x0 x4)) - 87)) < 0 then (some (-1)) else (intrusionref06_group.l0 k x0 (wrap64 ((wrap64 (16 * x3)) + (wrap64 ((wrap64 (bt x0 x4)) - 87)))) (wrap64 (x4 + 1)))) else (none)) else (none)) else (if 0 ≤ x4 then (if x4 < (x0.size : Int) then (if (bt x0 x4) ≥ 65 then (intrusionref06_group.j4 k x0 x3 x4 x5 (decide ((bt x0 x4) ≤ 70))) else (intrusionref06_group.j4 k x0 x3 x4 x5 false)) else (none)) else (none))
def intrusionref06_group.j4 : Nat → ByteArray → Int → Int → Int → Bool → Option (Int)
  | 0, _, _, _, _, _ => none
  | k + 1, x0, x3, x4, x5, x52 => if x52 = true then (if 0 ≤ x4 then (if x4 < (x0.size : Int) then (if (wrap64 ((wrap64 (bt x0 x4)) - 55)) < 0 then (some (-1)) else (intrusionref06_group.l0 k x0 (wrap64 ((wrap64 (16 * x3)) + (wrap64 ((wrap64 (bt x0 x4)) - 55)))) (wrap64 (x4 + 1)))) else (none)) else (none)) else (if x5 < 0 then (some (-1)) else (intrusionref06_group.l0 k x0 (wrap64 ((wrap64 (16 * x3)) + x5)) (wrap64 (x4 + 1))))
end
def intrusionref06_group.f (k : Nat) (a0 : ByteArray) : Option (Int) := if (a0.size : Int) < 1 then (intrusionref06_group.j0 k a0 true) else (intrusionref06_group.j0 k a0 (decide ((a0.size : Int) > 4)))
theorem intrusionref06_group.mono_l : ∀ k, (∀ y0 y1, LeO (intrusionref06_group.j0 k y0 y1) (intrusionref06_group.j0 (k + 1) y0 y1)) ∧ (∀ y0 y1 y2, LeO (intrusionref06_group.l0 k y0 y1 y2) (intrusionref06_group.l0 (k + 1) y0 y1 y2)) ∧ (∀ y0 y1 y2 y3 y4, LeO (intrusionref06_group.j2 k y0 y1 y2 y3 y4) (intrusionref06_group.j2 (k + 1) y0 y1 y2 y3 y4)) ∧ (∀ y0 y1 y2 y3 y4, LeO (intrusionref06_group.j3 k y0 y1 y2 y3 y4) (intrusionref06_group.j3 (k + 1) y0 y1 y2 y3 y4)) ∧ (∀ y0 y1 y2 y3 y4, LeO (intrusionref06_group.j4 k y0 y1 y2 y3 y4) (intrusionref06_group.j4 (k + 1) y0 y1 y2 y3 y4))
  | 0 => ⟨fun _ _ r h => by simp [intrusionref06_group.j0] at h, fun _ _ _ r h => by simp [intrusionref06_group.l0] at h, fun _ _ _ _ _ r h => by simp [intrusionref06_group.j2] at h, fun _ _ _ _ _ r h => by simp [intrusionref06_group.j3] at h, fun _ _ _ _ _ r h => by simp [intrusionref06_group.j4] at h⟩
  | k + 1 => by
    obtain ⟨ih0, ih1, ih2, ih3, ih4⟩ := intrusionref06_group.mono_l k
    refine ⟨?_, ?_, ?_, ?_, ?_⟩
    · intro y0 y1
      unfold intrusionref06_group.j0
      repeat' first
      | (with_reducible exact ih0 _ _)
      | (with_reducible exact ih1 _ _ _)
      | (with_reducible exact ih2 _ _ _ _ _)
      | (with_reducible exact ih3 _ _ _ _ _)
      | (with_reducible exact ih4 _ _ _ _ _)
      | (with_reducible exact LeO.refl _)
      | (with_reducible exact LeO.none _)
      | (with_reducible refine LeO.ite ?_ ?_)
      | (with_reducible refine LeO.bind ?_ (fun _ => ?_))
      | exact ih0 _ _
      | exact ih1 _ _ _
      | exact ih2 _ _ _ _ _
      | exact ih3 _ _ _ _ _
      | exact ih4 _ _ _ _ _
      | exact LeO.none _
      | refine LeO.ite ?_ ?_
      | refine LeO.bind ?_ (fun _ => ?_)
    · intro y0 y1 y2
      unfold intrusionref06_group.l0
      repeat' first
      | (with_reducible exact ih0 _ _)
      | (with_reducible exact ih1 _ _ _)
      | (with_reducible exact ih2 _ _ _ _ _)
      | (with_reducible exact ih3 _ _ _ _ _)
      | (with_reducible exact ih4 _ _ _ _ _)
      | (with_reducible exact LeO.refl _)
      | (with_reducible exact LeO.none _)
      | (with_reducible refine LeO.ite ?_ ?_)
      | (with_reducible refine LeO.bind ?_ (fun _ => ?_))
      | exact ih0 _ _
      | exact ih1 _ _ _
      | exact ih2 _ _ _ _ _
      | exact ih3 _ _ _ _ _
      | exact ih4 _ _ _ _ _
      | exact LeO.none _
      | refine LeO.ite ?_ ?_
      | refine LeO.bind ?_ (fun _ => ?_)
    · intro y0 y1 y2 y3 y4
      unfold intrusionref06_group.j2
      repeat' first
      | (with_reducible exact ih0 _ _)
      | (with_reducible exact ih1 _ _ _)
      | (with_reducible exact ih2 _ _ _ _ _)
      | (with_reducible exact ih3 _ _ _ _ _)
      | (with_reducible exact ih4 _ _ _ _ _)
      | (with_reducible exact LeO.refl _)
      | (with_reducible exact LeO.none _)
      | (with_reducible refine LeO.ite ?_ ?_)
      | (with_reducible refine LeO.bind ?_ (fun _ => ?_))
      | exact ih0 _ _
      | exact ih1 _ _ _
      | exact ih2 _ _ _ _ _
      | exact ih3 _ _ _ _ _
      | exact ih4 _ _ _ _ _
      | exact LeO.none _
      | refine LeO.ite ?_ ?_
      | refine LeO.bind ?_ (fun _ => ?_)
    · intro y0 y1 y2 y3 y4
      unfold intrusionref06_group.j3
      repeat' first
      | (with_reducible exact ih0 _ _)
      | (with_reducible exact ih1 _ _ _)
      | (with_reducible exact ih2 _ _ _ _ _)
      | (with_reducible exact ih3 _ _ _ _ _)
      | (with_reducible exact ih4 _ _ _ _ _)
      | (with_reducible exact LeO.refl _)
      | (with_reducible exact LeO.none _)
      | (with_reducible refine LeO.ite ?_ ?_)
      | (with_reducible refine LeO.bind ?_ (fun _ => ?_))
      | exact ih0 _ _
      | exact ih1 _ _ _
      | exact ih2 _ _ _ _ _
      | exact ih3 _ _ _ _ _
      | exact ih4 _ _ _ _ _
      | exact LeO.none _
      | refine LeO.ite ?_ ?_
      | refine LeO.bind ?_ (fun _ => ?_)
    · intro y0 y1 y2 y3 y4
      unfold intrusionref06_group.j4
      repeat' first
      | (with_reducible exact ih0 _ _)
      | (with_reducible exact ih1 _ _ _)
      | (with_reducible exact ih2 _ _ _ _ _)
      | (with_reducible exact ih3 _ _ _ _ _)
      | (with_reducible exact ih4 _ _ _ _ _)
      | (with_reducible exact LeO.refl _)
      | (with_reducible exact LeO.none _)
      | (with_reducible refine LeO.ite ?_ ?_)
      | (with_reducible refine LeO.bind ?_ (fun _ => ?_))
      | exact ih0 _ _
      | exact ih1 _ _ _
      | exact ih2 _ _ _ _ _
      | exact ih3 _ _ _ _ _
      | exact ih4 _ _ _ _ _
      | exact LeO.none _
      | refine LeO.ite ?_ ?_
      | refine LeO.bind ?_ (fun _ => ?_)
theorem intrusionref06_group.mono : ∀ a0 k, LeO (intrusionref06_group.f k a0) (intrusionref06_group.f (k + 1) a0) := by
  intro a0 k
  obtain ⟨ih0, ih1, ih2, ih3, ih4⟩ := intrusionref06_group.mono_l k
  unfold intrusionref06_group.f
  repeat' first
      | (with_reducible exact ih0 _ _)
      | (with_reducible exact ih1 _ _ _)
      | (with_reducible exact ih2 _ _ _ _ _)
      | (with_reducible exact ih3 _ _ _ _ _)
      | (with_reducible exact ih4 _ _ _ _ _)
      | (with_reducible exact LeO.refl _)
      | (with_reducible exact LeO.none _)
      | (with_reducible refine LeO.ite ?_ ?_)
      | (with_reducible refine LeO.bind ?_ (fun _ => ?_))
      | exact ih0 _ _
      | exact ih1 _ _ _
      | exact ih2 _ _ _ _ _
      | exact ih3 _ _ _ _ _
      | exact ih4 _ _ _ _ _
      | exact LeO.none _
      | refine LeO.ite ?_ ?_
      | refine LeO.bind ?_ (fun _ => ?_)
set_option maxHeartbeats 8000000 in
set_option maxRecDepth 100000 in
theorem intrusionref06_group.calls (k : Nat) (a0 : ByteArray) (r : Int) (w : World) (h : intrusionref06_group.f k a0 = some r) :
 Calls Tryd.prog 79 #[.string a0] w fun e w' => e = .returned (.int .i64 r) ∧ Drawn0 w w' := by
 unfold intrusionref06_group.f at h; have H := h
 clear h
 have HC2 := Aside0.mk H
 clear H
 go_enter Tryd.func79, Tryd.ntmps79
 go_upto_region 1 with (fail)
 go_cut [13] (fun v13 wc => ∃ (kq : Nat) (x13_1 : Bool), v13 = .bool x13_1 ∧ Aside0 (intrusionref06_group.j0 kq a0 x13_1 = some r) ∧ Aside0 (kq ≤ k) ∧ Drawn0 w wc)
 case first =>
  have H := HC2.out
  clear HC2
  by_cases c3 : (a0.size : Int) < 1
  · rw [if_pos c3] at H
    have c3b0 : decide ((a0.size : Int) < 1) = true := decide_eq_true c3
    have c3b1 : decide (a0.size < 1) = true := decide_eq_true (by omega)
    clear c3
    (first | rw [c3b0] | (simp only [i64_w, i32_w]; rw [c3b0]) | skip)
    have H' := Aside0.mk H
    clear H
    go_wp2
    go_meet
    case rel => exact ⟨_, (true), (by first | rfl | (simp; done) | (simp [*]; done)), H', ⟨by first | omega | exact Nat.le_refl _⟩, by repeat (first | exact Drawn0.refl _ | apply Drawn0.step)⟩
  · rw [if_neg c3] at H
    have c3b0 : decide ((a0.size : Int) < 1) = false := decide_eq_false c3
    have c3b1 : decide (a0.size < 1) = false := decide_eq_false (by omega)
    clear c3
    (first | rw [c3b0] | (simp only [i64_w, i32_w]; rw [c3b0]) | skip)
    have H' := Aside0.mk H
    clear H
    go_wp2
    go_meet
    case rel => exact ⟨_, (decide ((a0.size : Int) > 4)), (by first | rfl | (simp; done) | (simp [*]; done)), H', ⟨by first | omega | exact Nat.le_refl _⟩, by repeat (first | exact Drawn0.refl _ | apply Drawn0.step)⟩
 case rest =>
  clear HC2
  try clear p2
  try clear c3
  try clear c3b0
  try clear c3b1
  obtain ⟨kq, x13_1, rfl, HA, HJ1, ⟨mc1, rfl⟩⟩ := hcut
  cases kq with
  | zero => exact absurd HA.out (by simp [intrusionref06_group.j0])
  | succ kj1 =>
   have H := HA.out
   clear HA
   simp only [intrusionref06_group.j0] at H
   by_cases c4 : x13_1 = true
   · subst c4
     rw [if_pos rfl] at H
     obtain rfl := Option.some.inj H
     go_wp2
     go_ret
     exact ⟨by first | rfl | (simp; done) | (simp [*]; done), by repeat (first | exact Drawn0.refl _ | apply Drawn0.step)⟩
   · replace c4 := Bool.eq_false_iff.mpr c4
     subst c4
     rw [if_neg zF] at H
     have H' := Aside0.mk H
     clear H
     go_wp2
     go_loopg [3, 4] kj1 (fun kq v3 v4 w' => ∃ (x3_2 : Int) (x4_2 : Int), v3 = .int .i64 x3_2 ∧ v4 = .int .i64 x4_2 ∧ Aside0 (intrusionref06_group.l0 kq a0 x3_2 x4_2 = some r) ∧ Aside0 (kq ≤ kj1) ∧ Drawn0 w w')
     case atStart => exact ⟨(0), (0), (by first | rfl | (simp; done) | (simp [*]; done)), (by first | rfl | (simp; done) | (simp [*]; done)), H', ⟨Nat.le_refl _⟩, by repeat (first | exact Drawn0.refl _ | apply Drawn0.step)⟩
     case round =>
      clear H'
      try clear c1
      try clear p2
      try clear c3
      try clear c3b0
      try clear c3b1
      try clear c4
      try clear p2
      obtain ⟨x3_2, x4_2, rfl, rfl, HA, HK2, ⟨m2, rfl⟩⟩ := hrel
      cases gk with
      | zero => exact absurd HA.out (by simp [intrusionref06_group.l0])
      | succ k2 =>
       have H := HA.out
       clear HA
       simp only [intrusionref06_group.l0] at H
       by_cases c5 : x4_2 < (a0.size : Int)
       · rw [if_pos c5] at H
         have c5b0 : decide (x4_2 < (a0.size : Int)) = true := decide_eq_true c5
         clear c5
         have HC6 := Aside0.mk H
         clear H
         go_upto_region 8 with (fail)
         go_cut [20] (fun v20 wc => ∃ (kq : Nat) (x20_5 : Bool), v20 = .bool x20_5 ∧ Aside0 (intrusionref06_group.j2 kq a0 x3_2 x4_2 (-1) x20_5 = some r) ∧ Aside0 (kq ≤ k2) ∧ Drawn0 w wc)
         case first =>
          have H := HC6.out
          clear HC6
          by_cases c7 : 0 ≤ x4_2
          · rw [if_pos c7] at H
            have c7b0 : decide (0 ≤ x4_2) = true := decide_eq_true c7
            clear c7
            (first | rw [c7b0] | (simp only [i64_w, i32_w]; rw [c7b0]) | skip)
            by_cases c9 : (bt a0 x4_2) ≥ 48
            · rw [if_pos c9] at H
              have c9b0 : decide (48 ≤ (bt a0 x4_2)) = true := decide_eq_true c9
              clear c9
              have H' := Aside0.mk H
              clear H
              have p8 : 0 ≤ (x4_2 : Int) := za
              have q8 : x4_2 < (a0.size : Int) := za
              have hx8 := bt_at a0 x4_2
              replace p8 := eq_true p8
              replace q8 := eq_true q8
              have p10 : 0 ≤ (x4_2 : Int) := za
              have q10 : x4_2 < (a0.size : Int) := za
              have hx10 := bt_at a0 x4_2
              replace p10 := eq_true p10
              replace q10 := eq_true q10
              go_wp2
              go_meet
              case rel => exact ⟨_, (decide ((bt a0 x4_2) ≤ 57)), (by first | rfl | (simp; done) | (simp [*]; done)), H', ⟨by have := HJ1.out; have := HK2.out; first | omega | exact Nat.le_refl _⟩, by repeat (first | exact Drawn0.refl _ | apply Drawn0.step)⟩
            · rw [if_neg c9] at H
              have c9b0 : decide (48 ≤ (bt a0 x4_2)) = false := decide_eq_false c9
              clear c9
              have H' := Aside0.mk H
              clear H
              have p8 : 0 ≤ (x4_2 : Int) := za
              have q8 : x4_2 < (a0.size : Int) := za
              have hx8 := bt_at a0 x4_2
              replace p8 := eq_true p8
              replace q8 := eq_true q8
              go_wp2
              go_meet
              case rel => exact ⟨_, (false), (by first | rfl | (simp; done) | (simp [*]; done)), H', ⟨by have := HJ1.out; have := HK2.out; first | omega | exact Nat.le_refl _⟩, by repeat (first | exact Drawn0.refl _ | apply Drawn0.step)⟩
          · rw [if_neg c7] at H
            exact absurd H (by simp)
         case rest =>
          clear HC6
          try clear c1
          try clear p1
          try clear q1
          try clear hx1
          try clear p2
          try clear c3
          try clear c3b0
          try clear c3b1
          try clear c4
          try clear c5
          try clear c5b0
          try clear c7
          try clear c7b0
          try clear p8
          try clear q8
          try clear hx8
          try clear c9
          try clear c9b0
          try clear p10
          try clear q10
          try clear hx10
          try clear p10
          try clear p2
          try clear p8
          try clear q10
          try clear q8
          obtain ⟨kq, x20_5, rfl, HA, HJ5, ⟨mc5, rfl⟩⟩ := hcut
          cases kq with
          | zero => exact absurd HA.out (by simp [intrusionref06_group.j2])
          | succ kj5 =>
           have H := HA.out
           clear HA
           simp only [intrusionref06_group.j2] at H
           by_cases c11 : x20_5 = true
           · subst c11
             rw [if_pos rfl] at H
             by_cases c12 : 0 ≤ x4_2
             · rw [if_pos c12] at H
               have c12b0 : decide (0 ≤ x4_2) = true := decide_eq_true c12
               clear c12
               by_cases c13 : x4_2 < (a0.size : Int)
               · rw [if_pos c13] at H
                 have c13b0 : decide (x4_2 < (a0.size : Int)) = true := decide_eq_true c13
                 clear c13
                 by_cases c15 : (wrap64 ((wrap64 (bt a0 x4_2)) - 48)) < 0
                 · rw [if_pos c15] at H
                   have c15b0 : decide ((wrap64 ((wrap64 (bt a0 x4_2)) - 48)) < 0) = true := decide_eq_true c15
                   clear c15
                   obtain rfl := Option.some.inj H
                   have p14 : 0 ≤ (x4_2 : Int) := za
                   have q14 : x4_2 < (a0.size : Int) := za
                   have hx14 := bt_at a0 x4_2
                   replace p14 := eq_true p14
                   replace q14 := eq_true q14
                   go_wp2
                   go_ret
                   exact ⟨by first | rfl | (simp; done) | (simp [*]; done), by repeat (first | exact Drawn0.refl _ | apply Drawn0.step)⟩
                 · rw [if_neg c15] at H
                   have c15b0 : decide ((wrap64 ((wrap64 (bt a0 x4_2)) - 48)) < 0) = false := decide_eq_false c15
                   clear c15
                   have H' := Aside0.mk H
                   clear H
                   have p14 : 0 ≤ (x4_2 : Int) := za
                   have q14 : x4_2 < (a0.size : Int) := za
                   have hx14 := bt_at a0 x4_2
                   replace p14 := eq_true p14
                   replace q14 := eq_true q14
                   go_wp2
                   go_roundg kj5
                   case measure => have := HJ1.out; have := HK2.out; have := HJ5.out; omega
                   case rel => exact ⟨(wrap64 ((wrap64 (16 * x3_2)) + (wrap64 ((wrap64 (bt a0 x4_2)) - 48)))), (wrap64 (x4_2 + 1)), (by first | rfl | (simp; done) | (simp [*]; done)), (by first | rfl | (simp; done) | (simp [*]; done)), H', ⟨by have := HJ1.out; have := HK2.out; have := HJ5.out; omega⟩, by repeat (first | exact Drawn0.refl _ | apply Drawn0.step)⟩
               · rw [if_neg c13] at H
                 exact absurd H (by simp)
             · rw [if_neg c12] at H
               exact absurd H (by simp)
           · replace c11 := Bool.eq_false_iff.mpr c11
             subst c11
             rw [if_neg zF] at H
             have HC16 := Aside0.mk H
             clear H
             go_upto_region 10 with (fail)
             go_cut [36] (fun v36 wc => ∃ (kq : Nat) (x36_15 : Bool), v36 = .bool x36_15 ∧ Aside0 (intrusionref06_group.j3 kq a0 x3_2 x4_2 (-1) x36_15 = some r) ∧ Aside0 (kq ≤ kj5) ∧ Drawn0 w wc)
             case first =>
              have H := HC16.out
              clear HC16
              by_cases c17 : 0 ≤ x4_2
              · rw [if_pos c17] at H
                have c17b0 : decide (0 ≤ x4_2) = true := decide_eq_true c17
                clear c17
                (first | rw [c17b0] | (simp only [i64_w, i32_w]; rw [c17b0]) | skip)
                by_cases c18 : x4_2 < (a0.size : Int)
                · rw [if_pos c18] at H
                  have c18b0 : decide (x4_2 < (a0.size : Int)) = true := decide_eq_true c18
                  clear c18
                  by_cases c20 : (bt a0 x4_2) ≥ 97
                  · rw [if_pos c20] at H
                    have c20b0 : decide (97 ≤ (bt a0 x4_2)) = true := decide_eq_true c20
                    clear c20
                    have H' := Aside0.mk H
                    clear H
                    have p19 : 0 ≤ (x4_2 : Int) := za
                    have q19 : x4_2 < (a0.size : Int) := za
                    have hx19 := bt_at a0 x4_2
                    replace p19 := eq_true p19
                    replace q19 := eq_true q19
                    have p21 : 0 ≤ (x4_2 : Int) := za
                    have q21 : x4_2 < (a0.size : Int) := za
                    have hx21 := bt_at a0 x4_2
                    replace p21 := eq_true p21
                    replace q21 := eq_true q21
                    go_wp2
                    go_meet
                    case rel => exact ⟨_, (decide ((bt a0 x4_2) ≤ 102)), (by first | rfl | (simp; done) | (simp [*]; done)), H', ⟨by have := HJ1.out; have := HK2.out; have := HJ5.out; first | omega | exact Nat.le_refl _⟩, by repeat (first | exact Drawn0.refl _ | apply Drawn0.step)⟩
                  · rw [if_neg c20] at H
                    have c20b0 : decide (97 ≤ (bt a0 x4_2)) = false := decide_eq_false c20
                    clear c20
                    have H' := Aside0.mk H
                    clear H
                    have p19 : 0 ≤ (x4_2 : Int) := za
                    have q19 : x4_2 < (a0.size : Int) := za
                    have hx19 := bt_at a0 x4_2
                    replace p19 := eq_true p19
                    replace q19 := eq_true q19
                    go_wp2
                    go_meet
                    case rel => exact ⟨_, (false), (by first | rfl | (simp; done) | (simp [*]; done)), H', ⟨by have := HJ1.out; have := HK2.out; have := HJ5.out; first | omega | exact Nat.le_refl _⟩, by repeat (first | exact Drawn0.refl _ | apply Drawn0.step)⟩
                · rw [if_neg c18] at H
                  exact absurd H (by simp)
              · rw [if_neg c17] at H
                exact absurd H (by simp)
             case rest =>
              clear HC16
              try clear c1
              try clear p1
              try clear q1
              try clear hx1
              try clear c2
              try clear p2
              try clear q2
              try clear hx2
              try clear c3
              try clear c3b0
              try clear c3b1
              try clear c4
              try clear c5
              try clear c5b0
              try clear p6
              try clear c7
              try clear c7b0
              try clear p8
              try clear q8
              try clear hx8
              try clear c9
              try clear c9b0
              try clear p10
              try clear q10
              try clear hx10
              try clear c11
              try clear c12
              try clear c12b0
              try clear c13
              try clear c13b0
              try clear p14
              try clear q14
              try clear hx14
              try clear c15
              try clear c15b0
              try clear c17
              try clear c17b0
              try clear c18
              try clear c18b0
              try clear p19
              try clear q19
              try clear hx19
              try clear c20
              try clear c20b0
              try clear p21
              try clear q21
              try clear hx21
              try clear p1
              try clear p10
              try clear p14
              try clear p19
              try clear p2
              try clear p21
              try clear p8
              try clear q1
              try clear q10
              try clear q14
              try clear q19
              try clear q21
              try clear q8
              obtain ⟨kq, x36_15, rfl, HA, HJ15, ⟨mc15, rfl⟩⟩ := hcut
              cases kq with
              | zero => exact absurd HA.out (by simp [intrusionref06_group.j3])
              | succ kj15 =>
               have H := HA.out
               clear HA
               simp only [intrusionref06_group.j3] at H
               by_cases c22 : x36_15 = true
               · subst c22
                 rw [if_pos rfl] at H
                 by_cases c23 : 0 ≤ x4_2
                 · rw [if_pos c23] at H
                   have c23b0 : decide (0 ≤ x4_2) = true := decide_eq_true c23
                   clear c23
                   by_cases c24 : x4_2 < (a0.size : Int)
                   · rw [if_pos c24] at H
                     have c24b0 : decide (x4_2 < (a0.size : Int)) = true := decide_eq_true c24
                     clear c24
                     by_cases c26 : (wrap64 ((wrap64 (bt a0 x4_2)) - 87)) < 0
                     · rw [if_pos c26] at H
                       have c26b0 : decide ((wrap64 ((wrap64 (bt a0 x4_2)) - 87)) < 0) = true := decide_eq_true c26
                       clear c26
                       obtain rfl := Option.some.inj H
                       have p25 : 0 ≤ (x4_2 : Int) := za
                       have q25 : x4_2 < (a0.size : Int) := za
                       have hx25 := bt_at a0 x4_2
                       replace p25 := eq_true p25
                       replace q25 := eq_true q25
                       go_wp2
                       go_ret
                       exact ⟨by first | rfl | (simp; done) | (simp [*]; done), by repeat (first | exact Drawn0.refl _ | apply Drawn0.step)⟩
                     · rw [if_neg c26] at H
                       have c26b0 : decide ((wrap64 ((wrap64 (bt a0 x4_2)) - 87)) < 0) = false := decide_eq_false c26
                       clear c26
                       have H' := Aside0.mk H
                       clear H
                       have p25 : 0 ≤ (x4_2 : Int) := za
                       have q25 : x4_2 < (a0.size : Int) := za
                       have hx25 := bt_at a0 x4_2
                       replace p25 := eq_true p25
                       replace q25 := eq_true q25
                       go_wp2
                       go_roundg kj15
                       case measure => have := HJ1.out; have := HK2.out; have := HJ5.out; have := HJ15.out; omega
                       case rel => exact ⟨(wrap64 ((wrap64 (16 * x3_2)) + (wrap64 ((wrap64 (bt a0 x4_2)) - 87)))), (wrap64 (x4_2 + 1)), (by first | rfl | (simp; done) | (simp [*]; done)), (by first | rfl | (simp; done) | (simp [*]; done)), H', ⟨by have := HJ1.out; have := HK2.out; have := HJ5.out; have := HJ15.out; omega⟩, by repeat (first | exact Drawn0.refl _ | apply Drawn0.step)⟩
                   · rw [if_neg c24] at H
                     exact absurd H (by simp)
                 · rw [if_neg c23] at H
                   exact absurd H (by simp)
               · replace c22 := Bool.eq_false_iff.mpr c22
                 subst c22
                 rw [if_neg zF] at H
                 have HC27 := Aside0.mk H
                 clear H
                 go_upto_region 12 with (fail)
                 go_cut [52] (fun v52 wc => ∃ (kq : Nat) (x52_26 : Bool), v52 = .bool x52_26 ∧ Aside0 (intrusionref06_group.j4 kq a0 x3_2 x4_2 (-1) x52_26 = some r) ∧ Aside0 (kq ≤ kj15) ∧ Drawn0 w wc)
                 case first =>
                  have H := HC27.out
                  clear HC27
                  by_cases c28 : 0 ≤ x4_2
                  · rw [if_pos c28] at H
                    have c28b0 : decide (0 ≤ x4_2) = true := decide_eq_true c28
                    clear c28
                    (first | rw [c28b0] | (simp only [i64_w, i32_w]; rw [c28b0]) | skip)
                    by_cases c29 : x4_2 < (a0.size : Int)
                    · rw [if_pos c29] at H
                      have c29b0 : decide (x4_2 < (a0.size : Int)) = true := decide_eq_true c29
                      clear c29
                      by_cases c31 : (bt a0 x4_2) ≥ 65
                      · rw [if_pos c31] at H
                        have c31b0 : decide (65 ≤ (bt a0 x4_2)) = true := decide_eq_true c31
                        clear c31
                        have H' := Aside0.mk H
                        clear H
                        have p30 : 0 ≤ (x4_2 : Int) := za
                        have q30 : x4_2 < (a0.size : Int) := za
                        have hx30 := bt_at a0 x4_2
                        replace p30 := eq_true p30
                        replace q30 := eq_true q30
                        have p32 : 0 ≤ (x4_2 : Int) := za
                        have q32 : x4_2 < (a0.size : Int) := za
                        have hx32 := bt_at a0 x4_2
                        replace p32 := eq_true p32
                        replace q32 := eq_true q32
                        go_wp2
                        go_meet
                        case rel => exact ⟨_, (decide ((bt a0 x4_2) ≤ 70)), (by first | rfl | (simp; done) | (simp [*]; done)), H', ⟨by have := HJ1.out; have := HK2.out; have := HJ5.out; have := HJ15.out; first | omega | exact Nat.le_refl _⟩, by repeat (first | exact Drawn0.refl _ | apply Drawn0.step)⟩
                      · rw [if_neg c31] at H
                        have c31b0 : decide (65 ≤ (bt a0 x4_2)) = false := decide_eq_false c31
                        clear c31
                        have H' := Aside0.mk H
                        clear H
                        have p30 : 0 ≤ (x4_2 : Int) := za
                        have q30 : x4_2 < (a0.size : Int) := za
                        have hx30 := bt_at a0 x4_2
                        replace p30 := eq_true p30
                        replace q30 := eq_true q30
                        go_wp2
                        go_meet
                        case rel => exact ⟨_, (false), (by first | rfl | (simp; done) | (simp [*]; done)), H', ⟨by have := HJ1.out; have := HK2.out; have := HJ5.out; have := HJ15.out; first | omega | exact Nat.le_refl _⟩, by repeat (first | exact Drawn0.refl _ | apply Drawn0.step)⟩
                    · rw [if_neg c29] at H
                      exact absurd H (by simp)
                  · rw [if_neg c28] at H
                    exact absurd H (by simp)
                 case rest =>
                  clear HC27
                  try clear c1
                  try clear p1
                  try clear q1
                  try clear hx1
                  try clear c2
                  try clear p2
                  try clear q2
                  try clear hx2
                  try clear c3
                  try clear c3b0
                  try clear c3b1
                  try clear p3
                  try clear q3
                  try clear hx3
                  try clear c4
                  try clear c5
                  try clear c5b0
                  try clear p6
                  try clear c7
                  try clear c7b0
                  try clear p8
                  try clear q8
                  try clear hx8
                  try clear c9
                  try clear c9b0
                  try clear p10
                  try clear q10
                  try clear hx10
                  try clear c11
                  try clear c12
                  try clear c12b0
                  try clear c13
                  try clear c13b0
                  try clear p14
                  try clear q14
                  try clear hx14
                  try clear c15
                  try clear c15b0
                  try clear c17
                  try clear c17b0
                  try clear c18
                  try clear c18b0
                  try clear p19
                  try clear q19
                  try clear hx19
                  try clear c20
                  try clear c20b0
                  try clear p21
                  try clear q21
                  try clear hx21
                  try clear c22
                  try clear c23
                  try clear c23b0
                  try clear c24
                  try clear c24b0
                  try clear p25
                  try clear q25
                  try clear hx25
                  try clear c26
                  try clear c26b0
                  try clear c28
                  try clear c28b0
                  try clear c29
                  try clear c29b0
                  try clear p30
                  try clear q30
                  try clear hx30
                  try clear c31
                  try clear c31b0
                  try clear p32
                  try clear q32
                  try clear hx32
                  try clear p1
                  try clear p10
                  try clear p14
                  try clear p19
                  try clear p2
                  try clear p21
                  try clear p25
                  try clear p30
                  try clear p32
                  try clear p6
                  try clear p8
                  try clear q1
                  try clear q10
                  try clear q14
                  try clear q19
                  try clear q2
                  try clear q21
                  try clear q25
                  try clear q30
                  try clear q32
                  try clear q8
                  obtain ⟨kq, x52_26, rfl, HA, HJ26, ⟨mc26, rfl⟩⟩ := hcut
                  cases kq with
                  | zero => exact absurd HA.out (by simp [intrusionref06_group.j4])
                  | succ kj26 =>
                   have H := HA.out
                   clear HA
                   simp only [intrusionref06_group.j4] at H
                   by_cases c33 : x52_26 = true
                   · subst c33
                     rw [if_pos rfl] at H
                     by_cases c34 : 0 ≤ x4_2
                     · rw [if_pos c34] at H
                       have c34b0 : decide (0 ≤ x4_2) = true := decide_eq_true c34
                       clear c34
                       by_cases c35 : x4_2 < (a0.size : Int)
                       · rw [if_pos c35] at H
                         have c35b0 : decide (x4_2 < (a0.size : Int)) = true := decide_eq_true c35
                         clear c35
                         by_cases c37 : (wrap64 ((wrap64 (bt a0 x4_2)) - 55)) < 0
                         · rw [if_pos c37] at H
                           have c37b0 : decide ((wrap64 ((wrap64 (bt a0 x4_2)) - 55)) < 0) = true := decide_eq_true c37
                           clear c37
                           obtain rfl := Option.some.inj H
                           have p36 : 0 ≤ (x4_2 : Int) := za
                           have q36 : x4_2 < (a0.size : Int) := za
                           have hx36 := bt_at a0 x4_2
                           replace p36 := eq_true p36
                           replace q36 := eq_true q36
                           go_wp2
                           go_ret
                           exact ⟨by first | rfl | (simp; done) | (simp [*]; done), by repeat (first | exact Drawn0.refl _ | apply Drawn0.step)⟩
                         · rw [if_neg c37] at H
                           have c37b0 : decide ((wrap64 ((wrap64 (bt a0 x4_2)) - 55)) < 0) = false := decide_eq_false c37
                           clear c37
                           have H' := Aside0.mk H
                           clear H
                           have p36 : 0 ≤ (x4_2 : Int) := za
                           have q36 : x4_2 < (a0.size : Int) := za
                           have hx36 := bt_at a0 x4_2
                           replace p36 := eq_true p36
                           replace q36 := eq_true q36
                           go_wp2
                           go_roundg kj26
                           case measure => have := HJ1.out; have := HK2.out; have := HJ5.out; have := HJ15.out; have := HJ26.out; omega
                           case rel => exact ⟨(wrap64 ((wrap64 (16 * x3_2)) + (wrap64 ((wrap64 (bt a0 x4_2)) - 55)))), (wrap64 (x4_2 + 1)), (by first | rfl | (simp; done) | (simp [*]; done)), (by first | rfl | (simp; done) | (simp [*]; done)), H', ⟨by have := HJ1.out; have := HK2.out; have := HJ5.out; have := HJ15.out; have := HJ26.out; omega⟩, by repeat (first | exact Drawn0.refl _ | apply Drawn0.step)⟩
                       · rw [if_neg c35] at H
                         exact absurd H (by simp)
                     · rw [if_neg c34] at H
                       exact absurd H (by simp)
                   · replace c33 := Bool.eq_false_iff.mpr c33
                     subst c33
                     rw [if_neg zF] at H
                     by_cases c38 : (-1) < 0
                     · rw [if_pos c38] at H
                       have c38b0 : decide ((-1) < 0) = true := decide_eq_true c38
                       clear c38
                       obtain rfl := Option.some.inj H
                       go_wp2
                       go_ret
                       exact ⟨by first | rfl | (simp; done) | (simp [*]; done), by repeat (first | exact Drawn0.refl _ | apply Drawn0.step)⟩
                     · exact absurd (by decide) c38
       · rw [if_neg c5] at H
         have c5b0 : decide (x4_2 < (a0.size : Int)) = false := decide_eq_false c5
         clear c5
         obtain rfl := Option.some.inj H
         go_wp2
         go_ret
         exact ⟨by first | rfl | (simp; done) | (simp [*]; done), by repeat (first | exact Drawn0.refl _ | apply Drawn0.step)⟩
end Go.Proofs.YtlgfinnldhjgeaaDoor.Q
end

section
namespace Go.Proofs.YtlgfinnldhjgeaaDoor.Q
open Go.RowKit Go.Proofs.YtlgfinnldhjgeaaDoorW.PrintWords Go.Proofs.YtlgfinnldhjgeaaDoorW.PrintLast Go.Proofs.YtlgfinnldhjgeaaDoorW.PrintMore
attribute [local go_sem] max2_int min2_int max_two min_two max_three min_three max_four min_four
set_option linter.unusedVariables false
set_option linter.unusedSimpArgs false
def intrusionref06_groups.l0 : Nat → List Int → List ByteArray → Int → Option (List Int × Bool)
  | 0, _, _, _ => none
  | k + 1, x4, x5, x6 => if x6 < (x5.length : Int) then (if 0 ≤ x6 then ((intrusionref06_group.f k (rdOf ByteArray.empty x5 x6)).bind fun t203 => (if t203 < 0 then (some (([] : List Int), false)) else (if x4.length < 17592186044416 then (intrusionref06_groups.l0 k (x4 ++ [t203]) x5 (wrap64 (x6 + 1))) else (none)))) else (none)) else (some (x4, true))
def intrusionref06_groups.f (k : Nat) (a0 : ByteArray) : Option (List Int × Bool) := if a0.toList = ([] : List UInt8) then (some (([] : List Int), true)) else ((intrusionref06_Split.f k a0 58).bind fun t199 => (intrusionref06_groups.l0 k ([] : List Int) t199 0))
theorem intrusionref06_groups.mono_l : ∀ k, (∀ y0 y1 y2, LeO (intrusionref06_groups.l0 k y0 y1 y2) (intrusionref06_groups.l0 (k + 1) y0 y1 y2))
  | 0 => fun _ _ _ r h => by simp [intrusionref06_groups.l0] at h
  | k + 1 => by
    have ih0 := intrusionref06_groups.mono_l k
    · intro y0 y1 y2
      unfold intrusionref06_groups.l0
      repeat' first
      | (with_reducible exact ih0 _ _ _)
      | (with_reducible exact intrusionref06_Split.mono _ _ _)
      | (with_reducible exact intrusionref06_group.mono _ _)
      | (with_reducible exact LeO.refl _)
      | (with_reducible exact LeO.none _)
      | (with_reducible refine LeO.ite ?_ ?_)
      | (with_reducible refine LeO.bind ?_ (fun _ => ?_))
      | exact ih0 _ _ _
      | exact intrusionref06_Split.mono _ _ _
      | exact intrusionref06_group.mono _ _
      | exact LeO.none _
      | refine LeO.ite ?_ ?_
      | refine LeO.bind ?_ (fun _ => ?_)
theorem intrusionref06_groups.mono : ∀ a0 k, LeO (intrusionref06_groups.f k a0) (intrusionref06_groups.f (k + 1) a0) := by
  intro a0 k
  have ih0 := intrusionref06_groups.mono_l k
  unfold intrusionref06_groups.f
  repeat' first
      | (with_reducible exact ih0 _ _ _)
      | (with_reducible exact intrusionref06_Split.mono _ _ _)
      | (with_reducible exact intrusionref06_group.mono _ _)
      | (with_reducible exact LeO.refl _)
      | (with_reducible exact LeO.none _)
      | (with_reducible refine LeO.ite ?_ ?_)
      | (with_reducible refine LeO.bind ?_ (fun _ => ?_))
      | exact ih0 _ _ _
      | exact intrusionref06_Split.mono _ _ _
      | exact intrusionref06_group.mono _ _
      | exact LeO.none _
      | refine LeO.ite ?_ ?_
      | refine LeO.bind ?_ (fun _ => ?_)
set_option maxHeartbeats 8000000 in
set_option maxRecDepth 100000 in
theorem intrusionref06_groups.calls (k : Nat) (a0 : ByteArray) (r1 : List Int) (r2 : Bool) (w : World) (h : intrusionref06_groups.f k a0 = some (r1, r2)) :
 Calls Tryd.prog 67 #[.string a0] w fun e w' => ∃ v0_ : Value, e = .returned (.tuple #[v0_, .bool r2]) ∧ Kd.R (Kd.int .i64) 3 w' w.heap.size (fun _ => True) v0_ r1 ∧ Below w.heap.size w w' := by
 have HB := Aside0.mk (Below.refl w.heap.size w)
 unfold intrusionref06_groups.f at h; have H := h
 clear h
 by_cases c2 : a0.toList = ([] : List UInt8)
 · rw [if_pos c2] at H
   have c2b0 : (a0.toList == ([] : List UInt8)) = true := beq_iff_eq.mpr c2
   have c2b1 : (a0.toList != ([] : List UInt8)) = false := bne_eq_false_iff_eq.mpr c2
   clear c2
   simp only [Option.some.injEq, Prod.mk.injEq] at H
   obtain ⟨rfl, rfl⟩ := H
   go_enter Tryd.func67, Tryd.ntmps67
   go_wp2
   go_ret2
   exact ⟨_, by first | rfl | (simp [errW_none, errW_some] <;> rfl) | (simp [*, errW_none, errW_some] <;> rfl), by first | exact Kd.R_nil _ _ _ _ _ | exact Kd.N_nil _ _ _ _ _ | exact Kd.V_nil _ _ _ _ _ | exact Kd.Q_nil _ _ _ _ _ | exact Kd.S_nil _ _ _ _ _, by repeat (first | (with_reducible first | exact HB.out | apply below_alloc | apply pw_below_drewN | apply below_drew1) | exact HB.out)⟩
 · rw [if_neg c2] at H
   have c2b0 : (a0.toList == ([] : List UInt8)) = false := beq_eq_false_iff_ne.mpr c2
   have c2b1 : (a0.toList != ([] : List UInt8)) = true := bne_iff_ne.mpr c2
   replace H := Option.bind_eq_some_iff.mp H
   obtain ⟨t199, A30, H⟩ := H
   replace H : (intrusionref06_groups.l0 k ([] : List Int) t199 0) = some (r1, r2) := H
   have A3 := Aside0.mk A30
   clear A30
   have H' := Aside0.mk H
   clear H
   go_enter Tryd.func67, Tryd.ntmps67
   go_wp2_with (first | ((with_reducible refine gate_callee (f := 46) rfl ?_); refine goesL_ (some 12) rfl rfl Tryd.func46 (by kernel_rfl) rfl #[.string a0, .int .u8 58] rfl (by (try simp only [List.map_toArray, List.map_cons, List.map_nil]); first | done | rfl | (simp only [List.length_drop, List.length_take]; rfl)) ?_; (with_reducible refine (intrusionref06_Split.calls k a0 58 t199 _ A3.out).mono ?_); rintro e w4 ⟨v200, rfl, ho0, hb⟩; refine ⟨_, rfl, ?_⟩; have HO201 := Aside0.mk (Kd.R_lower ho0 (below_size (zB HB))); replace HB := Aside0.mk (below_step (zB HB) hb); (try clear hb); (try clear ho0)))
   go_loopg [4, 6] k (fun kq v4 v6 w' => ∃ (x4_1 : List Int) (x6_1 : Int), v6 = .int .i64 x6_1 ∧ Aside0 (intrusionref06_groups.l0 kq x4_1 t199 x6_1 = some (r1, r2)) ∧ Aside0 (kq ≤ k) ∧ Aside0 (Kd.R (Kd.int .i64) 3 w' w.heap.size (fun _ => True) v4 x4_1) ∧ Aside0 (Kd.R Kd.string 9 w' w.heap.size (fun _ => True) v200 t199) ∧ Aside0 (Below w.heap.size w w'))
   case atStart => exact ⟨(([] : List Int)), (0), (by first | rfl | (simp; done) | (simp [*]; done)), H', ⟨Nat.le_refl _⟩, ⟨by first | exact Kd.R_nil _ _ _ _ _ | exact Kd.N_nil _ _ _ _ _ | exact Kd.V_nil _ _ _ _ _ | exact Kd.Q_nil _ _ _ _ _ | exact Kd.S_nil _ _ _ _ _⟩, ⟨zR HO201⟩, ⟨zB HB⟩⟩
   case round =>
    clear H'
    try clear c2
    try clear c2b0
    try clear c2b1
    try clear p2
    try clear c4
    obtain ⟨x4_1, x6_1, rfl, HA, HK1, HO_4, HO_5, HB⟩ := hrel
    cases gk with
    | zero => exact absurd HA.out (by simp [intrusionref06_groups.l0])
    | succ k1 =>
     have H := HA.out
     clear HA
     simp only [intrusionref06_groups.l0] at H
     by_cases c5 : x6_1 < (t199.length : Int)
     · rw [if_pos c5] at H
       have c5b0 : decide (x6_1 < (t199.length : Int)) = true := decide_eq_true c5
       clear c5
       by_cases c6 : 0 ≤ x6_1
       · rw [if_pos c6] at H
         have c6b0 : decide (0 ≤ x6_1) = true := decide_eq_true c6
         clear c6
         replace H := Option.bind_eq_some_iff.mp H
         obtain ⟨t203, A70, H⟩ := H
         replace H : (if t203 < 0 then (some (([] : List Int), false)) else (if x4_1.length < 17592186044416 then (intrusionref06_groups.l0 k1 (x4_1 ++ [t203]) t199 (wrap64 (x6_1 + 1))) else (none))) = some (r1, r2) := H
         have A7 := Aside0.mk A70
         clear A70
         by_cases c8 : t203 < 0
         · rw [if_pos c8] at H
           have c8b0 : decide (t203 < 0) = true := decide_eq_true c8
           clear c8
           simp only [Option.some.injEq, Prod.mk.injEq] at H
           obtain ⟨rfl, rfl⟩ := H
           obtain ⟨Ao9, co9, eo9⟩ := Kd.R_slice HO_5.out
           subst eo9
           have p202 : 0 ≤ (x6_1 : Int) := za
           have q202 : x6_1 < (t199.length : Int) := za
           obtain ⟨ad202, e202, hx202_0⟩ := Kd.at_string (Kd.R_reads' HO_5.out).2.2 x6_1 p202 q202
           cases e202
           replace p202 := eq_true p202
           replace q202 := eq_true q202
           go_wp2_with (first | ((with_reducible refine gate_callee (f := 79) rfl ?_); refine goesL_ (some 23) rfl rfl Tryd.func79 (by kernel_rfl) rfl #[.string (rdOf ByteArray.empty t199 x6_1)] rfl (by (try simp only [List.map_toArray, List.map_cons, List.map_nil]); first | done | rfl | (simp only [List.length_drop, List.length_take]; rfl)) ?_; (with_reducible refine (intrusionref06_group.calls k1 (rdOf ByteArray.empty t199 x6_1) t203 _ A7.out).mono ?_); rintro e w' ⟨rfl, ⟨nd, rfl⟩⟩; refine ⟨_, rfl, ?_⟩))
           go_ret2
           exact ⟨_, by first | rfl | (simp [errW_none, errW_some] <;> rfl) | (simp [*, errW_none, errW_some] <;> rfl), by first | exact Kd.R_nil _ _ _ _ _ | exact Kd.N_nil _ _ _ _ _ | exact Kd.V_nil _ _ _ _ _ | exact Kd.Q_nil _ _ _ _ _ | exact Kd.S_nil _ _ _ _ _, by repeat (first | (with_reducible first | exact HB.out | apply below_alloc | apply pw_below_drewN | apply below_drew1) | exact HB.out)⟩
         · rw [if_neg c8] at H
           have c8b0 : decide (t203 < 0) = false := decide_eq_false c8
           clear c8
           by_cases c10 : x4_1.length < 17592186044416
           · rw [if_pos c10] at H
             have LMc10 := Aside0.mk c10
             clear c10
             obtain ⟨y204, hy204⟩ : ∃ y_ : List Int, y_ = (x4_1 ++ [t203]) := ⟨_, rfl⟩
             rw [← hy204] at H; try dsimp only [Option.bind_some] at H
             have Ny204 := Aside0.mk hy204
             clear hy204
             have H' := Aside0.mk H
             clear H
             obtain ⟨Ao11, co11, eo11⟩ := Kd.R_slice HO_5.out
             subst eo11
             have p202 : 0 ≤ (x6_1 : Int) := za
             have q202 : x6_1 < (t199.length : Int) := za
             obtain ⟨ad202, e202, hx202_0⟩ := Kd.at_string (Kd.R_reads' HO_5.out).2.2 x6_1 p202 q202
             cases e202
             replace p202 := eq_true p202
             replace q202 := eq_true q202
             go_wp2_with (first | ((with_reducible refine gate_callee (f := 79) rfl ?_); refine goesL_ (some 23) rfl rfl Tryd.func79 (by kernel_rfl) rfl #[.string (rdOf ByteArray.empty t199 x6_1)] rfl (by (try simp only [List.map_toArray, List.map_cons, List.map_nil]); first | done | rfl | (simp only [List.length_drop, List.length_take]; rfl)) ?_; (with_reducible refine (intrusionref06_group.calls k1 (rdOf ByteArray.empty t199 x6_1) t203 _ A7.out).mono ?_); rintro e w' ⟨rfl, ⟨nd, rfl⟩⟩; refine ⟨_, rfl, ?_⟩) | ((with_reducible refine gate_builtin (b := .append) (xs := #[.tmp 26, .tmp 28]) rfl ?_); at_builtin; refine Kd.R_append (Kd.int .i64) (w0 := w) w.heap.size rfl (.tmp 26) (.tmp 28) 72 3 (.int .i64 0) 8 rfl Tryd.underlying72 info3 rfl (by decide) (by omega) u4 x4_1 t203 [.int .i64 t203] (fun _ => True) (fun _ => False) rfl rfl ?aP (fun _ hk => hk.elim) ?aF ?aO ?aB ?aS ?aL ?_; (case aP => exact rfl); (case aB => exact (zB HB)); (case aF => exact (fun _ _ => trivial)); (case aO => exact (zR HO_4)); (case aS => exact (below_size (zB HB))); (case aL => have := LMc10.out; omega); intro v205 w12 ho hb hg hat; rw [← Ny204.out] at ho; replace HO_5 := Aside0.mk (Kd.R_over' (zR HO_5) (Kd.R_typed (zR HO_4)) (by decide) hg); replace HB := Aside0.mk (hb); have HO206 := Aside0.mk (ho); clear HO_4; clear ho hb hg hat))
             go_roundg k1
             case measure => have := HK1.out; omega
             case rel => exact ⟨(y204), (wrap64 (x6_1 + 1)), (by first | rfl | (simp; done) | (simp [*]; done)), H', ⟨by have := HK1.out; omega⟩, ⟨zR HO206⟩, ⟨zR HO_5⟩, ⟨zB HB⟩⟩
           · rw [if_neg c10] at H
             exact absurd H (by simp)
       · rw [if_neg c6] at H
         exact absurd H (by simp)
     · rw [if_neg c5] at H
       have c5b0 : decide (x6_1 < (t199.length : Int)) = false := decide_eq_false c5
       clear c5
       simp only [Option.some.injEq, Prod.mk.injEq] at H
       obtain ⟨rfl, rfl⟩ := H
       obtain ⟨Ao13, co13, eo13⟩ := Kd.R_slice HO_5.out
       subst eo13
       go_wp2
       go_ret2
       exact ⟨_, by first | rfl | (simp [errW_none, errW_some] <;> rfl) | (simp [*, errW_none, errW_some] <;> rfl), by (with_reducible repeat (first | apply Kd.R_alloc | apply Kd.R_drewN | apply Kd.R_drew)); exact HO_4.out, by repeat (first | (with_reducible first | exact HB.out | apply below_alloc | apply pw_below_drewN | apply below_drew1) | exact HB.out)⟩
end Go.Proofs.YtlgfinnldhjgeaaDoor.Q
end

section
namespace Go.Proofs.YtlgfinnldhjgeaaDoor.Q
open Go.RowKit Go.Proofs.YtlgfinnldhjgeaaDoorW.PrintWords Go.Proofs.YtlgfinnldhjgeaaDoorW.PrintLast Go.Proofs.YtlgfinnldhjgeaaDoorW.PrintMore
attribute [local go_sem] max2_int min2_int max_two min_two max_three min_three max_four min_four
set_option linter.unusedVariables false
set_option linter.unusedSimpArgs false
mutual
def intrusionref06_parse6.j2 : Nat → List Int → Option (Bool × Int × Int × Bool)
  | 0, _ => none
  | k + 1, x4 => intrusionref06_parse6.l1 k x4 0 true 0 0
def intrusionref06_parse6.l1 : Nat → List Int → Int → Bool → Int → Int → Option (Bool × Int × Int × Bool)
  | 0, _, _, _, _, _ => none
  | k + 1, x4, x13, x228000, x228001, x228002 => if x13 < 4 then (if 0 ≤ x13 then (if x13 < (x4.length : Int) then (if 0 ≤ (wrap64 (x13 + 4)) then (if (wrap64 (x13 + 4)) < (x4.length : Int) then (intrusionref06_parse6.l1 k x4 (wrap64 (x13 + 1)) x228000 (Go.bits .or .u64 (IntKind.u64.wrap (x228001 * 65536)) (IntKind.u64.wrap (rd x4 x13))) (Go.bits .or .u64 (IntKind.u64.wrap (x228002 * 65536)) (IntKind.u64.wrap (rd x4 (wrap64 (x13 + 4)))))) else (none)) else (none)) else (none)) else (none)) else (some (x228000, x228001, x228002, true))
def intrusionref06_parse6.j0 : Nat → List Int → List Int → Bool → Option (Bool × Int × Int × Bool)
  | 0, _, _, _ => none
  | k + 1, x8, x10, x60 => if x60 = true then (some (false, 0, 0, false)) else (intrusionref06_parse6.l0 k x8 x10)
def intrusionref06_parse6.l0 : Nat → List Int → List Int → Option (Bool × Int × Int × Bool)
  | 0, _, _ => none
  | k + 1, x8, x10 => if (wrap64 ((x8.length : Int) + (x10.length : Int))) < 8 then (if x8.length < 17592186044416 then (intrusionref06_parse6.l0 k (x8 ++ [0]) x10) else (none)) else (if x8.length + x10.length < 17592186044416 then (intrusionref06_parse6.j2 k (x8 ++ x10)) else (none))
end
def intrusionref06_parse6.f (k : Nat) (a0 : ByteArray) : Option (Bool × Int × Int × Bool) := (intrusionref06_gap.f k a0).bind fun t208 => (if t208 < 0 then ((intrusionref06_groups.f k a0).bind fun bt209 => (if bt209.2 = true then (if (bt209.1.length : Int) = 8 then (intrusionref06_parse6.j2 k bt209.1) else (some (false, 0, 0, false))) else (some (false, 0, 0, false)))) else (if 0 ≤ t208 then (if t208 ≤ (a0.size : Int) then ((intrusionref06_groups.f k (a0.extract 0 (t208 : Int).toNat)).bind fun bt213 => (if 0 ≤ (wrap64 (t208 + 2)) then (if (wrap64 (t208 + 2)) ≤ (a0.size : Int) then ((intrusionref06_groups.f k (a0.extract ((wrap64 (t208 + 2)) : Int).toNat a0.size)).bind fun bt217 => (if bt213.2 = true then (if bt217.2 = true then (intrusionref06_parse6.j0 k bt213.1 bt217.1 (decide ((wrap64 ((bt213.1.length : Int) + (bt217.1.length : Int))) > 7))) else (intrusionref06_parse6.j0 k bt213.1 bt217.1 true)) else (intrusionref06_parse6.j0 k bt213.1 bt217.1 true))) else (none)) else (none))) else (none)) else (none)))
theorem intrusionref06_parse6.mono_l : ∀ k, (∀ y0, LeO (intrusionref06_parse6.j2 k y0) (intrusionref06_parse6.j2 (k + 1) y0)) ∧ (∀ y0 y1 y2 y3 y4, LeO (intrusionref06_parse6.l1 k y0 y1 y2 y3 y4) (intrusionref06_parse6.l1 (k + 1) y0 y1 y2 y3 y4)) ∧ (∀ y0 y1 y2, LeO (intrusionref06_parse6.j0 k y0 y1 y2) (intrusionref06_parse6.j0 (k + 1) y0 y1 y2)) ∧ (∀ y0 y1, LeO (intrusionref06_parse6.l0 k y0 y1) (intrusionref06_parse6.l0 (k + 1) y0 y1))
  | 0 => ⟨fun _ r h => by simp [intrusionref06_parse6.j2] at h, fun _ _ _ _ _ r h => by simp [intrusionref06_parse6.l1] at h, fun _ _ _ r h => by simp [intrusionref06_parse6.j0] at h, fun _ _ r h => by simp [intrusionref06_parse6.l0] at h⟩
  | k + 1 => by
    obtain ⟨ih0, ih1, ih2, ih3⟩ := intrusionref06_parse6.mono_l k
    refine ⟨?_, ?_, ?_, ?_⟩
    · intro y0
      unfold intrusionref06_parse6.j2
      repeat' first
      | (with_reducible exact ih0 _)
      | (with_reducible exact ih1 _ _ _ _ _)
      | (with_reducible exact ih2 _ _ _)
      | (with_reducible exact ih3 _ _)
      | (with_reducible exact intrusionref06_gap.mono _ _)
      | (with_reducible exact intrusionref06_groups.mono _ _)
      | (with_reducible exact LeO.refl _)
      | (with_reducible exact LeO.none _)
      | (with_reducible refine LeO.ite ?_ ?_)
      | (with_reducible refine LeO.bind ?_ (fun _ => ?_))
      | exact ih0 _
      | exact ih1 _ _ _ _ _
      | exact ih2 _ _ _
      | exact ih3 _ _
      | exact intrusionref06_gap.mono _ _
      | exact intrusionref06_groups.mono _ _
      | exact LeO.none _
      | refine LeO.ite ?_ ?_
      | refine LeO.bind ?_ (fun _ => ?_)
    · intro y0 y1 y2 y3 y4
      unfold intrusionref06_parse6.l1
      repeat' first
      | (with_reducible exact ih0 _)
      | (with_reducible exact ih1 _ _ _ _ _)
      | (with_reducible exact ih2 _ _ _)
      | (with_reducible exact ih3 _ _)
      | (with_reducible exact intrusionref06_gap.mono _ _)
      | (with_reducible exact intrusionref06_groups.mono _ _)
      | (with_reducible exact LeO.refl _)
      | (with_reducible exact LeO.none _)
      | (with_reducible refine LeO.ite ?_ ?_)
      | (with_reducible refine LeO.bind ?_ (fun _ => ?_))
      | exact ih0 _
      | exact ih1 _ _ _ _ _
      | exact ih2 _ _ _
      | exact ih3 _ _
      | exact intrusionref06_gap.mono _ _
      | exact intrusionref06_groups.mono _ _
      | exact LeO.none _
      | refine LeO.ite ?_ ?_
      | refine LeO.bind ?_ (fun _ => ?_)
    · intro y0 y1 y2
      unfold intrusionref06_parse6.j0
      repeat' first
      | (with_reducible exact ih0 _)
      | (with_reducible exact ih1 _ _ _ _ _)
      | (with_reducible exact ih2 _ _ _)
      | (with_reducible exact ih3 _ _)
      | (with_reducible exact intrusionref06_gap.mono _ _)
      | (with_reducible exact intrusionref06_groups.mono _ _)
      | (with_reducible exact LeO.refl _)
      | (with_reducible exact LeO.none _)
      | (with_reducible refine LeO.ite ?_ ?_)
      | (with_reducible refine LeO.bind ?_ (fun _ => ?_))
      | exact ih0 _
      | exact ih1 _ _ _ _ _
      | exact ih2 _ _ _
      | exact ih3 _ _
      | exact intrusionref06_gap.mono _ _
      | exact intrusionref06_groups.mono _ _
      | exact LeO.none _
      | refine LeO.ite ?_ ?_
      | refine LeO.bind ?_ (fun _ => ?_)
    · intro y0 y1
      unfold intrusionref06_parse6.l0
      repeat' first
      | (with_reducible exact ih0 _)
      | (with_reducible exact ih1 _ _ _ _ _)
      | (with_reducible exact ih2 _ _ _)
      | (with_reducible exact ih3 _ _)
      | (with_reducible exact intrusionref06_gap.mono _ _)
      | (with_reducible exact intrusionref06_groups.mono _ _)
      | (with_reducible exact LeO.refl _)
      | (with_reducible exact LeO.none _)
      | (with_reducible refine LeO.ite ?_ ?_)
      | (with_reducible refine LeO.bind ?_ (fun _ => ?_))
      | exact ih0 _
      | exact ih1 _ _ _ _ _
      | exact ih2 _ _ _
      | exact ih3 _ _
      | exact intrusionref06_gap.mono _ _
      | exact intrusionref06_groups.mono _ _
      | exact LeO.none _
      | refine LeO.ite ?_ ?_
      | refine LeO.bind ?_ (fun _ => ?_)
theorem intrusionref06_parse6.mono : ∀ a0 k, LeO (intrusionref06_parse6.f k a0) (intrusionref06_parse6.f (k + 1) a0) := by
  intro a0 k
  obtain ⟨ih0, ih1, ih2, ih3⟩ := intrusionref06_parse6.mono_l k
  unfold intrusionref06_parse6.f
  repeat' first
      | (with_reducible exact ih0 _)
      | (with_reducible exact ih1 _ _ _ _ _)
      | (with_reducible exact ih2 _ _ _)
      | (with_reducible exact ih3 _ _)
      | (with_reducible exact intrusionref06_gap.mono _ _)
      | (with_reducible exact intrusionref06_groups.mono _ _)
      | (with_reducible exact LeO.refl _)
      | (with_reducible exact LeO.none _)
      | (with_reducible refine LeO.ite ?_ ?_)
      | (with_reducible refine LeO.bind ?_ (fun _ => ?_))
      | exact ih0 _
      | exact ih1 _ _ _ _ _
      | exact ih2 _ _ _
      | exact ih3 _ _
      | exact intrusionref06_gap.mono _ _
      | exact intrusionref06_groups.mono _ _
      | exact LeO.none _
      | refine LeO.ite ?_ ?_
      | refine LeO.bind ?_ (fun _ => ?_)
def intrusionref06_parse6.T19 : Bool × List (List Nat × List Nat) := (true, [([], []), ([0], [0]), ([1], [1]), ([], []), ([], []), ([3, 4], [3, 4]), ([5], [5]), ([6], [6]), ([2, 7], [2, 7]), ([0, 1, 2, 3, 4, 5, 6, 7, 8], []), ([9, 8, 0, 1, 2, 3, 4, 5, 6, 7, 8], [8, 9])])
def intrusionref06_parse6.B19 : List Nat := [0, 1, 3, 0, 0, 24, 56, 120, 255, 511, 1023]
theorem intrusionref06_parse6.tab19 : rtab .any (opsOf Tryd.f42 19) = intrusionref06_parse6.T19 := by kernel_rfl
theorem intrusionref06_parse6.bits19 : waitsOk intrusionref06_parse6.T19.2 intrusionref06_parse6.B19 = true := by kernel_rfl
def intrusionref06_parse6.T20 : Bool × List (List Nat × List Nat) := (true, [([], []), ([0], [0]), ([1], [1]), ([], []), ([], []), ([4], [4]), ([3, 5], [3, 5]), ([6], [6]), ([7], [7]), ([2, 8], [2, 8]), ([0, 1, 2, 3, 4, 5, 6, 7, 8, 9], []), ([10, 9, 0, 1, 2, 3, 4, 5, 6, 7, 8, 9], [9, 10])])
def intrusionref06_parse6.B20 : List Nat := [0, 1, 3, 0, 0, 16, 56, 120, 248, 511, 1023, 2047]
theorem intrusionref06_parse6.tab20 : rtab .any (opsOf Tryd.f42 20) = intrusionref06_parse6.T20 := by kernel_rfl
theorem intrusionref06_parse6.bits20 : waitsOk intrusionref06_parse6.T20.2 intrusionref06_parse6.B20 = true := by kernel_rfl
set_option maxHeartbeats 8000000 in
set_option maxRecDepth 100000 in
theorem intrusionref06_parse6.calls (k : Nat) (a0 : ByteArray) (r1 : Bool) (r2 : Int) (r3 : Int) (r4 : Bool) (w : World) (h : intrusionref06_parse6.f k a0 = some (r1, r2, r3, r4)) :
 Calls Tryd.prog 42 #[.string a0] w fun e w' => e = .returned (.tuple #[.agg #[.bool r1, .int .u64 r2, .int .u64 r3], .bool r4]) ∧ Below w.heap.size w w' := by
 have hu25 := Tryd.underlying25
 have HB := Aside0.mk (Below.refl w.heap.size w)
 unfold intrusionref06_parse6.f at h; have H := h
 clear h
 replace H := Option.bind_eq_some_iff.mp H
 obtain ⟨t208, A20, H⟩ := H
 replace H : (if t208 < 0 then ((intrusionref06_groups.f k a0).bind fun bt209 => (if bt209.2 = true then (if (bt209.1.length : Int) = 8 then (intrusionref06_parse6.j2 k bt209.1) else (some (false, 0, 0, false))) else (some (false, 0, 0, false)))) else (if 0 ≤ t208 then (if t208 ≤ (a0.size : Int) then ((intrusionref06_groups.f k (a0.extract 0 (t208 : Int).toNat)).bind fun bt213 => (if 0 ≤ (wrap64 (t208 + 2)) then (if (wrap64 (t208 + 2)) ≤ (a0.size : Int) then ((intrusionref06_groups.f k (a0.extract ((wrap64 (t208 + 2)) : Int).toNat a0.size)).bind fun bt217 => (if bt213.2 = true then (if bt217.2 = true then (intrusionref06_parse6.j0 k bt213.1 bt217.1 (decide ((wrap64 ((bt213.1.length : Int) + (bt217.1.length : Int))) > 7))) else (intrusionref06_parse6.j0 k bt213.1 bt217.1 true)) else (intrusionref06_parse6.j0 k bt213.1 bt217.1 true))) else (none)) else (none))) else (none)) else (none))) = some (r1, r2, r3, r4) := H
 have A2 := Aside0.mk A20
 clear A20
 have HC3 := Aside0.mk H
 clear H
 go_enter Tryd.func42, Tryd.ntmps42
 go_upto_if 17 with (first | ((with_reducible refine gate_dst (N := 2) rfl ?_); (try (refine gate_guard (by rfl) ?_; dsimp only)); refine zx 2 #[.bool false, .int .u64 0, .int .u64 0] 25 ?_; intro gb207 hg w4 hbox hb; have BK207 := Aside0.mk (hbox); have GW207 := Aside0.mk ((by rw [hg]; exact (below_size (zB HB)) : w.heap.size ≤ gb207)); have GE207 := Aside0.mk ((by rw [hg]; exact (below_size (zB HB)) : w.heap.size ≤ gb207)); replace HB := Aside0.mk (below_step (zB HB) hb); clear hb hbox hg) | ((with_reducible refine gate_callee (f := 66) rfl ?_); refine goesL_ (some 15) rfl rfl Tryd.func66 (by kernel_rfl) rfl #[.string a0] rfl (by (try simp only [List.map_toArray, List.map_cons, List.map_nil]); first | done | rfl | (simp only [List.length_drop, List.length_take]; rfl)) ?_; (with_reducible refine (intrusionref06_gap.calls k a0 t208 _ A2.out).mono ?_); rintro e w' ⟨rfl, ⟨nd, rfl⟩⟩; refine ⟨_, rfl, ?_⟩))
 (try simp only [Act.put, List.setIfInBounds_toArray, List.set_cons_zero, List.set_cons_succ])
 go_cut [4] (fun v4 wc => ∃ (kq : Nat) (x4_2 : List Int) (x208000_2 : Bool) (x208001_2 : Int) (x208002_2 : Int), Aside0 (intrusionref06_parse6.j2 kq x4_2 = some (r1, r2, r3, r4)) ∧ Aside0 (kq ≤ k) ∧ Aside0 (Kd.R (Kd.int .i64) 3 wc w.heap.size (fun _ => True) v4 x4_2) ∧ Aside0 (wc.heap[gb207]? = some (.cells #[.bool x208000_2, .int .u64 x208001_2, .int .u64 x208002_2] 25 (0, 0))) ∧ Aside0 (Below w.heap.size w wc))
 case first =>
  have H := HC3.out
  clear HC3
  by_cases c5 : t208 < 0
  · rw [if_pos c5] at H
    have c5b0 : decide (t208 < 0) = true := decide_eq_true c5
    clear c5
    (first | rw [c5b0] | (simp only [i64_w, i32_w]; rw [c5b0]) | skip)
    replace H := Option.bind_eq_some_iff.mp H
    obtain ⟨⟨t209, t210⟩, A60, H⟩ := H
    replace H : (if t210 = true then (if (t209.length : Int) = 8 then (intrusionref06_parse6.j2 k t209) else (some (false, 0, 0, false))) else (some (false, 0, 0, false))) = some (r1, r2, r3, r4) := H
    have A6 := Aside0.mk A60
    clear A60
    by_cases c7 : t210 = true
    · subst c7
      rw [if_pos rfl] at H
      by_cases c8 : (t209.length : Int) = 8
      · rw [if_pos c8] at H
        have c8b0 : ((t209.length : Int) == 8) = true := beq_iff_eq.mpr c8
        have c8b1 : ((t209.length : Int) != 8) = false := bne_eq_false_iff_eq.mpr c8
        clear c8
        have H' := Aside0.mk H
        clear H
        go_wp2_with (first | ((with_reducible refine gate_callee (f := 67) rfl ?_); refine goesL_ (some 20) rfl rfl Tryd.func67 (by kernel_rfl) rfl #[.string a0] rfl (by (try simp only [List.map_toArray, List.map_cons, List.map_nil]); first | done | rfl | (simp only [List.length_drop, List.length_take]; rfl)) ?_; (with_reducible refine (intrusionref06_groups.calls k a0 t209 true _ A6.out).mono ?_); rintro e w9 ⟨v211, rfl, ho0, hb⟩; refine ⟨_, rfl, ?_⟩; have HO212 := Aside0.mk (Kd.R_lower ho0 (below_size (zB HB))); replace BK207 := Aside0.mk (blk_below (g := gb207) (o := .cells #[.bool false, .int .u64 0, .int .u64 0] 25 (0, 0)) (zK BK207) hb); replace HB := Aside0.mk (below_step (zB HB) hb); (try clear hb); (try clear ho0); obtain ⟨Ao10, co10, eo10⟩ := Kd.R_slice HO212.out; subst eo10))
        go_meet
        case rel => exact ⟨_, (t209), (false), (0), (0), H', ⟨by first | omega | exact Nat.le_refl _⟩, ⟨zR HO212⟩, ⟨zK BK207⟩, ⟨zB HB⟩⟩
      · rw [if_neg c8] at H
        have c8b0 : ((t209.length : Int) == 8) = false := beq_eq_false_iff_ne.mpr c8
        have c8b1 : ((t209.length : Int) != 8) = true := bne_iff_ne.mpr c8
        simp only [Option.some.injEq, Prod.mk.injEq] at H
        obtain ⟨rfl, rfl, rfl, rfl⟩ := H
        go_wp2_with (first | ((with_reducible refine gate_callee (f := 67) rfl ?_); refine goesL_ (some 20) rfl rfl Tryd.func67 (by kernel_rfl) rfl #[.string a0] rfl (by (try simp only [List.map_toArray, List.map_cons, List.map_nil]); first | done | rfl | (simp only [List.length_drop, List.length_take]; rfl)) ?_; (with_reducible refine (intrusionref06_groups.calls k a0 t209 true _ A6.out).mono ?_); rintro e w11 ⟨v211, rfl, ho0, hb⟩; refine ⟨_, rfl, ?_⟩; have HO212 := Aside0.mk (Kd.R_lower ho0 (below_size (zB HB))); replace BK207 := Aside0.mk (blk_below (g := gb207) (o := .cells #[.bool false, .int .u64 0, .int .u64 0] 25 (0, 0)) (zK BK207) hb); replace HB := Aside0.mk (below_step (zB HB) hb); (try clear hb); (try clear ho0); obtain ⟨Ao12, co12, eo12⟩ := Kd.R_slice HO212.out; subst eo12; obtain ⟨hcz13_0, hcz13_1, hcz13_2⟩ := zc3 BK207; obtain ⟨hfz13_0, hfz13_1, hfz13_2⟩ := zf3 BK207))
        refine bodyPost_ret (results_ct rfl _ _ gb207 25 #[.bool false, .int .u64 0, .int .u64 0] (0, 0) _ rfl (by refine zL ?_; refine blk_put (cs := #[.bool false, .int .u64 0, .int .u64 0]) ?_ 2 _ rfl; refine zL ?_; refine blk_put (cs := #[.bool false, .int .u64 0, .int .u64 0]) ?_ 1 _ rfl; refine zL ?_; refine blk_put (cs := #[.bool false, .int .u64 0, .int .u64 0]) ?_ 0 _ rfl; refine zL ?_; exact BK207.out) Tryd.underlying25 rfl (by kernel_rfl)) rfl ?_
        exact ⟨by first | rfl | (simp [errW_none, errW_some] <;> rfl) | (simp [*, errW_none, errW_some] <;> rfl), by repeat (first | (with_reducible first | exact HB.out | apply below_alloc | apply pw_below_drewN | apply below_drew1 | refine below_set ?_ GE207.out) | exact HB.out)⟩
    · replace c7 := Bool.eq_false_iff.mpr c7
      subst c7
      rw [if_neg zF] at H
      simp only [Option.some.injEq, Prod.mk.injEq] at H
      obtain ⟨rfl, rfl, rfl, rfl⟩ := H
      go_wp2_with (first | ((with_reducible refine gate_callee (f := 67) rfl ?_); refine goesL_ (some 20) rfl rfl Tryd.func67 (by kernel_rfl) rfl #[.string a0] rfl (by (try simp only [List.map_toArray, List.map_cons, List.map_nil]); first | done | rfl | (simp only [List.length_drop, List.length_take]; rfl)) ?_; (with_reducible refine (intrusionref06_groups.calls k a0 t209 false _ A6.out).mono ?_); rintro e w14 ⟨v211, rfl, ho0, hb⟩; refine ⟨_, rfl, ?_⟩; have HO212 := Aside0.mk (Kd.R_lower ho0 (below_size (zB HB))); replace BK207 := Aside0.mk (blk_below (g := gb207) (o := .cells #[.bool false, .int .u64 0, .int .u64 0] 25 (0, 0)) (zK BK207) hb); replace HB := Aside0.mk (below_step (zB HB) hb); (try clear hb); (try clear ho0); obtain ⟨hcz15_0, hcz15_1, hcz15_2⟩ := zc3 BK207; obtain ⟨hfz15_0, hfz15_1, hfz15_2⟩ := zf3 BK207))
      refine bodyPost_ret (results_ct rfl _ _ gb207 25 #[.bool false, .int .u64 0, .int .u64 0] (0, 0) _ rfl (by refine zL ?_; refine blk_put (cs := #[.bool false, .int .u64 0, .int .u64 0]) ?_ 2 _ rfl; refine zL ?_; refine blk_put (cs := #[.bool false, .int .u64 0, .int .u64 0]) ?_ 1 _ rfl; refine zL ?_; refine blk_put (cs := #[.bool false, .int .u64 0, .int .u64 0]) ?_ 0 _ rfl; refine zL ?_; exact BK207.out) Tryd.underlying25 rfl (by kernel_rfl)) rfl ?_
      exact ⟨by first | rfl | (simp [errW_none, errW_some] <;> rfl) | (simp [*, errW_none, errW_some] <;> rfl), by repeat (first | (with_reducible first | exact HB.out | apply below_alloc | apply pw_below_drewN | apply below_drew1 | refine below_set ?_ GE207.out) | exact HB.out)⟩
  · rw [if_neg c5] at H
    have c5b0 : decide (t208 < 0) = false := decide_eq_false c5
    clear c5
    (first | rw [c5b0] | (simp only [i64_w, i32_w]; rw [c5b0]) | skip)
    by_cases c16 : 0 ≤ t208
    · rw [if_pos c16] at H
      have c16b0 := eq_true c16
      have c16b1 : decide (0 ≤ t208) = true := decide_eq_true c16
      clear c16
      by_cases c17 : t208 ≤ (a0.size : Int)
      · rw [if_pos c17] at H
        have c17b0 := eq_true c17
        have c17b1 : decide (t208 ≤ (a0.size : Int)) = true := decide_eq_true c17
        clear c17
        replace H := Option.bind_eq_some_iff.mp H
        obtain ⟨⟨t213, t214⟩, A180, H⟩ := H
        replace H : (if 0 ≤ (wrap64 (t208 + 2)) then (if (wrap64 (t208 + 2)) ≤ (a0.size : Int) then ((intrusionref06_groups.f k (a0.extract ((wrap64 (t208 + 2)) : Int).toNat a0.size)).bind fun bt217 => (if t214 = true then (if bt217.2 = true then (intrusionref06_parse6.j0 k t213 bt217.1 (decide ((wrap64 ((t213.length : Int) + (bt217.1.length : Int))) > 7))) else (intrusionref06_parse6.j0 k t213 bt217.1 true)) else (intrusionref06_parse6.j0 k t213 bt217.1 true))) else (none)) else (none)) = some (r1, r2, r3, r4) := H
        have A18 := Aside0.mk A180
        clear A180
        obtain ⟨ji19, hji19⟩ : ∃ j_ : Int, (wrap64 (t208 + 2)) = j_ := ⟨_, rfl⟩
        replace H : (if 0 ≤ (ji19) then (if (ji19) ≤ (a0.size : Int) then ((intrusionref06_groups.f k (a0.extract ((ji19) : Int).toNat a0.size)).bind fun bt217 => (if t214 = true then (if bt217.2 = true then (intrusionref06_parse6.j0 k t213 bt217.1 (decide ((wrap64 ((t213.length : Int) + (bt217.1.length : Int))) > 7))) else (intrusionref06_parse6.j0 k t213 bt217.1 true)) else (intrusionref06_parse6.j0 k t213 bt217.1 true))) else (none)) else (none)) = some (r1, r2, r3, r4) := by first | (rw [hji19] at H; exact H) | (simp only [hji19] at H ⊢; exact H)
        (try rw [hji19] at A18)
        have hji19w : (IntKind.i64.wrap (t208 + 2)) = ji19 := (i64_w _).trans hji19
        by_cases c20 : 0 ≤ (ji19)
        · rw [if_pos c20] at H
          have c20b0 := eq_true c20
          have c20b1 : decide (0 ≤ (ji19)) = true := decide_eq_true c20
          clear c20
          by_cases c21 : (ji19) ≤ (a0.size : Int)
          · rw [if_pos c21] at H
            have c21b0 := eq_true c21
            have c21b1 : decide ((ji19) ≤ (a0.size : Int)) = true := decide_eq_true c21
            clear c21
            replace H := Option.bind_eq_some_iff.mp H
            obtain ⟨⟨t217, t218⟩, A220, H⟩ := H
            replace H : (if t214 = true then (if t218 = true then (intrusionref06_parse6.j0 k t213 t217 (decide ((wrap64 ((t213.length : Int) + (t217.length : Int))) > 7))) else (intrusionref06_parse6.j0 k t213 t217 true)) else (intrusionref06_parse6.j0 k t213 t217 true)) = some (r1, r2, r3, r4) := H
            have A22 := Aside0.mk A220
            clear A220
            have HC23 := Aside0.mk H
            clear H
            go_upto_region 10 with (first | ((with_reducible refine gate_callee (f := 67) rfl ?_); refine goesL_ (some 36) rfl rfl Tryd.func67 (by kernel_rfl) rfl #[.string (a0.extract 0 (t208 : Int).toNat)] rfl (by (try simp only [List.map_toArray, List.map_cons, List.map_nil]); first | done | rfl | (simp only [List.length_drop, List.length_take]; rfl)) ?_; (with_reducible refine (intrusionref06_groups.calls k (a0.extract 0 (t208 : Int).toNat) t213 t214 _ A18.out).mono ?_); rintro e w24 ⟨v215, rfl, ho0, hb⟩; refine ⟨_, rfl, ?_⟩; have HO216 := Aside0.mk (Kd.R_lower ho0 (below_size (zB HB))); replace BK207 := Aside0.mk (blk_below (g := gb207) (o := .cells #[.bool false, .int .u64 0, .int .u64 0] 25 (0, 0)) (zK BK207) hb); replace HB := Aside0.mk (below_step (zB HB) hb); (try clear hb); (try clear ho0)) | ((with_reducible refine gate_callee (f := 67) rfl ?_); refine goesL_ (some 44) rfl rfl Tryd.func67 (by kernel_rfl) rfl #[.string (a0.extract ((ji19) : Int).toNat a0.size)] rfl (by (try simp only [List.map_toArray, List.map_cons, List.map_nil]); first | done | (simp only [hji19]; rfl) | rfl | (simp only [List.length_drop, List.length_take]; rfl)) ?_; (with_reducible refine (intrusionref06_groups.calls k (a0.extract ((ji19) : Int).toNat a0.size) t217 t218 _ A22.out).mono ?_); rintro e w25 ⟨v219, rfl, ho0, hb⟩; refine ⟨_, rfl, ?_⟩; have HO220 := Aside0.mk (Kd.R_lower (Kd.R_new' ho0 (Kd.R_lt (zR HO216))) (below_size (zB HB))); replace HO216 := Aside0.mk (Kd.R_elder' (zR HO216) (Kd.R_base ho0) hb); replace BK207 := Aside0.mk (blk_below (g := gb207) (o := .cells #[.bool false, .int .u64 0, .int .u64 0] 25 (0, 0)) (zK BK207) hb); replace HB := Aside0.mk (below_step (zB HB) hb); (try clear hb); (try clear ho0)))
            (try simp only [Act.put, List.setIfInBounds_toArray, List.set_cons_zero, List.set_cons_succ])
            go_cut [60] (fun v60 wc => ∃ (kq : Nat) (x60_22 : Bool), v60 = .bool x60_22 ∧ Aside0 (intrusionref06_parse6.j0 kq t213 t217 x60_22 = some (r1, r2, r3, r4)) ∧ Aside0 (kq ≤ k) ∧ Aside0 (Kd.R (Kd.int .i64) 3 wc w.heap.size (fun k_ => some k_ ≠ (v219 : Value).ownBlock) v215 t213) ∧ Aside0 (Kd.R (Kd.int .i64) 3 wc w.heap.size (fun k_ => some k_ ≠ (v215 : Value).ownBlock) v219 t217) ∧ Aside0 (wc.heap[gb207]? = some (.cells #[.bool false, .int .u64 0, .int .u64 0] 25 (0, 0))) ∧ Aside0 (Below w.heap.size w wc))
            case first =>
             have H := HC23.out
             clear HC23
             by_cases c26 : t214 = true
             · subst c26
               rw [if_pos rfl] at H
               by_cases c27 : t218 = true
               · subst c27
                 rw [if_pos rfl] at H
                 have H' := Aside0.mk H
                 clear H
                 obtain ⟨Ao28, co28, eo28⟩ := Kd.R_slice HO216.out
                 subst eo28
                 obtain ⟨Ao29, co29, eo29⟩ := Kd.R_slice HO220.out
                 subst eo29
                 go_wp2
                 go_meet
                 case rel => exact ⟨_, (decide ((wrap64 ((t213.length : Int) + (t217.length : Int))) > 7)), (by first | rfl | (simp; done) | (simp [*]; done)), H', ⟨by first | omega | exact Nat.le_refl _⟩, ⟨by (with_reducible repeat (first | apply Kd.R_alloc | apply Kd.R_drewN | apply Kd.R_drew)); exact Kd.R_mono HO216.out (fun _ hk => hk.2)⟩, ⟨by (with_reducible repeat (first | apply Kd.R_alloc | apply Kd.R_drewN | apply Kd.R_drew)); exact Kd.R_mono HO220.out (fun _ hk => hk.2)⟩, ⟨zK BK207⟩, ⟨zB HB⟩⟩
               · replace c27 := Bool.eq_false_iff.mpr c27
                 subst c27
                 rw [if_neg zF] at H
                 have H' := Aside0.mk H
                 clear H
                 go_wp2
                 go_meet
                 case rel => exact ⟨_, (true), (by first | rfl | (simp; done) | (simp [*]; done)), H', ⟨by first | omega | exact Nat.le_refl _⟩, ⟨by (with_reducible repeat (first | apply Kd.R_alloc | apply Kd.R_drewN | apply Kd.R_drew)); exact Kd.R_mono HO216.out (fun _ hk => hk.2)⟩, ⟨by (with_reducible repeat (first | apply Kd.R_alloc | apply Kd.R_drewN | apply Kd.R_drew)); exact Kd.R_mono HO220.out (fun _ hk => hk.2)⟩, ⟨zK BK207⟩, ⟨zB HB⟩⟩
             · replace c26 := Bool.eq_false_iff.mpr c26
               subst c26
               rw [if_neg zF] at H
               have H' := Aside0.mk H
               clear H
               go_wp2
               go_meet
               case rel => exact ⟨_, (true), (by first | rfl | (simp; done) | (simp [*]; done)), H', ⟨by first | omega | exact Nat.le_refl _⟩, ⟨by (with_reducible repeat (first | apply Kd.R_alloc | apply Kd.R_drewN | apply Kd.R_drew)); exact Kd.R_mono HO216.out (fun _ hk => hk.2)⟩, ⟨by (with_reducible repeat (first | apply Kd.R_alloc | apply Kd.R_drewN | apply Kd.R_drew)); exact Kd.R_mono HO220.out (fun _ hk => hk.2)⟩, ⟨zK BK207⟩, ⟨zB HB⟩⟩
            case rest =>
             clear HC23
             try clear c1
             try clear c2
             try clear p2
             try clear c4
             try clear c5
             try clear c5b0
             try clear c6
             try clear p6
             try clear c7
             try clear c8
             try clear c8b0
             try clear c8b1
             try clear c16
             try clear c16b0
             try clear c16b1
             try clear c17
             try clear c17b0
             try clear c17b1
             try clear c20
             try clear c20b0
             try clear c20b1
             try clear c21
             try clear c21b0
             try clear c21b1
             try clear c26
             try clear c27
             try clear hcz13_0
             try clear hcz13_1
             try clear hcz13_2
             try clear hcz15_0
             try clear hcz15_1
             try clear hcz15_2
             try clear hfz13_0
             try clear hfz13_1
             try clear hfz13_2
             try clear hfz15_0
             try clear hfz15_1
             try clear hfz15_2
             obtain ⟨kq, x60_22, rfl, HA, HJ22, HO_8, HO_10, BK207, HB⟩ := hcut
             cases kq with
             | zero => exact absurd HA.out (by simp [intrusionref06_parse6.j0])
             | succ kj22 =>
              have H := HA.out
              clear HA
              simp only [intrusionref06_parse6.j0] at H
              by_cases c30 : x60_22 = true
              · subst c30
                rw [if_pos rfl] at H
                simp only [Option.some.injEq, Prod.mk.injEq] at H
                obtain ⟨rfl, rfl, rfl, rfl⟩ := H
                obtain ⟨hcz31_0, hcz31_1, hcz31_2⟩ := zc3 BK207
                obtain ⟨hfz31_0, hfz31_1, hfz31_2⟩ := zf3 BK207
                go_wp2
                refine bodyPost_ret (results_ct rfl _ _ gb207 25 #[.bool false, .int .u64 0, .int .u64 0] (0, 0) _ rfl (by refine zL ?_; refine blk_put (cs := #[.bool false, .int .u64 0, .int .u64 0]) ?_ 2 _ rfl; refine zL ?_; refine blk_put (cs := #[.bool false, .int .u64 0, .int .u64 0]) ?_ 1 _ rfl; refine zL ?_; refine blk_put (cs := #[.bool false, .int .u64 0, .int .u64 0]) ?_ 0 _ rfl; refine zL ?_; exact BK207.out) Tryd.underlying25 rfl (by kernel_rfl)) rfl ?_
                exact ⟨by first | rfl | (simp [errW_none, errW_some] <;> rfl) | (simp only [← hji19]; first | rfl | (simp [errW_none, errW_some] <;> rfl)) | (simp [*, errW_none, errW_some] <;> rfl), by repeat (first | (with_reducible first | exact HB.out | apply below_alloc | apply pw_below_drewN | apply below_drew1 | refine below_set ?_ GE207.out) | exact HB.out)⟩
              · replace c30 := Bool.eq_false_iff.mpr c30
                subst c30
                rw [if_neg zF] at H
                have H' := Aside0.mk H
                clear H
                go_wp2
                go_loopg [8] kj22 (fun kq v8 w' => ∃ (x8_2 : List Int), Aside0 (intrusionref06_parse6.l0 kq x8_2 t217 = some (r1, r2, r3, r4)) ∧ Aside0 (kq ≤ kj22) ∧ Aside0 (Kd.R (Kd.int .i64) 3 w' w.heap.size (fun k_ => some k_ ≠ (v219 : Value).ownBlock) v8 x8_2) ∧ Aside0 (Kd.R (Kd.int .i64) 3 w' w.heap.size (fun k_ => some k_ ≠ (v8 : Value).ownBlock) v219 t217) ∧ Aside0 (w'.heap[gb207]? = some (.cells #[.bool false, .int .u64 0, .int .u64 0] 25 (0, 0))) ∧ Aside0 (Below w.heap.size w w'))
                case atStart => exact ⟨(t213), H', ⟨Nat.le_refl _⟩, ⟨zR HO_8⟩, ⟨zR HO_10⟩, ⟨zK BK207⟩, ⟨zB HB⟩⟩
                case round =>
                 clear H'
                 try clear c1
                 try clear c2
                 try clear p2
                 try clear c3
                 try clear c4
                 try clear c5
                 try clear c5b0
                 try clear c6
                 try clear p6
                 try clear c7
                 try clear c8
                 try clear c8b0
                 try clear c8b1
                 try clear c16
                 try clear c16b0
                 try clear c16b1
                 try clear c17
                 try clear c17b0
                 try clear c17b1
                 try clear c20
                 try clear c20b0
                 try clear c20b1
                 try clear c21
                 try clear c21b0
                 try clear c21b1
                 try clear c26
                 try clear c27
                 try clear c30
                 try clear hcz13_0
                 try clear hcz13_1
                 try clear hcz13_2
                 try clear hcz15_0
                 try clear hcz15_1
                 try clear hcz15_2
                 try clear hcz31_0
                 try clear hcz31_1
                 try clear hcz31_2
                 try clear hfz13_0
                 try clear hfz13_1
                 try clear hfz13_2
                 try clear hfz15_0
                 try clear hfz15_1
                 try clear hfz15_2
                 try clear hfz31_0
                 try clear hfz31_1
                 try clear hfz31_2
                 try clear p2
                 try clear p6
                 obtain ⟨x8_2, HA, HK2, HO_8, HO_10, BK207, HB⟩ := hrel
                 cases gk with
                 | zero => exact absurd HA.out (by simp [intrusionref06_parse6.l0])
                 | succ k2 =>
                  have H := HA.out
                  clear HA
                  simp only [intrusionref06_parse6.l0] at H
                  by_cases c32 : (wrap64 ((x8_2.length : Int) + (t217.length : Int))) < 8
                  · rw [if_pos c32] at H
                    have c32b0 : decide ((wrap64 ((x8_2.length : Int) + (t217.length : Int))) < 8) = true := decide_eq_true c32
                    clear c32
                    by_cases c33 : x8_2.length < 17592186044416
                    · rw [if_pos c33] at H
                      have LMc33 := Aside0.mk c33
                      clear c33
                      obtain ⟨y221, hy221⟩ : ∃ y_ : List Int, y_ = (x8_2 ++ [0]) := ⟨_, rfl⟩
                      rw [← hy221] at H; try dsimp only [Option.bind_some] at H
                      have Ny221 := Aside0.mk hy221
                      clear hy221
                      have H' := Aside0.mk H
                      clear H
                      obtain ⟨Ao34, co34, eo34⟩ := Kd.R_slice HO_8.out
                      subst eo34
                      obtain ⟨Ao35, co35, eo35⟩ := Kd.R_slice HO_10.out
                      subst eo35
                      go_wp2_with (first | ((with_reducible refine gate_builtin (b := .append) (xs := #[.tmp 68, .tmp 69]) rfl ?_); (try (refine gate_guard (by rfl) ?_; dsimp only)); at_builtin; refine Kd.R_append (Kd.int .i64) (w0 := w) w.heap.size rfl (.tmp 68) (.tmp 69) 72 3 (.int .i64 0) 8 rfl Tryd.underlying72 info3 rfl (by decide) (by omega) (.slice Ao34 x8_2.length co34) x8_2 0 [.int .i64 0] (fun k_ => some k_ ≠ (.slice Ao35 t217.length co35 : Value).ownBlock) (fun _ => False) rfl rfl ?aP (fun _ hk => hk.elim) ?aF ?aO ?aB ?aS ?aL ?_; (case aP => exact rfl); (case aB => exact (zB HB)); (case aF => exact (fun k_ hk => Kd.fresh' (Kd.R_lt (zR HO_10)) k_ hk)); (case aO => exact (zR HO_8)); (case aS => exact (below_size (zB HB))); (case aL => have := LMc33.out; omega); intro v222 w36 ho hb hg hat; rw [← Ny221.out] at ho; replace HO_10 := Aside0.mk (Kd.R_after (ok := (fun _ => True)) (by (with_reducible repeat (first | apply Kd.R_alloc | apply Kd.R_drewN | apply Kd.R_drew)); exact Kd.R_mono HO_10.out (fun _ hk => ⟨trivial, hk⟩)) hg hat); replace BK207 := Aside0.mk (blk_grown (g := gb207) (o := .cells #[.bool false, .int .u64 0, .int .u64 0] 25 (0, 0)) (zK BK207) hg (Kd.R_ne HO_8.out BK207.out (by decide))); replace HB := Aside0.mk (hb); have HO223 := Aside0.mk (ho); clear HO_8; clear ho hb hg hat))
                      go_roundg k2
                      case measure => have := HJ22.out; have := HK2.out; omega
                      case rel => exact ⟨(y221), H', ⟨by have := HJ22.out; have := HK2.out; omega⟩, ⟨zR HO223⟩, ⟨by (with_reducible repeat (first | apply Kd.R_alloc | apply Kd.R_drewN | apply Kd.R_drew)); exact Kd.R_mono HO_10.out (fun _ hk => hk.2)⟩, ⟨zK BK207⟩, ⟨zB HB⟩⟩
                    · rw [if_neg c33] at H
                      exact absurd H (by simp)
                  · rw [if_neg c32] at H
                    have c32b0 : decide ((wrap64 ((x8_2.length : Int) + (t217.length : Int))) < 8) = false := decide_eq_false c32
                    clear c32
                    by_cases c37 : x8_2.length + t217.length < 17592186044416
                    · rw [if_pos c37] at H
                      have LMc37 := Aside0.mk c37
                      clear c37
                      obtain ⟨y224, hy224⟩ : ∃ y_ : List Int, y_ = (x8_2 ++ t217) := ⟨_, rfl⟩
                      rw [← hy224] at H; try dsimp only [Option.bind_some] at H
                      have Ny224 := Aside0.mk hy224
                      clear hy224
                      have H' := Aside0.mk H
                      clear H
                      obtain ⟨Ao38, co38, eo38⟩ := Kd.R_slice HO_8.out
                      subst eo38
                      obtain ⟨Ao39, co39, eo39⟩ := Kd.R_slice HO_10.out
                      subst eo39
                      go_wp2_with (first | ((with_reducible refine gate_builtin (b := .append) (xs := #[.tmp 71, .tmp 72]) rfl ?_); (try (refine gate_guard (by rfl) ?_; dsimp only)); at_builtin; refine Kd.R_append_rows (Kd.int .i64) (w0 := w) w.heap.size rfl (.tmp 71) (.tmp 72) 72 3 (.int .i64 0) 8 rfl Tryd.underlying72 info3 rfl (by decide) (by omega) (.slice Ao38 x8_2.length co38) x8_2 t217 _ _ _ (fun k_ => some k_ ≠ (.slice Ao39 t217.length co39 : Value).ownBlock) (fun _ => False) rfl rfl ?aO ?aR (fun _ _ h => h) (fun _ h => h.elim) ?aF ?aB ?aS ?aL ?_; (case aR => repeat (first | exact (Kd.R_reads' HO_10.out).2.2 | (with_reducible refine Kd.C_alloc ?_ _) | (with_reducible refine Kd.C_drewN ?_ _) | (with_reducible refine Kd.C_drew ?_))); (case aB => exact (zB HB)); (case aF => exact (fun k_ hk => Kd.fresh' (Kd.R_lt (zR HO_10)) k_ hk)); (case aO => exact (zR HO_8)); (case aS => exact (below_size (zB HB))); (case aL => have := LMc37.out; omega); intro v225 w40 ho hb hg hat; rw [← Ny224.out] at ho; replace HO_10 := Aside0.mk (Kd.R_after (ok := (fun _ => True)) (by (with_reducible repeat (first | apply Kd.R_alloc | apply Kd.R_drewN | apply Kd.R_drew)); exact Kd.R_mono HO_10.out (fun _ hk => ⟨trivial, hk⟩)) hg hat); replace BK207 := Aside0.mk (blk_grown (g := gb207) (o := .cells #[.bool false, .int .u64 0, .int .u64 0] 25 (0, 0)) (zK BK207) hg (Kd.R_ne HO_8.out BK207.out (by decide))); replace HB := Aside0.mk (hb); have HO226 := Aside0.mk (ho); clear HO_8; clear ho hb hg hat))
                      go_meet
                      case rel => exact ⟨_, (y224), (false), (0), (0), H', ⟨by have := HJ22.out; have := HK2.out; first | omega | exact Nat.le_refl _⟩, ⟨by (with_reducible repeat (first | apply Kd.R_alloc | apply Kd.R_drewN | apply Kd.R_drew)); exact Kd.R_mono HO226.out (fun _ hk => trivial)⟩, ⟨zK BK207⟩, ⟨zB HB⟩⟩
                    · rw [if_neg c37] at H
                      exact absurd H (by simp)
          · rw [if_neg c21] at H
            exact absurd H (by simp)
        · rw [if_neg c20] at H
          exact absurd H (by simp)
      · rw [if_neg c17] at H
        exact absurd H (by simp)
    · rw [if_neg c16] at H
      exact absurd H (by simp)
 case rest =>
  clear HC3
  try clear c1
  try clear c2
  try clear p2
  try clear c3
  try clear c4
  try clear c5
  try clear c5b0
  try clear c6
  try clear p6
  try clear c7
  try clear c8
  try clear c8b0
  try clear c8b1
  try clear c16
  try clear c16b0
  try clear c16b1
  try clear c17
  try clear c17b0
  try clear c17b1
  try clear c20
  try clear c20b0
  try clear c20b1
  try clear c21
  try clear c21b0
  try clear c21b1
  try clear c26
  try clear c27
  try clear c30
  try clear c32
  try clear c32b0
  try clear c33
  try clear c37
  try clear hcz13_0
  try clear hcz13_1
  try clear hcz13_2
  try clear hcz15_0
  try clear hcz15_1
  try clear hcz15_2
  try clear hcz31_0
  try clear hcz31_1
  try clear hcz31_2
  try clear hfz13_0
  try clear hfz13_1
  try clear hfz13_2
  try clear hfz15_0
  try clear hfz15_1
  try clear hfz15_2
  try clear hfz31_0
  try clear hfz31_1
  try clear hfz31_2
  try clear p2
  try clear p6
  obtain ⟨kq, x4_2, x208000_2, x208001_2, x208002_2, HA, HJ2, HO_4, BK207, HB⟩ := hcut
  cases kq with
  | zero => exact absurd HA.out (by simp [intrusionref06_parse6.j2])
  | succ kj2 =>
   have H := HA.out
   clear HA
   simp only [intrusionref06_parse6.j2] at H
   have H' := Aside0.mk H
   clear H
   go_wp2_with (first | ((with_reducible refine gate_dst (N := 12) rfl ?_); (try (refine gate_guard (by rfl) ?_; dsimp only)); refine zx 12 #[.bool false, .int .u64 0, .int .u64 0] 25 ?_; intro gb227 hg w41 hbox hb; replace HO_4 := Aside0.mk (Kd.R_below (zR HO_4) hb); have BK227 := Aside0.mk (hbox); have GW227 := Aside0.mk ((by rw [hg]; exact (below_size (zB HB)) : w.heap.size ≤ gb227)); have GE227 := Aside0.mk ((by rw [hg]; exact (below_size (zB HB)) : w.heap.size ≤ gb227)); replace HB := Aside0.mk (below_step (zB HB) hb); have NB207_227 := Aside0.mk ((by rw [hg]; exact Nat.ne_of_lt (blk_lt (g := gb207) (o := .cells #[.bool x208000_2, .int .u64 x208001_2, .int .u64 x208002_2] 25 (0, 0)) (zK BK207)) : gb207 ≠ gb227)); have NB227_207 := Aside0.mk ((by rw [hg]; exact Nat.ne_of_gt (blk_lt (g := gb207) (o := .cells #[.bool x208000_2, .int .u64 x208001_2, .int .u64 x208002_2] 25 (0, 0)) (zK BK207)) : gb227 ≠ gb207)); replace BK207 := Aside0.mk (blk_below (g := gb207) (o := .cells #[.bool x208000_2, .int .u64 x208001_2, .int .u64 x208002_2] 25 (0, 0)) (zK BK207) hb); clear hb hbox hg; have hnb42 := NB227_207.out; have hnc42 := NB207_227.out; obtain ⟨hcz43_0, hcz43_1, hcz43_2⟩ := zc3 BK227; obtain ⟨hfz43_0, hfz43_1, hfz43_2⟩ := zf3 BK227))
   go_loopg [13] kj2 (fun kq v13 w' => ∃ (x13_2 : Int) (x228001_2 : Int) (x228002_2 : Int), v13 = .int .i64 x13_2 ∧ Aside0 (intrusionref06_parse6.l1 kq x4_2 x13_2 true x228001_2 x228002_2 = some (r1, r2, r3, r4)) ∧ Aside0 (kq ≤ kj2) ∧ Aside0 (Kd.R (Kd.int .i64) 3 w' w.heap.size (fun _ => True) u4 x4_2) ∧ Aside0 (w'.heap[gb207]? = some (.cells #[.bool x208000_2, .int .u64 x208001_2, .int .u64 x208002_2] 25 (0, 0))) ∧ Aside0 (w'.heap[gb227]? = some (.cells #[.bool true, .int .u64 x228001_2, .int .u64 x228002_2] 25 (0, 0))) ∧ Aside0 (Below w.heap.size w w'))
   case atStart => exact ⟨(0), (0), (0), (by first | rfl | (simp; done) | (simp [*]; done)), H', ⟨Nat.le_refl _⟩, ⟨by (with_reducible repeat (first | apply Kd.R_alloc | apply Kd.R_drewN | apply Kd.R_drew)); exact Kd.R_mono (Kd.R_far (p := ⟨gb227, 2, none⟩) (Kd.R_far (p := ⟨gb227, 1, none⟩) (Kd.R_far (p := ⟨gb227, 0, none⟩) (Kd.R_types HO_4.out BK227.out (by decide)) (fun _ hk => hk.2) (.bool true)) (fun _ hk => hk.2) (.int .u64 0)) (fun _ hk => hk.2) (.int .u64 0)) (fun _ hk => trivial)⟩, ⟨by refine zL ?_; refine blk_far ?_ NB207_227.out _; refine zL ?_; refine blk_far ?_ NB207_227.out _; refine zL ?_; refine blk_far ?_ NB207_227.out _; refine zL ?_; exact BK207.out⟩, ⟨by refine zL ?_; refine blk_put (cs := #[.bool true, .int .u64 0, .int .u64 0]) ?_ 2 _ rfl; refine zL ?_; refine blk_put (cs := #[.bool true, .int .u64 0, .int .u64 0]) ?_ 1 _ rfl; refine zL ?_; refine blk_put (cs := #[.bool false, .int .u64 0, .int .u64 0]) ?_ 0 _ rfl; refine zL ?_; exact BK227.out⟩, ⟨zB HB⟩⟩
   case round =>
    clear H'
    try clear c1
    try clear c2
    try clear p2
    try clear c3
    try clear c4
    try clear c5
    try clear c5b0
    try clear c6
    try clear p6
    try clear c7
    try clear c8
    try clear c8b0
    try clear c8b1
    try clear c16
    try clear c16b0
    try clear c16b1
    try clear c17
    try clear c17b0
    try clear c17b1
    try clear c20
    try clear c20b0
    try clear c20b1
    try clear c21
    try clear c21b0
    try clear c21b1
    try clear c26
    try clear c27
    try clear c30
    try clear c32
    try clear c32b0
    try clear c33
    try clear c37
    try clear c42
    try clear hcz13_0
    try clear hcz13_1
    try clear hcz13_2
    try clear hcz15_0
    try clear hcz15_1
    try clear hcz15_2
    try clear hcz31_0
    try clear hcz31_1
    try clear hcz31_2
    try clear hcz43_0
    try clear hcz43_1
    try clear hcz43_2
    try clear hfz13_0
    try clear hfz13_1
    try clear hfz13_2
    try clear hfz15_0
    try clear hfz15_1
    try clear hfz15_2
    try clear hfz31_0
    try clear hfz31_1
    try clear hfz31_2
    try clear hfz43_0
    try clear hfz43_1
    try clear hfz43_2
    try clear p2
    try clear p6
    obtain ⟨x13_2, x228001_2, x228002_2, rfl, HA, HK2, HO_4, BK207, BK227, HB⟩ := hrel
    cases gk with
    | zero => exact absurd HA.out (by simp [intrusionref06_parse6.l1])
    | succ k2 =>
     have H := HA.out
     clear HA
     simp only [intrusionref06_parse6.l1] at H
     by_cases c44 : x13_2 < 4
     · rw [if_pos c44] at H
       have c44b0 : decide (x13_2 < 4) = true := decide_eq_true c44
       clear c44
       by_cases c45 : 0 ≤ x13_2
       · rw [if_pos c45] at H
         have c45b0 : decide (0 ≤ x13_2) = true := decide_eq_true c45
         clear c45
         by_cases c46 : x13_2 < (x4_2.length : Int)
         · rw [if_pos c46] at H
           have c46b0 : decide (x13_2 < (x4_2.length : Int)) = true := decide_eq_true c46
           clear c46
           obtain ⟨ji47, hji47⟩ : ∃ j_ : Int, (wrap64 (x13_2 + 4)) = j_ := ⟨_, rfl⟩
           replace H : (if 0 ≤ (ji47) then (if (ji47) < (x4_2.length : Int) then (intrusionref06_parse6.l1 k2 x4_2 (wrap64 (x13_2 + 1)) true (Go.bits .or .u64 (IntKind.u64.wrap (x228001_2 * 65536)) (IntKind.u64.wrap (rd x4_2 x13_2))) (Go.bits .or .u64 (IntKind.u64.wrap (x228002_2 * 65536)) (IntKind.u64.wrap (rd x4_2 (ji47))))) else (none)) else (none)) = some (r1, r2, r3, r4) := by first | (rw [hji47] at H; exact H) | (simp only [hji47] at H ⊢; exact H)
           have hji47w : (IntKind.i64.wrap (x13_2 + 4)) = ji47 := (i64_w _).trans hji47
           by_cases c48 : 0 ≤ (ji47)
           · rw [if_pos c48] at H
             have c48b0 : decide (0 ≤ (ji47)) = true := decide_eq_true c48
             clear c48
             by_cases c49 : (ji47) < (x4_2.length : Int)
             · rw [if_pos c49] at H
               have c49b0 : decide ((ji47) < (x4_2.length : Int)) = true := decide_eq_true c49
               clear c49
               have H' := Aside0.mk H
               clear H
               try go_wp2
               replace HO_4 := Aside0.mk (Kd.R_drew HO_4.out)
               replace BK207 := Aside0.mk (blk_drew BK207.out)
               replace BK227 := Aside0.mk (blk_drew BK227.out)
               replace HB := Aside0.mk (below_drew1 HB.out)
               obtain ⟨Ao51, co51, eo51⟩ := Kd.R_slice HO_4.out
               (first | subst eo51 | (injection eo51 with f1_ f2_ f3_; have f4_ := f1_.symm; have f5_ := f3_.symm; clear f1_ f2_ f3_; subst f4_; subst f5_))
               have p228 : 0 ≤ (x13_2 : Int) := za
               have q228 : x13_2 < (x4_2.length : Int) := za
               obtain ⟨ad228, e228, hx228_0⟩ := Kd.at_int (Kd.R_reads' HO_4.out).2.2 x13_2 p228 q228
               cases e228
               replace p228 := eq_true p228
               replace q228 := eq_true q228
               refine start_ (n := 11) (S := fun w' => w'.cell? ⟨gb227, 0, none⟩ = some (.bool true) ∧ w'.cell? ⟨gb227, 1, none⟩ = some (.int .u64 x228001_2) ∧ w'.cell? ⟨gb227, 2, none⟩ = some (.int .u64 x228002_2) ∧ w'.cell? (ad228.add (x13_2).toNat) = some (.int .i64 (rd x4_2 x13_2))) (ds := [10]) #[false, false, false, false, false, false, false, false, false, false, false] (by kernel_rfl) rfl rfl ⟨zc BK227 0, zc BK227 1, zc BK227 2, hx228_0⟩ (fun hHeld => ?_); refine with_tabW intrusionref06_parse6.tab19 intrusionref06_parse6.bits19 (fun HT_ HW_ => ?_)
               generalize wr.drew = w50 at HO_4 BK207 BK227 HB hx228_0 hHeld ⊢
               refine zp 0 79 HT_ ?_; refine zp 3 82 HT_ ?_; refine zp 4 83 HT_ ?_; refine zp 5 84 HT_ ?_; refine zt 1 80 HT_ HW_ hHeld ?_; refine zp 2 81 HT_ ?_; refine zt 6 85 HT_ HW_ hHeld ?_; refine zp 7 86 HT_ ?_; refine zp 8 87 HT_ ?_; refine zp 9 88 HT_ ?_
               refine last_ (i := 10) (N := none) #[true, true, true, true, true, true, true, true, true, true, true] rfl rfl (one_of HT_.out (by kernel_rfl)) (by decide) (fun K hK => ?_)
               have hs52 : w50.cell? ⟨gb227, 1, none⟩ = some (.int .u64 x228001_2) := zc BK227 1
               have hfs52 := blk_frozen BK227.out 1
               have hns52_0 := NB207_227.out
               have hms52_0 := NB227_207.out
               refine skip_ (w1 := ?_) (by rfl) rfl ?_ ?_
               rotate_left
               · go_simp
                 rfl
               refine hK.out _ _ ?_
               clear hK K
               refine zd HT_ ?_
               try go_wp2
               have n0_ : Aside0 (Kd.R (Kd.int .i64) 3 (w50.setCell ⟨gb227, 1, none⟩ (.int .u64 (Go.bits .or .u64 (IntKind.u64.wrap (x228001_2 * 65536)) (IntKind.u64.wrap (rd x4_2 x13_2))))) w.heap.size (fun _ => True) (.slice (some ad228) x4_2.length co51) x4_2) := ⟨by (with_reducible repeat (first | apply Kd.R_alloc | apply Kd.R_drewN | apply Kd.R_drew)); exact Kd.R_mono (Kd.R_far (p := ⟨gb227, 1, none⟩) (Kd.R_types HO_4.out BK227.out (by decide)) (fun _ hk => hk.2) (.int .u64 (Go.bits .or .u64 (IntKind.u64.wrap (x228001_2 * 65536)) (IntKind.u64.wrap (rd x4_2 x13_2))))) (fun _ hk => trivial)⟩
               have n1_ : Aside0 ((w50.setCell ⟨gb227, 1, none⟩ (.int .u64 (Go.bits .or .u64 (IntKind.u64.wrap (x228001_2 * 65536)) (IntKind.u64.wrap (rd x4_2 x13_2))))).heap[gb207]? = some (.cells #[.bool x208000_2, .int .u64 x208001_2, .int .u64 x208002_2] 25 (0, 0))) := ⟨by refine zL ?_; refine blk_far ?_ NB207_227.out _; refine zL ?_; exact BK207.out⟩
               have n2_ : Aside0 ((w50.setCell ⟨gb227, 1, none⟩ (.int .u64 (Go.bits .or .u64 (IntKind.u64.wrap (x228001_2 * 65536)) (IntKind.u64.wrap (rd x4_2 x13_2))))).heap[gb227]? = some (.cells #[.bool true, .int .u64 (Go.bits .or .u64 (IntKind.u64.wrap (x228001_2 * 65536)) (IntKind.u64.wrap (rd x4_2 x13_2))), .int .u64 x228002_2] 25 (0, 0))) := ⟨by refine zL ?_; refine blk_put (cs := #[.bool true, .int .u64 x228001_2, .int .u64 x228002_2]) ?_ 1 _ rfl; refine zL ?_; exact BK227.out⟩
               have n3_ : Aside0 (Below w.heap.size w (w50.setCell ⟨gb227, 1, none⟩ (.int .u64 (Go.bits .or .u64 (IntKind.u64.wrap (x228001_2 * 65536)) (IntKind.u64.wrap (rd x4_2 x13_2)))))) := ⟨zB HB⟩
               (try clear HO_4)
               (try clear BK207)
               (try clear BK227)
               (try clear HB)
               generalize (w50.setCell ⟨gb227, 1, none⟩ (.int .u64 (Go.bits .or .u64 (IntKind.u64.wrap (x228001_2 * 65536)) (IntKind.u64.wrap (rd x4_2 x13_2))))) = w53 at n0_ n1_ n2_ n3_ ⊢
               have HO_4 := n0_
               have BK207 := n1_
               have BK227 := n2_
               have HB := n3_
               clear n0_ n1_ n2_ n3_
               replace HO_4 := Aside0.mk (Kd.R_drew HO_4.out)
               replace BK207 := Aside0.mk (blk_drew BK207.out)
               replace BK227 := Aside0.mk (blk_drew BK227.out)
               replace HB := Aside0.mk (below_drew1 HB.out)
               have p229 : 0 ≤ ((ji47) : Int) := za
               have q229 : (ji47) < (x4_2.length : Int) := za
               obtain ⟨ad229, e229, hx229_0⟩ := Kd.at_int (Kd.R_reads' HO_4.out).2.2 (ji47) p229 q229
               obtain rfl : ad228 = ad229 := (by injection e229)
               replace p229 := eq_true p229
               replace q229 := eq_true q229
               refine start_ (n := 12) (S := fun w' => w'.cell? ⟨gb227, 0, none⟩ = some (.bool true) ∧ w'.cell? ⟨gb227, 1, none⟩ = some (.int .u64 (Go.bits .or .u64 (IntKind.u64.wrap (x228001_2 * 65536)) (IntKind.u64.wrap (rd x4_2 x13_2)))) ∧ w'.cell? ⟨gb227, 2, none⟩ = some (.int .u64 x228002_2) ∧ w'.cell? (ad228.add ((ji47)).toNat) = some (.int .i64 (rd x4_2 (ji47)))) (ds := [11]) #[false, false, false, false, false, false, false, false, false, false, false, false] (by kernel_rfl) rfl rfl ⟨zc BK227 0, zc BK227 1, zc BK227 2, hx229_0⟩ (fun hHeld => ?_); refine with_tabW intrusionref06_parse6.tab20 intrusionref06_parse6.bits20 (fun HT_ HW_ => ?_)
               generalize w53.drew = w54 at HO_4 BK207 BK227 HB hx229_0 hHeld ⊢
               refine zp 0 89 HT_ ?_; refine zp 3 92 HT_ ?_; refine zp 4 93 HT_ ?_; refine zp 5 94 HT_ ?_; refine zp 6 95 HT_ ?_; refine zt 1 90 HT_ HW_ hHeld ?_; refine zp 2 91 HT_ ?_; refine zt 7 96 HT_ HW_ hHeld ?_; refine zp 8 97 HT_ ?_; refine zp 9 98 HT_ ?_; refine zp 10 99 HT_ ?_
               refine last_ (i := 11) (N := none) #[true, true, true, true, true, true, true, true, true, true, true, true] rfl rfl (one_of HT_.out (by kernel_rfl)) (by decide) (fun K hK => ?_)
               have hs55 : w54.cell? ⟨gb227, 2, none⟩ = some (.int .u64 x228002_2) := zc BK227 2
               have hfs55 := blk_frozen BK227.out 2
               have hns55_0 := NB207_227.out
               have hms55_0 := NB227_207.out
               refine skip_ (w1 := ?_) (by rfl) rfl ?_ ?_
               rotate_left
               · go_simp
                 rfl
               refine hK.out _ _ ?_
               clear hK K
               refine zd HT_ ?_
               try go_wp2
               go_roundg k2
               case measure => have := HJ2.out; have := HK2.out; omega
               case rel => exact ⟨(wrap64 (x13_2 + 1)), (Go.bits .or .u64 (IntKind.u64.wrap (x228001_2 * 65536)) (IntKind.u64.wrap (rd x4_2 x13_2))), (Go.bits .or .u64 (IntKind.u64.wrap (x228002_2 * 65536)) (IntKind.u64.wrap (rd x4_2 (ji47)))), (by first | rfl | (simp; done) | (simp [*]; done)), H', ⟨by have := HJ2.out; have := HK2.out; omega⟩, ⟨by (with_reducible repeat (first | apply Kd.R_alloc | apply Kd.R_drewN | apply Kd.R_drew)); exact Kd.R_mono (Kd.R_far (p := ⟨gb227, 2, none⟩) (Kd.R_types HO_4.out BK227.out (by decide)) (fun _ hk => hk.2) (.int .u64 (Go.bits .or .u64 (IntKind.u64.wrap (x228002_2 * 65536)) (IntKind.u64.wrap (rd x4_2 (ji47)))))) (fun _ hk => trivial)⟩, ⟨by refine zL ?_; refine blk_far ?_ NB207_227.out _; refine zL ?_; exact BK207.out⟩, ⟨by refine zL ?_; refine blk_put (cs := #[.bool true, .int .u64 (Go.bits .or .u64 (IntKind.u64.wrap (x228001_2 * 65536)) (IntKind.u64.wrap (rd x4_2 x13_2))), .int .u64 x228002_2]) ?_ 2 _ rfl; refine zL ?_; exact BK227.out⟩, ⟨zB HB⟩⟩
             · rw [if_neg c49] at H
               exact absurd H (by simp)
           · rw [if_neg c48] at H
             exact absurd H (by simp)
         · rw [if_neg c46] at H
           exact absurd H (by simp)
       · rw [if_neg c45] at H
         exact absurd H (by simp)
     · rw [if_neg c44] at H
       have c44b0 : decide (x13_2 < 4) = false := decide_eq_false c44
       clear c44
       simp only [Option.some.injEq, Prod.mk.injEq] at H
       obtain ⟨rfl, rfl, rfl, rfl⟩ := H
       have hnb56 := NB227_207.out
       have hnc56 := NB207_227.out
       obtain ⟨hcz57_0, hcz57_1, hcz57_2⟩ := zc3 BK227
       obtain ⟨hfz57_0, hfz57_1, hfz57_2⟩ := zf3 BK227
       obtain ⟨hcz58_0, hcz58_1, hcz58_2⟩ := zc3 BK207
       obtain ⟨hfz58_0, hfz58_1, hfz58_2⟩ := zf3 BK207
       go_wp2
       refine bodyPost_ret (results_ct rfl _ _ gb207 25 #[.bool true, .int .u64 x228001_2, .int .u64 x228002_2] (0, 0) _ rfl (by refine zL ?_; refine blk_put (cs := #[.bool true, .int .u64 x228001_2, .int .u64 x208002_2]) ?_ 2 _ rfl; refine zL ?_; refine blk_put (cs := #[.bool true, .int .u64 x208001_2, .int .u64 x208002_2]) ?_ 1 _ rfl; refine zL ?_; refine blk_put (cs := #[.bool x208000_2, .int .u64 x208001_2, .int .u64 x208002_2]) ?_ 0 _ rfl; refine zL ?_; exact BK207.out) Tryd.underlying25 rfl (by kernel_rfl)) rfl ?_
       exact ⟨by first | rfl | (simp [errW_none, errW_some] <;> rfl) | (simp [*, errW_none, errW_some] <;> rfl), by repeat (first | (with_reducible first | exact HB.out | apply below_alloc | apply pw_below_drewN | apply below_drew1 | refine below_set ?_ GE207.out | refine below_set ?_ GE227.out) | exact HB.out)⟩
end Go.Proofs.YtlgfinnldhjgeaaDoor.Q
end

section
namespace Go.Proofs.YtlgfinnldhjgeaaDoor.Q
open Go.RowKit Go.Proofs.YtlgfinnldhjgeaaDoorW.PrintWords Go.Proofs.YtlgfinnldhjgeaaDoorW.PrintLast Go.Proofs.YtlgfinnldhjgeaaDoorW.PrintMore
attribute [local go_sem] max2_int min2_int max_two min_two max_three min_three max_four min_four
set_option linter.unusedVariables false
set_option linter.unusedSimpArgs false
def intrusionref06_Parse.f (k : Nat) (a0 : ByteArray) : Option (Bool × Int × Int × Int) := if (a0.size : Int) > 64 then (some (false, 0, 0, 3)) else ((intrusionref06_parse4.f k a0).bind fun bt231 => (if bt231.2.2.2 = true then (some (bt231.1, bt231.2.1, bt231.2.2.1, 0)) else ((intrusionref06_parse6.f k a0).bind fun bt236 => (if bt236.2.2.2 = true then (some (bt236.1, bt236.2.1, bt236.2.2.1, 0)) else (some (false, 0, 0, 2))))))
theorem intrusionref06_Parse.mono : ∀ a0 k, LeO (intrusionref06_Parse.f k a0) (intrusionref06_Parse.f (k + 1) a0) := by
  intro a0 k
  unfold intrusionref06_Parse.f
  repeat' first
      | (with_reducible exact intrusionref06_parse4.mono _ _)
      | (with_reducible exact intrusionref06_parse6.mono _ _)
      | (with_reducible exact LeO.refl _)
      | (with_reducible exact LeO.none _)
      | (with_reducible refine LeO.ite ?_ ?_)
      | (with_reducible refine LeO.bind ?_ (fun _ => ?_))
      | exact intrusionref06_parse4.mono _ _
      | exact intrusionref06_parse6.mono _ _
      | exact LeO.none _
      | refine LeO.ite ?_ ?_
      | refine LeO.bind ?_ (fun _ => ?_)
set_option maxHeartbeats 8000000 in
set_option maxRecDepth 100000 in
theorem intrusionref06_Parse.calls (k : Nat) (a0 : ByteArray) (r1 : Bool) (r2 : Int) (r3 : Int) (r4 : Int) (w : World) (h : intrusionref06_Parse.f k a0 = some (r1, r2, r3, r4)) :
 Calls Tryd.prog 12 #[.string a0] w fun e w' => e = .returned (.tuple #[.agg #[.bool r1, .int .u64 r2, .int .u64 r3], .int .i64 r4]) ∧ Below w.heap.size w w' := by
 have hu25 := Tryd.underlying25
 have HB := Aside0.mk (Below.refl w.heap.size w)
 unfold intrusionref06_Parse.f at h; have H := h
 clear h
 by_cases c2 : (a0.size : Int) > 64
 · rw [if_pos c2] at H
   have c2b0 : decide (64 < (a0.size : Int)) = true := decide_eq_true c2
   have c2b1 : decide (64 < a0.size) = true := decide_eq_true (by omega)
   clear c2
   simp only [Option.some.injEq, Prod.mk.injEq] at H
   obtain ⟨rfl, rfl, rfl, rfl⟩ := H
   go_enter Tryd.func12, Tryd.ntmps12
   go_wp2_with (first | ((with_reducible refine gate_dst (N := 2) rfl ?_); refine zx 2 #[.bool false, .int .u64 0, .int .u64 0] 25 ?_; intro gb230 hg w3 hbox hb; have BK230 := Aside0.mk (hbox); have GW230 := Aside0.mk ((by rw [hg]; exact (below_size (zB HB)) : w.heap.size ≤ gb230)); have GE230 := Aside0.mk ((by rw [hg]; exact (below_size (zB HB)) : w.heap.size ≤ gb230)); replace HB := Aside0.mk (below_step (zB HB) hb); clear hb hbox hg; obtain ⟨hcz4_0, hcz4_1, hcz4_2⟩ := zc3 BK230; obtain ⟨hfz4_0, hfz4_1, hfz4_2⟩ := zf3 BK230))
   refine bodyPost_ret (results_ct rfl _ _ gb230 25 #[.bool false, .int .u64 0, .int .u64 0] (0, 0) _ rfl (by refine zL ?_; refine blk_put (cs := #[.bool false, .int .u64 0, .int .u64 0]) ?_ 2 _ rfl; refine zL ?_; refine blk_put (cs := #[.bool false, .int .u64 0, .int .u64 0]) ?_ 1 _ rfl; refine zL ?_; refine blk_put (cs := #[.bool false, .int .u64 0, .int .u64 0]) ?_ 0 _ rfl; refine zL ?_; exact BK230.out) Tryd.underlying25 rfl (by kernel_rfl)) rfl ?_
   exact ⟨by first | rfl | (simp [errW_none, errW_some] <;> rfl) | (simp [*, errW_none, errW_some] <;> rfl), by repeat (first | (with_reducible first | exact HB.out | apply below_alloc | apply pw_below_drewN | apply below_drew1 | refine below_set ?_ GE230.out) | exact HB.out)⟩
 · rw [if_neg c2] at H
   have c2b0 : decide (64 < (a0.size : Int)) = false := decide_eq_false c2
   have c2b1 : decide (64 < a0.size) = false := decide_eq_false (by omega)
   clear c2
   replace H := Option.bind_eq_some_iff.mp H
   obtain ⟨⟨t231, t232, t233, t234⟩, A50, H⟩ := H
   replace H : (if t234 = true then (some (t231, t232, t233, 0)) else ((intrusionref06_parse6.f k a0).bind fun bt236 => (if bt236.2.2.2 = true then (some (bt236.1, bt236.2.1, bt236.2.2.1, 0)) else (some (false, 0, 0, 2))))) = some (r1, r2, r3, r4) := H
   have A5 := Aside0.mk A50
   clear A50
   by_cases c6 : t234 = true
   · subst c6
     rw [if_pos rfl] at H
     simp only [Option.some.injEq, Prod.mk.injEq] at H
     obtain ⟨rfl, rfl, rfl, rfl⟩ := H
     go_enter Tryd.func12, Tryd.ntmps12
     go_wp2_with (first | ((with_reducible refine gate_dst (N := 2) rfl ?_); refine zx 2 #[.bool false, .int .u64 0, .int .u64 0] 25 ?_; intro gb230 hg w7 hbox hb; have BK230 := Aside0.mk (hbox); have GW230 := Aside0.mk ((by rw [hg]; exact (below_size (zB HB)) : w.heap.size ≤ gb230)); have GE230 := Aside0.mk ((by rw [hg]; exact (below_size (zB HB)) : w.heap.size ≤ gb230)); replace HB := Aside0.mk (below_step (zB HB) hb); clear hb hbox hg) | ((with_reducible refine gate_callee (f := 41) rfl ?_); refine goesL_ (some 12) rfl rfl Tryd.func41 (by kernel_rfl) rfl #[.string a0] rfl (by (try simp only [List.map_toArray, List.map_cons, List.map_nil]); first | done | rfl | (simp only [List.length_drop, List.length_take]; rfl)) ?_; (with_reducible refine (intrusionref06_parse4.calls k a0 t231 t232 t233 true _ A5.out).mono ?_); rintro e w8 ⟨rfl, hb⟩; refine ⟨_, rfl, ?_⟩; replace BK230 := Aside0.mk (blk_below (g := gb230) (o := .cells #[.bool false, .int .u64 0, .int .u64 0] 25 (0, 0)) (zK BK230) hb); replace HB := Aside0.mk (below_step (zB HB) hb); (try clear hb)) | ((with_reducible refine gate_dst (N := 4) rfl ?_); refine zx 4 #[.bool false, .int .u64 0, .int .u64 0] 25 ?_; intro gb235 hg w9 hbox hb; have BK235 := Aside0.mk (hbox); have GW235 := Aside0.mk ((by rw [hg]; exact (below_size (zB HB)) : w.heap.size ≤ gb235)); have GE235 := Aside0.mk ((by rw [hg]; exact (below_size (zB HB)) : w.heap.size ≤ gb235)); replace HB := Aside0.mk (below_step (zB HB) hb); have NB230_235 := Aside0.mk ((by rw [hg]; exact Nat.ne_of_lt (blk_lt (g := gb230) (o := .cells #[.bool false, .int .u64 0, .int .u64 0] 25 (0, 0)) (zK BK230)) : gb230 ≠ gb235)); have NB235_230 := Aside0.mk ((by rw [hg]; exact Nat.ne_of_gt (blk_lt (g := gb230) (o := .cells #[.bool false, .int .u64 0, .int .u64 0] 25 (0, 0)) (zK BK230)) : gb235 ≠ gb230)); replace BK230 := Aside0.mk (blk_below (g := gb230) (o := .cells #[.bool false, .int .u64 0, .int .u64 0] 25 (0, 0)) (zK BK230) hb); clear hb hbox hg; have hnb10 := NB235_230.out; have hnc10 := NB230_235.out; obtain ⟨hcz11_0, hcz11_1, hcz11_2⟩ := zc3 BK235; obtain ⟨hfz11_0, hfz11_1, hfz11_2⟩ := zf3 BK235; obtain ⟨hcz12_0, hcz12_1, hcz12_2⟩ := zc3 BK230; obtain ⟨hfz12_0, hfz12_1, hfz12_2⟩ := zf3 BK230))
     refine bodyPost_ret (results_ct rfl _ _ gb230 25 #[.bool t231, .int .u64 t232, .int .u64 t233] (0, 0) _ rfl (by refine zL ?_; refine blk_put (cs := #[.bool t231, .int .u64 t232, .int .u64 0]) ?_ 2 _ rfl; refine zL ?_; refine blk_put (cs := #[.bool t231, .int .u64 0, .int .u64 0]) ?_ 1 _ rfl; refine zL ?_; refine blk_put (cs := #[.bool false, .int .u64 0, .int .u64 0]) ?_ 0 _ rfl; refine zL ?_; refine blk_far ?_ NB230_235.out _; refine zL ?_; refine blk_far ?_ NB230_235.out _; refine zL ?_; refine blk_far ?_ NB230_235.out _; refine zL ?_; exact BK230.out) Tryd.underlying25 rfl (by kernel_rfl)) rfl ?_
     exact ⟨by first | rfl | (simp [errW_none, errW_some] <;> rfl) | (simp [*, errW_none, errW_some] <;> rfl), by repeat (first | (with_reducible first | exact HB.out | apply below_alloc | apply pw_below_drewN | apply below_drew1 | refine below_set ?_ GE230.out | refine below_set ?_ GE235.out) | exact HB.out)⟩
   · replace c6 := Bool.eq_false_iff.mpr c6
     subst c6
     rw [if_neg zF] at H
     replace H := Option.bind_eq_some_iff.mp H
     obtain ⟨⟨t236, t237, t238, t239⟩, A130, H⟩ := H
     replace H : (if t239 = true then (some (t236, t237, t238, 0)) else (some (false, 0, 0, 2))) = some (r1, r2, r3, r4) := H
     have A13 := Aside0.mk A130
     clear A130
     by_cases c14 : t239 = true
     · subst c14
       rw [if_pos rfl] at H
       simp only [Option.some.injEq, Prod.mk.injEq] at H
       obtain ⟨rfl, rfl, rfl, rfl⟩ := H
       go_enter Tryd.func12, Tryd.ntmps12
       go_wp2_with (first | ((with_reducible refine gate_dst (N := 2) rfl ?_); refine zx 2 #[.bool false, .int .u64 0, .int .u64 0] 25 ?_; intro gb230 hg w15 hbox hb; have BK230 := Aside0.mk (hbox); have GW230 := Aside0.mk ((by rw [hg]; exact (below_size (zB HB)) : w.heap.size ≤ gb230)); have GE230 := Aside0.mk ((by rw [hg]; exact (below_size (zB HB)) : w.heap.size ≤ gb230)); replace HB := Aside0.mk (below_step (zB HB) hb); clear hb hbox hg) | ((with_reducible refine gate_callee (f := 41) rfl ?_); refine goesL_ (some 12) rfl rfl Tryd.func41 (by kernel_rfl) rfl #[.string a0] rfl (by (try simp only [List.map_toArray, List.map_cons, List.map_nil]); first | done | rfl | (simp only [List.length_drop, List.length_take]; rfl)) ?_; (with_reducible refine (intrusionref06_parse4.calls k a0 t231 t232 t233 false _ A5.out).mono ?_); rintro e w16 ⟨rfl, hb⟩; refine ⟨_, rfl, ?_⟩; replace BK230 := Aside0.mk (blk_below (g := gb230) (o := .cells #[.bool false, .int .u64 0, .int .u64 0] 25 (0, 0)) (zK BK230) hb); replace HB := Aside0.mk (below_step (zB HB) hb); (try clear hb)) | ((with_reducible refine gate_dst (N := 4) rfl ?_); refine zx 4 #[.bool false, .int .u64 0, .int .u64 0] 25 ?_; intro gb235 hg w17 hbox hb; have BK235 := Aside0.mk (hbox); have GW235 := Aside0.mk ((by rw [hg]; exact (below_size (zB HB)) : w.heap.size ≤ gb235)); have GE235 := Aside0.mk ((by rw [hg]; exact (below_size (zB HB)) : w.heap.size ≤ gb235)); replace HB := Aside0.mk (below_step (zB HB) hb); have NB230_235 := Aside0.mk ((by rw [hg]; exact Nat.ne_of_lt (blk_lt (g := gb230) (o := .cells #[.bool false, .int .u64 0, .int .u64 0] 25 (0, 0)) (zK BK230)) : gb230 ≠ gb235)); have NB235_230 := Aside0.mk ((by rw [hg]; exact Nat.ne_of_gt (blk_lt (g := gb230) (o := .cells #[.bool false, .int .u64 0, .int .u64 0] 25 (0, 0)) (zK BK230)) : gb235 ≠ gb230)); replace BK230 := Aside0.mk (blk_below (g := gb230) (o := .cells #[.bool false, .int .u64 0, .int .u64 0] 25 (0, 0)) (zK BK230) hb); clear hb hbox hg; have hnb18 := NB235_230.out; have hnc18 := NB230_235.out; obtain ⟨hcz19_0, hcz19_1, hcz19_2⟩ := zc3 BK235; obtain ⟨hfz19_0, hfz19_1, hfz19_2⟩ := zf3 BK235) | ((with_reducible refine gate_callee (f := 42) rfl ?_); refine goesL_ (some 19) rfl rfl Tryd.func42 (by kernel_rfl) rfl #[.string a0] rfl (by (try simp only [List.map_toArray, List.map_cons, List.map_nil]); first | done | rfl | (simp only [List.length_drop, List.length_take]; rfl)) ?_; (with_reducible refine (intrusionref06_parse6.calls k a0 t236 t237 t238 true _ A13.out).mono ?_); rintro e w20 ⟨rfl, hb⟩; refine ⟨_, rfl, ?_⟩; replace BK230 := Aside0.mk (blk_below (g := gb230) (o := .cells #[.bool false, .int .u64 0, .int .u64 0] 25 (0, 0)) (by refine zL ?_; refine blk_far ?_ NB230_235.out _; refine zL ?_; refine blk_far ?_ NB230_235.out _; refine zL ?_; refine blk_far ?_ NB230_235.out _; refine zL ?_; exact BK230.out) hb); replace BK235 := Aside0.mk (blk_below (g := gb235) (o := .cells #[.bool t231, .int .u64 t232, .int .u64 t233] 25 (0, 0)) (by refine zL ?_; refine blk_put (cs := #[.bool t231, .int .u64 t232, .int .u64 0]) ?_ 2 _ rfl; refine zL ?_; refine blk_put (cs := #[.bool t231, .int .u64 0, .int .u64 0]) ?_ 1 _ rfl; refine zL ?_; refine blk_put (cs := #[.bool false, .int .u64 0, .int .u64 0]) ?_ 0 _ rfl; refine zL ?_; exact BK235.out) hb); replace HB := Aside0.mk (below_step (zB HB) hb); (try clear hb); obtain ⟨hcz21_0, hcz21_1, hcz21_2⟩ := zc3 BK235; obtain ⟨hfz21_0, hfz21_1, hfz21_2⟩ := zf3 BK235; obtain ⟨hcz22_0, hcz22_1, hcz22_2⟩ := zc3 BK230; obtain ⟨hfz22_0, hfz22_1, hfz22_2⟩ := zf3 BK230))
       refine bodyPost_ret (results_ct rfl _ _ gb230 25 #[.bool t236, .int .u64 t237, .int .u64 t238] (0, 0) _ rfl (by refine zL ?_; refine blk_put (cs := #[.bool t236, .int .u64 t237, .int .u64 0]) ?_ 2 _ rfl; refine zL ?_; refine blk_put (cs := #[.bool t236, .int .u64 0, .int .u64 0]) ?_ 1 _ rfl; refine zL ?_; refine blk_put (cs := #[.bool false, .int .u64 0, .int .u64 0]) ?_ 0 _ rfl; refine zL ?_; refine blk_far ?_ NB230_235.out _; refine zL ?_; refine blk_far ?_ NB230_235.out _; refine zL ?_; refine blk_far ?_ NB230_235.out _; refine zL ?_; exact BK230.out) Tryd.underlying25 rfl (by kernel_rfl)) rfl ?_
       exact ⟨by first | rfl | (simp [errW_none, errW_some] <;> rfl) | (simp [*, errW_none, errW_some] <;> rfl), by repeat (first | (with_reducible first | exact HB.out | apply below_alloc | apply pw_below_drewN | apply below_drew1 | refine below_set ?_ GE230.out | refine below_set ?_ GE235.out) | exact HB.out)⟩
     · replace c14 := Bool.eq_false_iff.mpr c14
       subst c14
       rw [if_neg zF] at H
       simp only [Option.some.injEq, Prod.mk.injEq] at H
       obtain ⟨rfl, rfl, rfl, rfl⟩ := H
       go_enter Tryd.func12, Tryd.ntmps12
       go_wp2_with (first | ((with_reducible refine gate_dst (N := 2) rfl ?_); refine zx 2 #[.bool false, .int .u64 0, .int .u64 0] 25 ?_; intro gb230 hg w23 hbox hb; have BK230 := Aside0.mk (hbox); have GW230 := Aside0.mk ((by rw [hg]; exact (below_size (zB HB)) : w.heap.size ≤ gb230)); have GE230 := Aside0.mk ((by rw [hg]; exact (below_size (zB HB)) : w.heap.size ≤ gb230)); replace HB := Aside0.mk (below_step (zB HB) hb); clear hb hbox hg) | ((with_reducible refine gate_callee (f := 41) rfl ?_); refine goesL_ (some 12) rfl rfl Tryd.func41 (by kernel_rfl) rfl #[.string a0] rfl (by (try simp only [List.map_toArray, List.map_cons, List.map_nil]); first | done | rfl | (simp only [List.length_drop, List.length_take]; rfl)) ?_; (with_reducible refine (intrusionref06_parse4.calls k a0 t231 t232 t233 false _ A5.out).mono ?_); rintro e w24 ⟨rfl, hb⟩; refine ⟨_, rfl, ?_⟩; replace BK230 := Aside0.mk (blk_below (g := gb230) (o := .cells #[.bool false, .int .u64 0, .int .u64 0] 25 (0, 0)) (zK BK230) hb); replace HB := Aside0.mk (below_step (zB HB) hb); (try clear hb)) | ((with_reducible refine gate_dst (N := 4) rfl ?_); refine zx 4 #[.bool false, .int .u64 0, .int .u64 0] 25 ?_; intro gb235 hg w25 hbox hb; have BK235 := Aside0.mk (hbox); have GW235 := Aside0.mk ((by rw [hg]; exact (below_size (zB HB)) : w.heap.size ≤ gb235)); have GE235 := Aside0.mk ((by rw [hg]; exact (below_size (zB HB)) : w.heap.size ≤ gb235)); replace HB := Aside0.mk (below_step (zB HB) hb); have NB230_235 := Aside0.mk ((by rw [hg]; exact Nat.ne_of_lt (blk_lt (g := gb230) (o := .cells #[.bool false, .int .u64 0, .int .u64 0] 25 (0, 0)) (zK BK230)) : gb230 ≠ gb235)); have NB235_230 := Aside0.mk ((by rw [hg]; exact Nat.ne_of_gt (blk_lt (g := gb230) (o := .cells #[.bool false, .int .u64 0, .int .u64 0] 25 (0, 0)) (zK BK230)) : gb235 ≠ gb230)); replace BK230 := Aside0.mk (blk_below (g := gb230) (o := .cells #[.bool false, .int .u64 0, .int .u64 0] 25 (0, 0)) (zK BK230) hb); clear hb hbox hg; have hnb26 := NB235_230.out; have hnc26 := NB230_235.out; obtain ⟨hcz27_0, hcz27_1, hcz27_2⟩ := zc3 BK235; obtain ⟨hfz27_0, hfz27_1, hfz27_2⟩ := zf3 BK235) | ((with_reducible refine gate_callee (f := 42) rfl ?_); refine goesL_ (some 19) rfl rfl Tryd.func42 (by kernel_rfl) rfl #[.string a0] rfl (by (try simp only [List.map_toArray, List.map_cons, List.map_nil]); first | done | rfl | (simp only [List.length_drop, List.length_take]; rfl)) ?_; (with_reducible refine (intrusionref06_parse6.calls k a0 t236 t237 t238 false _ A13.out).mono ?_); rintro e w28 ⟨rfl, hb⟩; refine ⟨_, rfl, ?_⟩; replace BK230 := Aside0.mk (blk_below (g := gb230) (o := .cells #[.bool false, .int .u64 0, .int .u64 0] 25 (0, 0)) (by refine zL ?_; refine blk_far ?_ NB230_235.out _; refine zL ?_; refine blk_far ?_ NB230_235.out _; refine zL ?_; refine blk_far ?_ NB230_235.out _; refine zL ?_; exact BK230.out) hb); replace BK235 := Aside0.mk (blk_below (g := gb235) (o := .cells #[.bool t231, .int .u64 t232, .int .u64 t233] 25 (0, 0)) (by refine zL ?_; refine blk_put (cs := #[.bool t231, .int .u64 t232, .int .u64 0]) ?_ 2 _ rfl; refine zL ?_; refine blk_put (cs := #[.bool t231, .int .u64 0, .int .u64 0]) ?_ 1 _ rfl; refine zL ?_; refine blk_put (cs := #[.bool false, .int .u64 0, .int .u64 0]) ?_ 0 _ rfl; refine zL ?_; exact BK235.out) hb); replace HB := Aside0.mk (below_step (zB HB) hb); (try clear hb); obtain ⟨hcz29_0, hcz29_1, hcz29_2⟩ := zc3 BK235; obtain ⟨hfz29_0, hfz29_1, hfz29_2⟩ := zf3 BK235; obtain ⟨hcz30_0, hcz30_1, hcz30_2⟩ := zc3 BK230; obtain ⟨hfz30_0, hfz30_1, hfz30_2⟩ := zf3 BK230))
       refine bodyPost_ret (results_ct rfl _ _ gb230 25 #[.bool false, .int .u64 0, .int .u64 0] (0, 0) _ rfl (by refine zL ?_; refine blk_put (cs := #[.bool false, .int .u64 0, .int .u64 0]) ?_ 2 _ rfl; refine zL ?_; refine blk_put (cs := #[.bool false, .int .u64 0, .int .u64 0]) ?_ 1 _ rfl; refine zL ?_; refine blk_put (cs := #[.bool false, .int .u64 0, .int .u64 0]) ?_ 0 _ rfl; refine zL ?_; refine blk_far ?_ NB230_235.out _; refine zL ?_; refine blk_far ?_ NB230_235.out _; refine zL ?_; refine blk_far ?_ NB230_235.out _; refine zL ?_; exact BK230.out) Tryd.underlying25 rfl (by kernel_rfl)) rfl ?_
       exact ⟨by first | rfl | (simp [errW_none, errW_some] <;> rfl) | (simp [*, errW_none, errW_some] <;> rfl), by repeat (first | (with_reducible first | exact HB.out | apply below_alloc | apply pw_below_drewN | apply below_drew1 | refine below_set ?_ GE230.out | refine below_set ?_ GE235.out) | exact HB.out)⟩
end Go.Proofs.YtlgfinnldhjgeaaDoor.Q
end

section
namespace Go.Proofs.YtlgfinnldhjgeaaDoor.Q
open Go.RowKit Go.Proofs.YtlgfinnldhjgeaaDoorW.PrintWords Go.Proofs.YtlgfinnldhjgeaaDoorW.PrintLast Go.Proofs.YtlgfinnldhjgeaaDoorW.PrintMore
attribute [local go_sem] max2_int min2_int max_two min_two max_three min_three max_four min_four
set_option linter.unusedVariables false
set_option linter.unusedSimpArgs false
def intrusionref06_Width.f (a0_0 : Bool) (a0_1 : Int) (a0_2 : Int) : Option (Int) := if a0_0 = true then (some 128) else (some 32)
set_option maxHeartbeats 8000000 in
set_option maxRecDepth 100000 in
theorem intrusionref06_Width.calls (a0_0 : Bool) (a0_1 : Int) (a0_2 : Int) (r : Int) (w : World) (h : intrusionref06_Width.f a0_0 a0_1 a0_2 = some r) :
 Calls Tryd.prog 47 #[.agg #[.bool a0_0, .int .u64 a0_1, .int .u64 a0_2]] w fun e w' => e = .returned (.int .i64 r) ∧ Below w.heap.size w w' := by
 have hu25 := Tryd.underlying25
 have HB := Aside0.mk (Below.refl w.heap.size w)
 unfold intrusionref06_Width.f at h; have H := h
 clear h
 by_cases c2 : a0_0 = true
 · subst c2
   rw [if_pos rfl] at H
   obtain rfl := Option.some.inj H
   go_enter Tryd.func47, Tryd.ntmps47
   go_wp2_with (first | ((with_reducible refine gate_dst (N := 1) rfl ?_); refine zx 1 #[.bool true, .int .u64 a0_1, .int .u64 a0_2] 25 ?_; intro gb241 hg w3 hbox hb; have BK241 := Aside0.mk (hbox); have GW241 := Aside0.mk ((by rw [hg]; exact (below_size (zB HB)) : w.heap.size ≤ gb241)); have GE241 := Aside0.mk ((by rw [hg]; exact (below_size (zB HB)) : w.heap.size ≤ gb241)); replace HB := Aside0.mk (below_step (zB HB) hb); clear hb hbox hg; obtain ⟨hcz4_0, hcz4_1, hcz4_2⟩ := zc3 BK241; obtain ⟨hfz4_0, hfz4_1, hfz4_2⟩ := zf3 BK241))
   go_ret
   exact ⟨by first | rfl | (simp [errW_none, errW_some] <;> rfl) | (simp [*, errW_none, errW_some] <;> rfl), by repeat (first | (with_reducible first | exact HB.out | apply below_alloc | apply pw_below_drewN | apply below_drew1 | refine below_set ?_ GE241.out) | exact HB.out)⟩
 · replace c2 := Bool.eq_false_iff.mpr c2
   subst c2
   rw [if_neg zF] at H
   obtain rfl := Option.some.inj H
   go_enter Tryd.func47, Tryd.ntmps47
   go_wp2_with (first | ((with_reducible refine gate_dst (N := 1) rfl ?_); refine zx 1 #[.bool false, .int .u64 a0_1, .int .u64 a0_2] 25 ?_; intro gb241 hg w5 hbox hb; have BK241 := Aside0.mk (hbox); have GW241 := Aside0.mk ((by rw [hg]; exact (below_size (zB HB)) : w.heap.size ≤ gb241)); have GE241 := Aside0.mk ((by rw [hg]; exact (below_size (zB HB)) : w.heap.size ≤ gb241)); replace HB := Aside0.mk (below_step (zB HB) hb); clear hb hbox hg; obtain ⟨hcz6_0, hcz6_1, hcz6_2⟩ := zc3 BK241; obtain ⟨hfz6_0, hfz6_1, hfz6_2⟩ := zf3 BK241))
   go_ret
   exact ⟨by first | rfl | (simp [errW_none, errW_some] <;> rfl) | (simp [*, errW_none, errW_some] <;> rfl), by repeat (first | (with_reducible first | exact HB.out | apply below_alloc | apply pw_below_drewN | apply below_drew1 | refine below_set ?_ GE241.out) | exact HB.out)⟩
end Go.Proofs.YtlgfinnldhjgeaaDoor.Q
end

section
namespace Go.Proofs.YtlgfinnldhjgeaaDoor.Q
open Go.RowKit Go.Proofs.YtlgfinnldhjgeaaDoorW.PrintWords Go.Proofs.YtlgfinnldhjgeaaDoorW.PrintLast Go.Proofs.YtlgfinnldhjgeaaDoorW.PrintMore
attribute [local go_sem] max2_int min2_int max_two min_two max_three min_three max_four min_four
set_option linter.unusedVariables false
set_option linter.unusedSimpArgs false
def intrusionref06_Valid.f (a0_0 : Bool) (a0_1 : Int) (a0_2 : Int) : Option (Bool) := if a0_0 = true then (some true) else (if a0_1 = 0 then (some (decide (a0_2 < 4294967296))) else (some false))
set_option maxHeartbeats 8000000 in
set_option maxRecDepth 100000 in
theorem intrusionref06_Valid.calls (a0_0 : Bool) (a0_1 : Int) (a0_2 : Int) (r : Bool) (w : World) (h : intrusionref06_Valid.f a0_0 a0_1 a0_2 = some r) :
 Calls Tryd.prog 15 #[.agg #[.bool a0_0, .int .u64 a0_1, .int .u64 a0_2]] w fun e w' => e = .returned (.bool r) ∧ Below w.heap.size w w' := by
 have hu25 := Tryd.underlying25
 have HB := Aside0.mk (Below.refl w.heap.size w)
 unfold intrusionref06_Valid.f at h; have H := h
 clear h
 by_cases c2 : a0_0 = true
 · subst c2
   rw [if_pos rfl] at H
   obtain rfl := Option.some.inj H
   go_enter Tryd.func15, Tryd.ntmps15
   go_wp2_with (first | ((with_reducible refine gate_dst (N := 1) rfl ?_); refine zx 1 #[.bool true, .int .u64 a0_1, .int .u64 a0_2] 25 ?_; intro gb240 hg w3 hbox hb; have BK240 := Aside0.mk (hbox); have GW240 := Aside0.mk ((by rw [hg]; exact (below_size (zB HB)) : w.heap.size ≤ gb240)); have GE240 := Aside0.mk ((by rw [hg]; exact (below_size (zB HB)) : w.heap.size ≤ gb240)); replace HB := Aside0.mk (below_step (zB HB) hb); clear hb hbox hg; obtain ⟨hcz4_0, hcz4_1, hcz4_2⟩ := zc3 BK240; obtain ⟨hfz4_0, hfz4_1, hfz4_2⟩ := zf3 BK240))
   go_ret
   exact ⟨by first | rfl | (simp [errW_none, errW_some] <;> rfl) | (simp [*, errW_none, errW_some] <;> rfl), by repeat (first | (with_reducible first | exact HB.out | apply below_alloc | apply pw_below_drewN | apply below_drew1 | refine below_set ?_ GE240.out) | exact HB.out)⟩
 · replace c2 := Bool.eq_false_iff.mpr c2
   subst c2
   rw [if_neg zF] at H
   by_cases c5 : a0_1 = 0
   · rw [if_pos c5] at H
     have c5b0 : (a0_1 == 0) = true := beq_iff_eq.mpr c5
     have c5b1 : (a0_1 != 0) = false := bne_eq_false_iff_eq.mpr c5
     clear c5
     obtain rfl := Option.some.inj H
     go_enter Tryd.func15, Tryd.ntmps15
     go_wp2_with (first | ((with_reducible refine gate_dst (N := 1) rfl ?_); refine zx 1 #[.bool false, .int .u64 a0_1, .int .u64 a0_2] 25 ?_; intro gb240 hg w6 hbox hb; have BK240 := Aside0.mk (hbox); have GW240 := Aside0.mk ((by rw [hg]; exact (below_size (zB HB)) : w.heap.size ≤ gb240)); have GE240 := Aside0.mk ((by rw [hg]; exact (below_size (zB HB)) : w.heap.size ≤ gb240)); replace HB := Aside0.mk (below_step (zB HB) hb); clear hb hbox hg; obtain ⟨hcz7_0, hcz7_1, hcz7_2⟩ := zc3 BK240; obtain ⟨hfz7_0, hfz7_1, hfz7_2⟩ := zf3 BK240))
     go_ret
     exact ⟨by first | rfl | (simp [errW_none, errW_some] <;> rfl) | (simp [*, errW_none, errW_some] <;> rfl), by repeat (first | (with_reducible first | exact HB.out | apply below_alloc | apply pw_below_drewN | apply below_drew1 | refine below_set ?_ GE240.out) | exact HB.out)⟩
   · rw [if_neg c5] at H
     have c5b0 : (a0_1 == 0) = false := beq_eq_false_iff_ne.mpr c5
     have c5b1 : (a0_1 != 0) = true := bne_iff_ne.mpr c5
     obtain rfl := Option.some.inj H
     go_enter Tryd.func15, Tryd.ntmps15
     go_wp2_with (first | ((with_reducible refine gate_dst (N := 1) rfl ?_); refine zx 1 #[.bool false, .int .u64 a0_1, .int .u64 a0_2] 25 ?_; intro gb240 hg w8 hbox hb; have BK240 := Aside0.mk (hbox); have GW240 := Aside0.mk ((by rw [hg]; exact (below_size (zB HB)) : w.heap.size ≤ gb240)); have GE240 := Aside0.mk ((by rw [hg]; exact (below_size (zB HB)) : w.heap.size ≤ gb240)); replace HB := Aside0.mk (below_step (zB HB) hb); clear hb hbox hg; obtain ⟨hcz9_0, hcz9_1, hcz9_2⟩ := zc3 BK240; obtain ⟨hfz9_0, hfz9_1, hfz9_2⟩ := zf3 BK240))
     go_ret
     exact ⟨by first | rfl | (simp [errW_none, errW_some] <;> rfl) | (simp [*, errW_none, errW_some] <;> rfl), by repeat (first | (with_reducible first | exact HB.out | apply below_alloc | apply pw_below_drewN | apply below_drew1 | refine below_set ?_ GE240.out) | exact HB.out)⟩
end Go.Proofs.YtlgfinnldhjgeaaDoor.Q
end

section
namespace Go.Proofs.YtlgfinnldhjgeaaDoor.Q
open Go.RowKit Go.Proofs.YtlgfinnldhjgeaaDoorW.PrintWords Go.Proofs.YtlgfinnldhjgeaaDoorW.PrintLast Go.Proofs.YtlgfinnldhjgeaaDoorW.PrintMore
attribute [local go_sem] max2_int min2_int max_two min_two max_three min_three max_four min_four
set_option linter.unusedVariables false
set_option linter.unusedSimpArgs false
def intrusionref06_Bit.f (a0_0 : Bool) (a0_1 : Int) (a0_2 : Int) (a1 : Int) : Option (Bool) := if a0_0 = true then (if a1 < 64 then (if 0 ≤ (IntKind.u64.wrap (wrap64 (63 - a1))) then (some ((Go.bits .and .u64 (shr .u64 a0_1 (IntKind.u64.wrap (wrap64 (63 - a1)))) 1) == 1)) else (none)) else (if 0 ≤ (IntKind.u64.wrap (wrap64 (127 - a1))) then (some ((Go.bits .and .u64 (shr .u64 a0_2 (IntKind.u64.wrap (wrap64 (127 - a1)))) 1) == 1)) else (none))) else (if 0 ≤ (IntKind.u64.wrap (wrap64 (31 - a1))) then (some ((Go.bits .and .u64 (shr .u64 a0_2 (IntKind.u64.wrap (wrap64 (31 - a1)))) 1) == 1)) else (none))
set_option maxHeartbeats 8000000 in
set_option maxRecDepth 100000 in
theorem intrusionref06_Bit.calls (a0_0 : Bool) (a0_1 : Int) (a0_2 : Int) (a1 : Int) (r : Bool) (w : World) (h : intrusionref06_Bit.f a0_0 a0_1 a0_2 a1 = some r) :
 Calls Tryd.prog 69 #[.agg #[.bool a0_0, .int .u64 a0_1, .int .u64 a0_2], .int .i64 a1] w fun e w' => e = .returned (.bool r) ∧ Below w.heap.size w w' := by
 have hu25 := Tryd.underlying25
 have HB := Aside0.mk (Below.refl w.heap.size w)
 unfold intrusionref06_Bit.f at h; have H := h
 clear h
 by_cases c3 : a0_0 = true
 · subst c3
   rw [if_pos rfl] at H
   by_cases c4 : a1 < 64
   · rw [if_pos c4] at H
     have c4b0 : decide (a1 < 64) = true := decide_eq_true c4
     clear c4
     obtain ⟨ji5, hji5⟩ : ∃ j_ : Int, (IntKind.u64.wrap (wrap64 (63 - a1))) = j_ := ⟨_, rfl⟩
     replace H : (if 0 ≤ (ji5) then (some ((Go.bits .and .u64 (shr .u64 a0_1 (ji5)) 1) == 1)) else (none)) = some r := by first | (rw [hji5] at H; exact H) | (simp only [hji5] at H ⊢; exact H)
     by_cases c6 : 0 ≤ (ji5)
     · rw [if_pos c6] at H
       have c6b0 := eq_true c6
       have c6b1 : decide (0 ≤ (ji5)) = true := decide_eq_true c6
       clear c6
       obtain ⟨ji7, hji7⟩ : ∃ j_ : Int, (shr .u64 a0_1 (ji5)) = j_ := ⟨_, rfl⟩
       replace H : (some ((Go.bits .and .u64 (ji7) 1) == 1)) = some r := by first | (rw [hji7] at H; exact H) | (simp only [hji7] at H ⊢; exact H)
       have hji7_ : (a0_1 / 2 ^ min (ji5).toNat 64) = ji7 := hji7
       have hji7z : (ji5) ≤ 64 → (a0_1 / 2 ^ (ji5).toNat) = ji7 := shr_small hji7
       obtain rfl := Option.some.inj H
       go_enter Tryd.func69, Tryd.ntmps69
       go_wp2_with (first | ((with_reducible refine gate_dst (N := 2) rfl ?_); refine zx 2 #[.bool true, .int .u64 a0_1, .int .u64 a0_2] 25 ?_; intro gb242 hg w8 hbox hb; have BK242 := Aside0.mk (hbox); have GW242 := Aside0.mk ((by rw [hg]; exact (below_size (zB HB)) : w.heap.size ≤ gb242)); have GE242 := Aside0.mk ((by rw [hg]; exact (below_size (zB HB)) : w.heap.size ≤ gb242)); replace HB := Aside0.mk (below_step (zB HB) hb); clear hb hbox hg; obtain ⟨hcz9_0, hcz9_1, hcz9_2⟩ := zc3 BK242; obtain ⟨hfz9_0, hfz9_1, hfz9_2⟩ := zf3 BK242))
       go_ret
       exact ⟨by first | rfl | (simp [errW_none, errW_some] <;> rfl) | (simp only [← hji5, ← hji7]; first | rfl | (simp [errW_none, errW_some] <;> rfl)) | (simp [*, errW_none, errW_some] <;> rfl), by repeat (first | (with_reducible first | exact HB.out | apply below_alloc | apply pw_below_drewN | apply below_drew1 | refine below_set ?_ GE242.out) | exact HB.out)⟩
     · rw [if_neg c6] at H
       exact absurd H (by simp)
   · rw [if_neg c4] at H
     have c4b0 : decide (a1 < 64) = false := decide_eq_false c4
     clear c4
     obtain ⟨ji10, hji10⟩ : ∃ j_ : Int, (IntKind.u64.wrap (wrap64 (127 - a1))) = j_ := ⟨_, rfl⟩
     replace H : (if 0 ≤ (ji10) then (some ((Go.bits .and .u64 (shr .u64 a0_2 (ji10)) 1) == 1)) else (none)) = some r := by first | (rw [hji10] at H; exact H) | (simp only [hji10] at H ⊢; exact H)
     by_cases c11 : 0 ≤ (ji10)
     · rw [if_pos c11] at H
       have c11b0 := eq_true c11
       have c11b1 : decide (0 ≤ (ji10)) = true := decide_eq_true c11
       clear c11
       obtain ⟨ji12, hji12⟩ : ∃ j_ : Int, (shr .u64 a0_2 (ji10)) = j_ := ⟨_, rfl⟩
       replace H : (some ((Go.bits .and .u64 (ji12) 1) == 1)) = some r := by first | (rw [hji12] at H; exact H) | (simp only [hji12] at H ⊢; exact H)
       have hji12_ : (a0_2 / 2 ^ min (ji10).toNat 64) = ji12 := hji12
       have hji12z : (ji10) ≤ 64 → (a0_2 / 2 ^ (ji10).toNat) = ji12 := shr_small hji12
       obtain rfl := Option.some.inj H
       go_enter Tryd.func69, Tryd.ntmps69
       go_wp2_with (first | ((with_reducible refine gate_dst (N := 2) rfl ?_); refine zx 2 #[.bool true, .int .u64 a0_1, .int .u64 a0_2] 25 ?_; intro gb242 hg w13 hbox hb; have BK242 := Aside0.mk (hbox); have GW242 := Aside0.mk ((by rw [hg]; exact (below_size (zB HB)) : w.heap.size ≤ gb242)); have GE242 := Aside0.mk ((by rw [hg]; exact (below_size (zB HB)) : w.heap.size ≤ gb242)); replace HB := Aside0.mk (below_step (zB HB) hb); clear hb hbox hg; obtain ⟨hcz14_0, hcz14_1, hcz14_2⟩ := zc3 BK242; obtain ⟨hfz14_0, hfz14_1, hfz14_2⟩ := zf3 BK242))
       go_ret
       exact ⟨by first | rfl | (simp [errW_none, errW_some] <;> rfl) | (simp only [← hji10, ← hji12]; first | rfl | (simp [errW_none, errW_some] <;> rfl)) | (simp [*, errW_none, errW_some] <;> rfl), by repeat (first | (with_reducible first | exact HB.out | apply below_alloc | apply pw_below_drewN | apply below_drew1 | refine below_set ?_ GE242.out) | exact HB.out)⟩
     · rw [if_neg c11] at H
       exact absurd H (by simp)
 · replace c3 := Bool.eq_false_iff.mpr c3
   subst c3
   rw [if_neg zF] at H
   obtain ⟨ji15, hji15⟩ : ∃ j_ : Int, (IntKind.u64.wrap (wrap64 (31 - a1))) = j_ := ⟨_, rfl⟩
   replace H : (if 0 ≤ (ji15) then (some ((Go.bits .and .u64 (shr .u64 a0_2 (ji15)) 1) == 1)) else (none)) = some r := by first | (rw [hji15] at H; exact H) | (simp only [hji15] at H ⊢; exact H)
   by_cases c16 : 0 ≤ (ji15)
   · rw [if_pos c16] at H
     have c16b0 := eq_true c16
     have c16b1 : decide (0 ≤ (ji15)) = true := decide_eq_true c16
     clear c16
     obtain ⟨ji17, hji17⟩ : ∃ j_ : Int, (shr .u64 a0_2 (ji15)) = j_ := ⟨_, rfl⟩
     replace H : (some ((Go.bits .and .u64 (ji17) 1) == 1)) = some r := by first | (rw [hji17] at H; exact H) | (simp only [hji17] at H ⊢; exact H)
     have hji17_ : (a0_2 / 2 ^ min (ji15).toNat 64) = ji17 := hji17
     have hji17z : (ji15) ≤ 64 → (a0_2 / 2 ^ (ji15).toNat) = ji17 := shr_small hji17
     obtain rfl := Option.some.inj H
     go_enter Tryd.func69, Tryd.ntmps69
     go_wp2_with (first | ((with_reducible refine gate_dst (N := 2) rfl ?_); refine zx 2 #[.bool false, .int .u64 a0_1, .int .u64 a0_2] 25 ?_; intro gb242 hg w18 hbox hb; have BK242 := Aside0.mk (hbox); have GW242 := Aside0.mk ((by rw [hg]; exact (below_size (zB HB)) : w.heap.size ≤ gb242)); have GE242 := Aside0.mk ((by rw [hg]; exact (below_size (zB HB)) : w.heap.size ≤ gb242)); replace HB := Aside0.mk (below_step (zB HB) hb); clear hb hbox hg; obtain ⟨hcz19_0, hcz19_1, hcz19_2⟩ := zc3 BK242; obtain ⟨hfz19_0, hfz19_1, hfz19_2⟩ := zf3 BK242))
     go_ret
     exact ⟨by first | rfl | (simp [errW_none, errW_some] <;> rfl) | (simp only [← hji15, ← hji17]; first | rfl | (simp [errW_none, errW_some] <;> rfl)) | (simp [*, errW_none, errW_some] <;> rfl), by repeat (first | (with_reducible first | exact HB.out | apply below_alloc | apply pw_below_drewN | apply below_drew1 | refine below_set ?_ GE242.out) | exact HB.out)⟩
   · rw [if_neg c16] at H
     exact absurd H (by simp)
end Go.Proofs.YtlgfinnldhjgeaaDoor.Q
end

section
namespace Go.Proofs.YtlgfinnldhjgeaaDoor.Q
open Go.RowKit Go.Proofs.YtlgfinnldhjgeaaDoorW.PrintWords Go.Proofs.YtlgfinnldhjgeaaDoorW.PrintLast Go.Proofs.YtlgfinnldhjgeaaDoorW.PrintMore
attribute [local go_sem] max2_int min2_int max_two min_two max_three min_three max_four min_four
set_option linter.unusedVariables false
set_option linter.unusedSimpArgs false
def intrusionref06_with.l0 : Nat → Bool → Int → Bool → Int → Int → Option (Bool × Int × Int)
  | 0, _, _, _, _, _ => none
  | k + 1, x2, x7, x244000, x244001, x244002 => (intrusionref06_Width.f x244000 x244001 x244002).bind fun t245 => (if x7 < t245 then ((intrusionref06_Bit.f x244000 x244001 x244002 x7).bind fun t246 => (if (t246 == x2) = true then (intrusionref06_with.l0 k x2 (wrap64 (x7 + 1)) x244000 x244001 x244002) else (if x244000 = true then (if x7 < 64 then (if 0 ≤ (IntKind.u64.wrap (wrap64 (63 - x7))) then (intrusionref06_with.l0 k x2 (wrap64 (x7 + 1)) x244000 (Go.bits .xor .u64 x244001 (shl .u64 1 (IntKind.u64.wrap (wrap64 (63 - x7))))) x244002) else (none)) else (if 0 ≤ (IntKind.u64.wrap (wrap64 (127 - x7))) then (intrusionref06_with.l0 k x2 (wrap64 (x7 + 1)) x244000 x244001 (Go.bits .xor .u64 x244002 (shl .u64 1 (IntKind.u64.wrap (wrap64 (127 - x7)))))) else (none))) else (if 0 ≤ (IntKind.u64.wrap (wrap64 (31 - x7))) then (intrusionref06_with.l0 k x2 (wrap64 (x7 + 1)) x244000 x244001 (Go.bits .xor .u64 x244002 (shl .u64 1 (IntKind.u64.wrap (wrap64 (31 - x7)))))) else (none))))) else (some (x244000, x244001, x244002)))
def intrusionref06_with.f (k : Nat) (a0_0 : Bool) (a0_1 : Int) (a0_2 : Int) (a1 : Int) (a2 : Bool) : Option (Bool × Int × Int) := intrusionref06_with.l0 k a2 a1 a0_0 a0_1 a0_2
theorem intrusionref06_with.mono_l : ∀ k, (∀ y0 y1 y2 y3 y4, LeO (intrusionref06_with.l0 k y0 y1 y2 y3 y4) (intrusionref06_with.l0 (k + 1) y0 y1 y2 y3 y4))
  | 0 => fun _ _ _ _ _ r h => by simp [intrusionref06_with.l0] at h
  | k + 1 => by
    have ih0 := intrusionref06_with.mono_l k
    · intro y0 y1 y2 y3 y4
      unfold intrusionref06_with.l0
      repeat' first
      | (with_reducible exact ih0 _ _ _ _ _)
      | (with_reducible exact LeO.refl _)
      | (with_reducible exact LeO.none _)
      | (with_reducible refine LeO.ite ?_ ?_)
      | (with_reducible refine LeO.bind ?_ (fun _ => ?_))
      | exact ih0 _ _ _ _ _
      | exact LeO.none _
      | refine LeO.ite ?_ ?_
      | refine LeO.bind ?_ (fun _ => ?_)
theorem intrusionref06_with.mono : ∀ a0 a1 a2 a3 a4 k, LeO (intrusionref06_with.f k a0 a1 a2 a3 a4) (intrusionref06_with.f (k + 1) a0 a1 a2 a3 a4) := by
  intro a0 a1 a2 a3 a4 k
  have ih0 := intrusionref06_with.mono_l k
  unfold intrusionref06_with.f
  repeat' first
      | (with_reducible exact ih0 _ _ _ _ _)
      | (with_reducible exact LeO.refl _)
      | (with_reducible exact LeO.none _)
      | (with_reducible refine LeO.ite ?_ ?_)
      | (with_reducible refine LeO.bind ?_ (fun _ => ?_))
      | exact ih0 _ _ _ _ _
      | exact LeO.none _
      | refine LeO.ite ?_ ?_
      | refine LeO.bind ?_ (fun _ => ?_)
set_option maxHeartbeats 8000000 in
set_option maxRecDepth 100000 in
theorem intrusionref06_with.calls (k : Nat) (a0_0 : Bool) (a0_1 : Int) (a0_2 : Int) (a1 : Int) (a2 : Bool) (r1 : Bool) (r2 : Int) (r3 : Int) (w : World) (h : intrusionref06_with.f k a0_0 a0_1 a0_2 a1 a2 = some (r1, r2, r3)) :
 Calls Tryd.prog 50 #[.agg #[.bool a0_0, .int .u64 a0_1, .int .u64 a0_2], .int .i64 a1, .bool a2] w fun e w' => e = .returned (.agg #[.bool r1, .int .u64 r2, .int .u64 r3]) ∧ Below w.heap.size w w' := by
 have hu25 := Tryd.underlying25
 have HB := Aside0.mk (Below.refl w.heap.size w)
 unfold intrusionref06_with.f at h; have H := h
 clear h
 have H' := Aside0.mk H
 clear H
 go_enter Tryd.func50, Tryd.ntmps50
 go_wp2_with (first | ((with_reducible refine gate_dst (N := 3) rfl ?_); refine zx 3 #[.bool a0_0, .int .u64 a0_1, .int .u64 a0_2] 25 ?_; intro gb243 hg w4 hbox hb; have BK243 := Aside0.mk (hbox); have GW243 := Aside0.mk ((by rw [hg]; exact (below_size (zB HB)) : w.heap.size ≤ gb243)); have GE243 := Aside0.mk ((by rw [hg]; exact (below_size (zB HB)) : w.heap.size ≤ gb243)); replace HB := Aside0.mk (below_step (zB HB) hb); clear hb hbox hg) | ((with_reducible refine gate_dst (N := 6) rfl ?_); refine zx 6 #[.bool false, .int .u64 0, .int .u64 0] 25 ?_; intro gb244 hg w5 hbox hb; have BK244 := Aside0.mk (hbox); have GW244 := Aside0.mk ((by rw [hg]; exact (below_size (zB HB)) : w.heap.size ≤ gb244)); have GE244 := Aside0.mk ((by rw [hg]; exact (below_size (zB HB)) : w.heap.size ≤ gb244)); replace HB := Aside0.mk (below_step (zB HB) hb); have NB243_244 := Aside0.mk ((by rw [hg]; exact Nat.ne_of_lt (blk_lt (g := gb243) (o := .cells #[.bool a0_0, .int .u64 a0_1, .int .u64 a0_2] 25 (0, 0)) (zK BK243)) : gb243 ≠ gb244)); have NB244_243 := Aside0.mk ((by rw [hg]; exact Nat.ne_of_gt (blk_lt (g := gb243) (o := .cells #[.bool a0_0, .int .u64 a0_1, .int .u64 a0_2] 25 (0, 0)) (zK BK243)) : gb244 ≠ gb243)); replace BK243 := Aside0.mk (blk_below (g := gb243) (o := .cells #[.bool a0_0, .int .u64 a0_1, .int .u64 a0_2] 25 (0, 0)) (zK BK243) hb); clear hb hbox hg))
 go_loopg [7] k (fun kq v7 w' => ∃ (x7_1 : Int) (x244001_1 : Int) (x244002_1 : Int), v7 = .int .i64 x7_1 ∧ Aside0 (intrusionref06_with.l0 kq a2 x7_1 a0_0 x244001_1 x244002_1 = some (r1, r2, r3)) ∧ Aside0 (kq ≤ k) ∧ Aside0 (w'.heap[gb243]? = some (.cells #[.bool a0_0, .int .u64 x244001_1, .int .u64 x244002_1] 25 (0, 0))) ∧ Aside0 (w'.heap[gb244]? = some (.cells #[.bool false, .int .u64 0, .int .u64 0] 25 (0, 0))) ∧ Aside0 (Below w.heap.size w w'))
 case atStart => exact ⟨(a1), (a0_1), (a0_2), (by first | rfl | (simp; done) | (simp [*]; done)), H', ⟨Nat.le_refl _⟩, ⟨zK BK243⟩, ⟨zK BK244⟩, ⟨zB HB⟩⟩
 case round =>
  clear H'
  try clear p2
  try clear c5
  obtain ⟨x7_1, x244001_1, x244002_1, rfl, HA, HK1, BK243, BK244, HB⟩ := hrel
  cases gk with
  | zero => exact absurd HA.out (by simp [intrusionref06_with.l0])
  | succ k1 =>
   have H := HA.out
   clear HA
   simp only [intrusionref06_with.l0] at H
   replace H := Option.bind_eq_some_iff.mp H
   obtain ⟨t245, A60, H⟩ := H
   replace H : (if x7_1 < t245 then ((intrusionref06_Bit.f a0_0 x244001_1 x244002_1 x7_1).bind fun t246 => (if (t246 == a2) = true then (intrusionref06_with.l0 k1 a2 (wrap64 (x7_1 + 1)) a0_0 x244001_1 x244002_1) else (if a0_0 = true then (if x7_1 < 64 then (if 0 ≤ (IntKind.u64.wrap (wrap64 (63 - x7_1))) then (intrusionref06_with.l0 k1 a2 (wrap64 (x7_1 + 1)) a0_0 (Go.bits .xor .u64 x244001_1 (shl .u64 1 (IntKind.u64.wrap (wrap64 (63 - x7_1))))) x244002_1) else (none)) else (if 0 ≤ (IntKind.u64.wrap (wrap64 (127 - x7_1))) then (intrusionref06_with.l0 k1 a2 (wrap64 (x7_1 + 1)) a0_0 x244001_1 (Go.bits .xor .u64 x244002_1 (shl .u64 1 (IntKind.u64.wrap (wrap64 (127 - x7_1)))))) else (none))) else (if 0 ≤ (IntKind.u64.wrap (wrap64 (31 - x7_1))) then (intrusionref06_with.l0 k1 a2 (wrap64 (x7_1 + 1)) a0_0 x244001_1 (Go.bits .xor .u64 x244002_1 (shl .u64 1 (IntKind.u64.wrap (wrap64 (31 - x7_1)))))) else (none))))) else (some (a0_0, x244001_1, x244002_1))) = some (r1, r2, r3) := H
   have A6 := Aside0.mk A60
   clear A60
   by_cases c7 : x7_1 < t245
   · rw [if_pos c7] at H
     have c7b0 : decide (x7_1 < t245) = true := decide_eq_true c7
     clear c7
     replace H := Option.bind_eq_some_iff.mp H
     obtain ⟨t246, A80, H⟩ := H
     replace H : (if (t246 == a2) = true then (intrusionref06_with.l0 k1 a2 (wrap64 (x7_1 + 1)) a0_0 x244001_1 x244002_1) else (if a0_0 = true then (if x7_1 < 64 then (if 0 ≤ (IntKind.u64.wrap (wrap64 (63 - x7_1))) then (intrusionref06_with.l0 k1 a2 (wrap64 (x7_1 + 1)) a0_0 (Go.bits .xor .u64 x244001_1 (shl .u64 1 (IntKind.u64.wrap (wrap64 (63 - x7_1))))) x244002_1) else (none)) else (if 0 ≤ (IntKind.u64.wrap (wrap64 (127 - x7_1))) then (intrusionref06_with.l0 k1 a2 (wrap64 (x7_1 + 1)) a0_0 x244001_1 (Go.bits .xor .u64 x244002_1 (shl .u64 1 (IntKind.u64.wrap (wrap64 (127 - x7_1)))))) else (none))) else (if 0 ≤ (IntKind.u64.wrap (wrap64 (31 - x7_1))) then (intrusionref06_with.l0 k1 a2 (wrap64 (x7_1 + 1)) a0_0 x244001_1 (Go.bits .xor .u64 x244002_1 (shl .u64 1 (IntKind.u64.wrap (wrap64 (31 - x7_1)))))) else (none)))) = some (r1, r2, r3) := H
     have A8 := Aside0.mk A80
     clear A80
     by_cases c9 : (t246 == a2) = true
     · rw [if_pos c9] at H
       have c9b0 : (t246 == a2) = true := c9
       (try (have c9b1 : decide (t246 = a2) = true := by first | (simpa using c9) | exact decide_eq_true (Decidable.not_not.1 (fun hn => c9 (bne_iff_ne.2 hn))) | exact beq_iff_eq.2 (Decidable.not_not.1 (fun hn => c9 (bne_iff_ne.2 hn))) | exact decide_eq_false (bne_iff_ne.1 c9) | exact beq_eq_false_iff_ne.2 (bne_iff_ne.1 c9) | exact bne_iff_ne.1 c9))
       (try (have c9b2 : (t246 == a2) = true := by first | (simpa using c9) | exact decide_eq_true (Decidable.not_not.1 (fun hn => c9 (bne_iff_ne.2 hn))) | exact beq_iff_eq.2 (Decidable.not_not.1 (fun hn => c9 (bne_iff_ne.2 hn))) | exact decide_eq_false (bne_iff_ne.1 c9) | exact beq_eq_false_iff_ne.2 (bne_iff_ne.1 c9) | exact bne_iff_ne.1 c9))
       clear c9
       have H' := Aside0.mk H
       clear H
       have hnb10 := NB243_244.out
       have hnc10 := NB244_243.out
       obtain ⟨hcz11_0, hcz11_1, hcz11_2⟩ := zc3 BK243
       obtain ⟨hfz11_0, hfz11_1, hfz11_2⟩ := zf3 BK243
       go_wp2_with (first | ((with_reducible refine gate_callee (f := 47) rfl ?_); refine goesL_ (some 11) rfl rfl Tryd.func47 (by kernel_rfl) rfl #[.agg #[.bool a0_0, .int .u64 x244001_1, .int .u64 x244002_1]] rfl (by (try simp only [List.map_toArray, List.map_cons, List.map_nil]); first | done | rfl | (simp only [List.length_drop, List.length_take]; rfl)) ?_; (with_reducible refine (intrusionref06_Width.calls a0_0 x244001_1 x244002_1 t245 _ A6.out).mono ?_); rintro e w12 ⟨rfl, hb⟩; refine ⟨_, rfl, ?_⟩; replace BK243 := Aside0.mk (blk_below (g := gb243) (o := .cells #[.bool a0_0, .int .u64 x244001_1, .int .u64 x244002_1] 25 (0, 0)) (zK BK243) hb); replace BK244 := Aside0.mk (blk_below (g := gb244) (o := .cells #[.bool false, .int .u64 0, .int .u64 0] 25 (0, 0)) (zK BK244) hb); replace HB := Aside0.mk (below_step (zB HB) hb); (try clear hb); obtain ⟨hcz13_0, hcz13_1, hcz13_2⟩ := zc3 BK243; obtain ⟨hfz13_0, hfz13_1, hfz13_2⟩ := zf3 BK243) | ((with_reducible refine gate_callee (f := 69) rfl ?_); refine goesL_ (some 17) rfl rfl Tryd.func69 (by kernel_rfl) rfl #[.agg #[.bool a0_0, .int .u64 x244001_1, .int .u64 x244002_1], .int .i64 x7_1] rfl (by (try simp only [List.map_toArray, List.map_cons, List.map_nil]); first | done | rfl | (simp only [List.length_drop, List.length_take]; rfl)) ?_; (with_reducible refine (intrusionref06_Bit.calls a0_0 x244001_1 x244002_1 x7_1 t246 _ A8.out).mono ?_); rintro e w14 ⟨rfl, hb⟩; refine ⟨_, rfl, ?_⟩; replace BK243 := Aside0.mk (blk_below (g := gb243) (o := .cells #[.bool a0_0, .int .u64 x244001_1, .int .u64 x244002_1] 25 (0, 0)) (zK BK243) hb); replace BK244 := Aside0.mk (blk_below (g := gb244) (o := .cells #[.bool false, .int .u64 0, .int .u64 0] 25 (0, 0)) (zK BK244) hb); replace HB := Aside0.mk (below_step (zB HB) hb); (try clear hb)))
       go_roundg k1
       case measure => have := HK1.out; omega
       case rel => exact ⟨(wrap64 (x7_1 + 1)), (x244001_1), (x244002_1), (by first | rfl | (simp; done) | (simp [*]; done)), H', ⟨by have := HK1.out; omega⟩, ⟨zK BK243⟩, ⟨zK BK244⟩, ⟨zB HB⟩⟩
     · rw [if_neg c9] at H
       have c9b0 : (t246 == a2) = false := by simpa using c9
       (try (have c9b1 : decide (t246 = a2) = false := by first | (simpa using c9) | exact decide_eq_true (Decidable.not_not.1 (fun hn => c9 (bne_iff_ne.2 hn))) | exact beq_iff_eq.2 (Decidable.not_not.1 (fun hn => c9 (bne_iff_ne.2 hn))) | exact decide_eq_false (bne_iff_ne.1 c9) | exact beq_eq_false_iff_ne.2 (bne_iff_ne.1 c9) | exact bne_iff_ne.1 c9))
       (try (have c9b2 : (t246 == a2) = false := by first | (simpa using c9) | exact decide_eq_true (Decidable.not_not.1 (fun hn => c9 (bne_iff_ne.2 hn))) | exact beq_iff_eq.2 (Decidable.not_not.1 (fun hn => c9 (bne_iff_ne.2 hn))) | exact decide_eq_false (bne_iff_ne.1 c9) | exact beq_eq_false_iff_ne.2 (bne_iff_ne.1 c9) | exact bne_iff_ne.1 c9))
       (try (have c9b3 : ¬ (t246 = a2) := by first | (simpa using c9) | exact decide_eq_true (Decidable.not_not.1 (fun hn => c9 (bne_iff_ne.2 hn))) | exact beq_iff_eq.2 (Decidable.not_not.1 (fun hn => c9 (bne_iff_ne.2 hn))) | exact decide_eq_false (bne_iff_ne.1 c9) | exact beq_eq_false_iff_ne.2 (bne_iff_ne.1 c9) | exact bne_iff_ne.1 c9))
       clear c9
       by_cases c15 : a0_0 = true
       · subst c15
         rw [if_pos rfl] at H
         by_cases c16 : x7_1 < 64
         · rw [if_pos c16] at H
           have c16b0 : decide (x7_1 < 64) = true := decide_eq_true c16
           clear c16
           obtain ⟨ji17, hji17⟩ : ∃ j_ : Int, (IntKind.u64.wrap (wrap64 (63 - x7_1))) = j_ := ⟨_, rfl⟩
           replace H : (if 0 ≤ (ji17) then (intrusionref06_with.l0 k1 a2 (wrap64 (x7_1 + 1)) true (Go.bits .xor .u64 x244001_1 (shl .u64 1 (ji17))) x244002_1) else (none)) = some (r1, r2, r3) := by first | (rw [hji17] at H; exact H) | (simp only [hji17] at H ⊢; exact H)
           (try rw [hji17] at A6)
           (try rw [hji17] at A8)
           by_cases c18 : 0 ≤ (ji17)
           · rw [if_pos c18] at H
             have c18b0 := eq_true c18
             have c18b1 : decide (0 ≤ (ji17)) = true := decide_eq_true c18
             clear c18
             obtain ⟨ji19, hji19⟩ : ∃ j_ : Int, (shl .u64 1 (ji17)) = j_ := ⟨_, rfl⟩
             replace H : (intrusionref06_with.l0 k1 a2 (wrap64 (x7_1 + 1)) true (Go.bits .xor .u64 x244001_1 (ji19)) x244002_1) = some (r1, r2, r3) := by first | (rw [hji19] at H; exact H) | (simp only [hji19] at H ⊢; exact H)
             (try rw [hji19] at A6)
             (try rw [hji19] at A8)
             have hji19_ : (IntKind.u64.wrap (1 * 2 ^ min (ji17).toNat 64)) = ji19 := hji19
             have hji19z : (ji17) ≤ 64 → (IntKind.u64.wrap (1 * 2 ^ (ji17).toNat)) = ji19 := shl_small hji19
             have hji19u : (IntKind.u64.wrap (2 ^ min (ji17).toNat 64)) = ji19 := by have h_ := hji19_; rw [Int.one_mul] at h_; exact h_
             have hji19v : (ji17) ≤ 64 → (IntKind.u64.wrap (2 ^ (ji17).toNat)) = ji19 := fun hle_ => by have h_ := hji19z hle_; rw [Int.one_mul] at h_; exact h_
             have H' := Aside0.mk H
             clear H
             have hnb20 := NB243_244.out
             have hnc20 := NB244_243.out
             obtain ⟨hcz21_0, hcz21_1, hcz21_2⟩ := zc3 BK243
             obtain ⟨hfz21_0, hfz21_1, hfz21_2⟩ := zf3 BK243
             go_wp2_with (first | ((with_reducible refine gate_callee (f := 47) rfl ?_); refine goesL_ (some 11) rfl rfl Tryd.func47 (by kernel_rfl) rfl #[.agg #[.bool true, .int .u64 x244001_1, .int .u64 x244002_1]] rfl (by (try simp only [List.map_toArray, List.map_cons, List.map_nil]); first | done | rfl | (simp only [List.length_drop, List.length_take]; rfl)) ?_; (with_reducible refine (intrusionref06_Width.calls true x244001_1 x244002_1 t245 _ A6.out).mono ?_); rintro e w22 ⟨rfl, hb⟩; refine ⟨_, rfl, ?_⟩; replace BK243 := Aside0.mk (blk_below (g := gb243) (o := .cells #[.bool true, .int .u64 x244001_1, .int .u64 x244002_1] 25 (0, 0)) (zK BK243) hb); replace BK244 := Aside0.mk (blk_below (g := gb244) (o := .cells #[.bool false, .int .u64 0, .int .u64 0] 25 (0, 0)) (zK BK244) hb); replace HB := Aside0.mk (below_step (zB HB) hb); (try clear hb); obtain ⟨hcz23_0, hcz23_1, hcz23_2⟩ := zc3 BK243; obtain ⟨hfz23_0, hfz23_1, hfz23_2⟩ := zf3 BK243) | ((with_reducible refine gate_callee (f := 69) rfl ?_); refine goesL_ (some 17) rfl rfl Tryd.func69 (by kernel_rfl) rfl #[.agg #[.bool true, .int .u64 x244001_1, .int .u64 x244002_1], .int .i64 x7_1] rfl (by (try simp only [List.map_toArray, List.map_cons, List.map_nil]); first | done | rfl | (simp only [List.length_drop, List.length_take]; rfl)) ?_; (with_reducible refine (intrusionref06_Bit.calls true x244001_1 x244002_1 x7_1 t246 _ A8.out).mono ?_); rintro e w24 ⟨rfl, hb⟩; refine ⟨_, rfl, ?_⟩; replace BK243 := Aside0.mk (blk_below (g := gb243) (o := .cells #[.bool true, .int .u64 x244001_1, .int .u64 x244002_1] 25 (0, 0)) (zK BK243) hb); replace BK244 := Aside0.mk (blk_below (g := gb244) (o := .cells #[.bool false, .int .u64 0, .int .u64 0] 25 (0, 0)) (zK BK244) hb); replace HB := Aside0.mk (below_step (zB HB) hb); (try clear hb); obtain ⟨hcz25_0, hcz25_1, hcz25_2⟩ := zc3 BK243; obtain ⟨hfz25_0, hfz25_1, hfz25_2⟩ := zf3 BK243))
             go_roundg k1
             case measure => have := HK1.out; omega
             case rel => exact ⟨(wrap64 (x7_1 + 1)), (Go.bits .xor .u64 x244001_1 (ji19)), (x244002_1), (by first | rfl | (simp; done) | (simp [*]; done)), H', ⟨by have := HK1.out; omega⟩, ⟨by refine zL ?_; refine blk_put (cs := #[.bool true, .int .u64 x244001_1, .int .u64 x244002_1]) ?_ 1 _ rfl; refine zL ?_; exact BK243.out⟩, ⟨by refine zL ?_; refine blk_far ?_ NB244_243.out _; refine zL ?_; exact BK244.out⟩, ⟨zB HB⟩⟩
           · rw [if_neg c18] at H
             exact absurd H (by simp)
         · rw [if_neg c16] at H
           have c16b0 : decide (x7_1 < 64) = false := decide_eq_false c16
           clear c16
           obtain ⟨ji26, hji26⟩ : ∃ j_ : Int, (IntKind.u64.wrap (wrap64 (127 - x7_1))) = j_ := ⟨_, rfl⟩
           replace H : (if 0 ≤ (ji26) then (intrusionref06_with.l0 k1 a2 (wrap64 (x7_1 + 1)) true x244001_1 (Go.bits .xor .u64 x244002_1 (shl .u64 1 (ji26)))) else (none)) = some (r1, r2, r3) := by first | (rw [hji26] at H; exact H) | (simp only [hji26] at H ⊢; exact H)
           (try rw [hji26] at A6)
           (try rw [hji26] at A8)
           by_cases c27 : 0 ≤ (ji26)
           · rw [if_pos c27] at H
             have c27b0 := eq_true c27
             have c27b1 : decide (0 ≤ (ji26)) = true := decide_eq_true c27
             clear c27
             obtain ⟨ji28, hji28⟩ : ∃ j_ : Int, (shl .u64 1 (ji26)) = j_ := ⟨_, rfl⟩
             replace H : (intrusionref06_with.l0 k1 a2 (wrap64 (x7_1 + 1)) true x244001_1 (Go.bits .xor .u64 x244002_1 (ji28))) = some (r1, r2, r3) := by first | (rw [hji28] at H; exact H) | (simp only [hji28] at H ⊢; exact H)
             (try rw [hji28] at A6)
             (try rw [hji28] at A8)
             have hji28_ : (IntKind.u64.wrap (1 * 2 ^ min (ji26).toNat 64)) = ji28 := hji28
             have hji28z : (ji26) ≤ 64 → (IntKind.u64.wrap (1 * 2 ^ (ji26).toNat)) = ji28 := shl_small hji28
             have hji28u : (IntKind.u64.wrap (2 ^ min (ji26).toNat 64)) = ji28 := by have h_ := hji28_; rw [Int.one_mul] at h_; exact h_
             have hji28v : (ji26) ≤ 64 → (IntKind.u64.wrap (2 ^ (ji26).toNat)) = ji28 := fun hle_ => by have h_ := hji28z hle_; rw [Int.one_mul] at h_; exact h_
             have H' := Aside0.mk H
             clear H
             have hnb29 := NB243_244.out
             have hnc29 := NB244_243.out
             obtain ⟨hcz30_0, hcz30_1, hcz30_2⟩ := zc3 BK243
             obtain ⟨hfz30_0, hfz30_1, hfz30_2⟩ := zf3 BK243
             go_wp2_with (first | ((with_reducible refine gate_callee (f := 47) rfl ?_); refine goesL_ (some 11) rfl rfl Tryd.func47 (by kernel_rfl) rfl #[.agg #[.bool true, .int .u64 x244001_1, .int .u64 x244002_1]] rfl (by (try simp only [List.map_toArray, List.map_cons, List.map_nil]); first | done | rfl | (simp only [List.length_drop, List.length_take]; rfl)) ?_; (with_reducible refine (intrusionref06_Width.calls true x244001_1 x244002_1 t245 _ A6.out).mono ?_); rintro e w31 ⟨rfl, hb⟩; refine ⟨_, rfl, ?_⟩; replace BK243 := Aside0.mk (blk_below (g := gb243) (o := .cells #[.bool true, .int .u64 x244001_1, .int .u64 x244002_1] 25 (0, 0)) (zK BK243) hb); replace BK244 := Aside0.mk (blk_below (g := gb244) (o := .cells #[.bool false, .int .u64 0, .int .u64 0] 25 (0, 0)) (zK BK244) hb); replace HB := Aside0.mk (below_step (zB HB) hb); (try clear hb); obtain ⟨hcz32_0, hcz32_1, hcz32_2⟩ := zc3 BK243; obtain ⟨hfz32_0, hfz32_1, hfz32_2⟩ := zf3 BK243) | ((with_reducible refine gate_callee (f := 69) rfl ?_); refine goesL_ (some 17) rfl rfl Tryd.func69 (by kernel_rfl) rfl #[.agg #[.bool true, .int .u64 x244001_1, .int .u64 x244002_1], .int .i64 x7_1] rfl (by (try simp only [List.map_toArray, List.map_cons, List.map_nil]); first | done | rfl | (simp only [List.length_drop, List.length_take]; rfl)) ?_; (with_reducible refine (intrusionref06_Bit.calls true x244001_1 x244002_1 x7_1 t246 _ A8.out).mono ?_); rintro e w33 ⟨rfl, hb⟩; refine ⟨_, rfl, ?_⟩; replace BK243 := Aside0.mk (blk_below (g := gb243) (o := .cells #[.bool true, .int .u64 x244001_1, .int .u64 x244002_1] 25 (0, 0)) (zK BK243) hb); replace BK244 := Aside0.mk (blk_below (g := gb244) (o := .cells #[.bool false, .int .u64 0, .int .u64 0] 25 (0, 0)) (zK BK244) hb); replace HB := Aside0.mk (below_step (zB HB) hb); (try clear hb); obtain ⟨hcz34_0, hcz34_1, hcz34_2⟩ := zc3 BK243; obtain ⟨hfz34_0, hfz34_1, hfz34_2⟩ := zf3 BK243))
             go_roundg k1
             case measure => have := HK1.out; omega
             case rel => exact ⟨(wrap64 (x7_1 + 1)), (x244001_1), (Go.bits .xor .u64 x244002_1 (ji28)), (by first | rfl | (simp; done) | (simp [*]; done)), H', ⟨by have := HK1.out; omega⟩, ⟨by refine zL ?_; refine blk_put (cs := #[.bool true, .int .u64 x244001_1, .int .u64 x244002_1]) ?_ 2 _ rfl; refine zL ?_; exact BK243.out⟩, ⟨by refine zL ?_; refine blk_far ?_ NB244_243.out _; refine zL ?_; exact BK244.out⟩, ⟨zB HB⟩⟩
           · rw [if_neg c27] at H
             exact absurd H (by simp)
       · replace c15 := Bool.eq_false_iff.mpr c15
         subst c15
         rw [if_neg zF] at H
         obtain ⟨ji35, hji35⟩ : ∃ j_ : Int, (IntKind.u64.wrap (wrap64 (31 - x7_1))) = j_ := ⟨_, rfl⟩
         replace H : (if 0 ≤ (ji35) then (intrusionref06_with.l0 k1 a2 (wrap64 (x7_1 + 1)) false x244001_1 (Go.bits .xor .u64 x244002_1 (shl .u64 1 (ji35)))) else (none)) = some (r1, r2, r3) := by first | (rw [hji35] at H; exact H) | (simp only [hji35] at H ⊢; exact H)
         (try rw [hji35] at A6)
         (try rw [hji35] at A8)
         by_cases c36 : 0 ≤ (ji35)
         · rw [if_pos c36] at H
           have c36b0 := eq_true c36
           have c36b1 : decide (0 ≤ (ji35)) = true := decide_eq_true c36
           clear c36
           obtain ⟨ji37, hji37⟩ : ∃ j_ : Int, (shl .u64 1 (ji35)) = j_ := ⟨_, rfl⟩
           replace H : (intrusionref06_with.l0 k1 a2 (wrap64 (x7_1 + 1)) false x244001_1 (Go.bits .xor .u64 x244002_1 (ji37))) = some (r1, r2, r3) := by first | (rw [hji37] at H; exact H) | (simp only [hji37] at H ⊢; exact H)
           (try rw [hji37] at A6)
           (try rw [hji37] at A8)
           have hji37_ : (IntKind.u64.wrap (1 * 2 ^ min (ji35).toNat 64)) = ji37 := hji37
           have hji37z : (ji35) ≤ 64 → (IntKind.u64.wrap (1 * 2 ^ (ji35).toNat)) = ji37 := shl_small hji37
           have hji37u : (IntKind.u64.wrap (2 ^ min (ji35).toNat 64)) = ji37 := by have h_ := hji37_; rw [Int.one_mul] at h_; exact h_
           have hji37v : (ji35) ≤ 64 → (IntKind.u64.wrap (2 ^ (ji35).toNat)) = ji37 := fun hle_ => by have h_ := hji37z hle_; rw [Int.one_mul] at h_; exact h_
           have H' := Aside0.mk H
           clear H
           have hnb38 := NB243_244.out
           have hnc38 := NB244_243.out
           obtain ⟨hcz39_0, hcz39_1, hcz39_2⟩ := zc3 BK243
           obtain ⟨hfz39_0, hfz39_1, hfz39_2⟩ := zf3 BK243
           go_wp2_with (first | ((with_reducible refine gate_callee (f := 47) rfl ?_); refine goesL_ (some 11) rfl rfl Tryd.func47 (by kernel_rfl) rfl #[.agg #[.bool false, .int .u64 x244001_1, .int .u64 x244002_1]] rfl (by (try simp only [List.map_toArray, List.map_cons, List.map_nil]); first | done | rfl | (simp only [List.length_drop, List.length_take]; rfl)) ?_; (with_reducible refine (intrusionref06_Width.calls false x244001_1 x244002_1 t245 _ A6.out).mono ?_); rintro e w40 ⟨rfl, hb⟩; refine ⟨_, rfl, ?_⟩; replace BK243 := Aside0.mk (blk_below (g := gb243) (o := .cells #[.bool false, .int .u64 x244001_1, .int .u64 x244002_1] 25 (0, 0)) (zK BK243) hb); replace BK244 := Aside0.mk (blk_below (g := gb244) (o := .cells #[.bool false, .int .u64 0, .int .u64 0] 25 (0, 0)) (zK BK244) hb); replace HB := Aside0.mk (below_step (zB HB) hb); (try clear hb); obtain ⟨hcz41_0, hcz41_1, hcz41_2⟩ := zc3 BK243; obtain ⟨hfz41_0, hfz41_1, hfz41_2⟩ := zf3 BK243) | ((with_reducible refine gate_callee (f := 69) rfl ?_); refine goesL_ (some 17) rfl rfl Tryd.func69 (by kernel_rfl) rfl #[.agg #[.bool false, .int .u64 x244001_1, .int .u64 x244002_1], .int .i64 x7_1] rfl (by (try simp only [List.map_toArray, List.map_cons, List.map_nil]); first | done | rfl | (simp only [List.length_drop, List.length_take]; rfl)) ?_; (with_reducible refine (intrusionref06_Bit.calls false x244001_1 x244002_1 x7_1 t246 _ A8.out).mono ?_); rintro e w42 ⟨rfl, hb⟩; refine ⟨_, rfl, ?_⟩; replace BK243 := Aside0.mk (blk_below (g := gb243) (o := .cells #[.bool false, .int .u64 x244001_1, .int .u64 x244002_1] 25 (0, 0)) (zK BK243) hb); replace BK244 := Aside0.mk (blk_below (g := gb244) (o := .cells #[.bool false, .int .u64 0, .int .u64 0] 25 (0, 0)) (zK BK244) hb); replace HB := Aside0.mk (below_step (zB HB) hb); (try clear hb); obtain ⟨hcz43_0, hcz43_1, hcz43_2⟩ := zc3 BK243; obtain ⟨hfz43_0, hfz43_1, hfz43_2⟩ := zf3 BK243))
           go_roundg k1
           case measure => have := HK1.out; omega
           case rel => exact ⟨(wrap64 (x7_1 + 1)), (x244001_1), (Go.bits .xor .u64 x244002_1 (ji37)), (by first | rfl | (simp; done) | (simp [*]; done)), H', ⟨by have := HK1.out; omega⟩, ⟨by refine zL ?_; refine blk_put (cs := #[.bool false, .int .u64 x244001_1, .int .u64 x244002_1]) ?_ 2 _ rfl; refine zL ?_; exact BK243.out⟩, ⟨by refine zL ?_; refine blk_far ?_ NB244_243.out _; refine zL ?_; exact BK244.out⟩, ⟨zB HB⟩⟩
         · rw [if_neg c36] at H
           exact absurd H (by simp)
   · rw [if_neg c7] at H
     have c7b0 : decide (x7_1 < t245) = false := decide_eq_false c7
     clear c7
     simp only [Option.some.injEq, Prod.mk.injEq] at H
     obtain ⟨rfl, rfl, rfl⟩ := H
     have hnb44 := NB243_244.out
     have hnc44 := NB244_243.out
     obtain ⟨hcz45_0, hcz45_1, hcz45_2⟩ := zc3 BK243
     obtain ⟨hfz45_0, hfz45_1, hfz45_2⟩ := zf3 BK243
     go_wp2_with (first | ((with_reducible refine gate_callee (f := 47) rfl ?_); refine goesL_ (some 11) rfl rfl Tryd.func47 (by kernel_rfl) rfl #[.agg #[.bool a0_0, .int .u64 x244001_1, .int .u64 x244002_1]] rfl (by (try simp only [List.map_toArray, List.map_cons, List.map_nil]); first | done | rfl | (simp only [List.length_drop, List.length_take]; rfl)) ?_; (with_reducible refine (intrusionref06_Width.calls a0_0 x244001_1 x244002_1 t245 _ A6.out).mono ?_); rintro e w46 ⟨rfl, hb⟩; refine ⟨_, rfl, ?_⟩; replace BK243 := Aside0.mk (blk_below (g := gb243) (o := .cells #[.bool a0_0, .int .u64 x244001_1, .int .u64 x244002_1] 25 (0, 0)) (zK BK243) hb); replace BK244 := Aside0.mk (blk_below (g := gb244) (o := .cells #[.bool false, .int .u64 0, .int .u64 0] 25 (0, 0)) (zK BK244) hb); replace HB := Aside0.mk (below_step (zB HB) hb); (try clear hb); obtain ⟨hcz47_0, hcz47_1, hcz47_2⟩ := zc3 BK243; obtain ⟨hfz47_0, hfz47_1, hfz47_2⟩ := zf3 BK243; obtain ⟨hcz48_0, hcz48_1, hcz48_2⟩ := zc3 BK244; obtain ⟨hfz48_0, hfz48_1, hfz48_2⟩ := zf3 BK244))
     refine bodyPost_ret (results_cell_row rfl _ _ gb244 25 #[.bool a0_0, .int .u64 x244001_1, .int .u64 x244002_1] (0, 0) _ rfl (by refine zL ?_; refine blk_put (cs := #[.bool a0_0, .int .u64 x244001_1, .int .u64 0]) ?_ 2 _ rfl; refine zL ?_; refine blk_put (cs := #[.bool a0_0, .int .u64 0, .int .u64 0]) ?_ 1 _ rfl; refine zL ?_; refine blk_put (cs := #[.bool false, .int .u64 0, .int .u64 0]) ?_ 0 _ rfl; refine zL ?_; exact BK244.out) Tryd.underlying25 rfl (by kernel_rfl)) rfl ?_
     exact ⟨by first | rfl | (simp [errW_none, errW_some] <;> rfl) | (simp [*, errW_none, errW_some] <;> rfl), by repeat (first | (with_reducible first | exact HB.out | apply below_alloc | apply pw_below_drewN | apply below_drew1 | refine below_set ?_ GE243.out | refine below_set ?_ GE244.out) | exact HB.out)⟩
end Go.Proofs.YtlgfinnldhjgeaaDoor.Q
end

section
namespace Go.Proofs.YtlgfinnldhjgeaaDoor.Q
open Go.RowKit Go.Proofs.YtlgfinnldhjgeaaDoorW.PrintWords Go.Proofs.YtlgfinnldhjgeaaDoorW.PrintLast Go.Proofs.YtlgfinnldhjgeaaDoorW.PrintMore
attribute [local go_sem] max2_int min2_int max_two min_two max_three min_three max_four min_four
set_option linter.unusedVariables false
set_option linter.unusedSimpArgs false
attribute [local go_sem high] eqA25
def intrusionref06_ValidPrefix.f (k : Nat) (a0_0 : Bool) (a0_1 : Int) (a0_2 : Int) (a0_3 : Int) : Option (Bool) := (intrusionref06_Valid.f a0_0 a0_1 a0_2).bind fun t248 => (if t248 = true then (if a0_3 ≥ 0 then ((intrusionref06_Width.f a0_0 a0_1 a0_2).bind fun t249 => (if a0_3 ≤ t249 then ((intrusionref06_with.f k a0_0 a0_1 a0_2 a0_3 false).bind fun bt250 => (some (bt250.1 == a0_0 && (bt250.2.1 == a0_1 && (bt250.2.2 == a0_2))))) else (some false))) else (some false)) else (some false))
theorem intrusionref06_ValidPrefix.mono : ∀ a0 a1 a2 a3 k, LeO (intrusionref06_ValidPrefix.f k a0 a1 a2 a3) (intrusionref06_ValidPrefix.f (k + 1) a0 a1 a2 a3) := by
  intro a0 a1 a2 a3 k
  unfold intrusionref06_ValidPrefix.f
  repeat' first
      | (with_reducible exact intrusionref06_with.mono _ _ _ _ _ _)
      | (with_reducible exact LeO.refl _)
      | (with_reducible exact LeO.none _)
      | (with_reducible refine LeO.ite ?_ ?_)
      | (with_reducible refine LeO.bind ?_ (fun _ => ?_))
      | exact intrusionref06_with.mono _ _ _ _ _ _
      | exact LeO.none _
      | refine LeO.ite ?_ ?_
      | refine LeO.bind ?_ (fun _ => ?_)
def intrusionref06_ValidPrefix.T1 : Bool × List (List Nat × List Nat) := (true, [([], []), ([0], [0]), ([1], [1]), ([2, 2], [2]), ([3], [3]), ([4, 3], [3, 4]), ([5, 3], [3, 5]), ([3, 6], [3, 6]), ([7, 3], [7]), ([8], [8]), ([9, 8], [8, 9]), ([8], [8]), ([11, 8], [8, 11]), ([12, 8, 8], [8, 12]), ([10, 13, 8], [8, 10, 13]), ([8, 14], [8, 14]), ([15, 13], [15]), ([16], [16]), ([17, 16], [16, 17]), ([16], [16]), ([19, 16], [16, 19]), ([18, 20, 16, 16], [16, 18, 20]), ([16], [16]), ([22, 16], [16, 22]), ([21, 23, 16], [16, 21, 23]), ([16, 24], [16, 24]), ([25, 21, 0, 1, 2, 3, 4, 5, 6, 7, 8, 9, 10, 11, 12, 13, 14, 15, 16, 17, 18, 19, 20, 21, 22, 23, 24, 25], [25])])
def intrusionref06_ValidPrefix.B1 : List Nat := [0, 1, 3, 7, 15, 31, 63, 127, 255, 511, 1023, 511, 2559, 6655, 16383, 32767, 65535, 131071, 262143, 131071, 655359, 2097151, 131071, 4325375, 16777215, 33554431, 67108863]
theorem intrusionref06_ValidPrefix.tab1 : rtab .any (opsOf Tryd.f32 1) = intrusionref06_ValidPrefix.T1 := by kernel_rfl
theorem intrusionref06_ValidPrefix.bits1 : waitsOk intrusionref06_ValidPrefix.T1.2 intrusionref06_ValidPrefix.B1 = true := by kernel_rfl
set_option maxHeartbeats 8000000 in
set_option maxRecDepth 100000 in
theorem intrusionref06_ValidPrefix.calls (k : Nat) (a0_0 : Bool) (a0_1 : Int) (a0_2 : Int) (a0_3 : Int) (r : Bool) (w : World) (h : intrusionref06_ValidPrefix.f k a0_0 a0_1 a0_2 a0_3 = some r) :
 Calls Tryd.prog 32 #[.agg #[.bool a0_0, .int .u64 a0_1, .int .u64 a0_2, .int .i64 a0_3]] w fun e w' => e = .returned (.bool r) ∧ Below w.heap.size w w' := by
 have hu30 := Tryd.underlying30
 have hu25 := Tryd.underlying25
 have HB := Aside0.mk (Below.refl w.heap.size w)
 unfold intrusionref06_ValidPrefix.f at h; have H := h
 clear h
 replace H := Option.bind_eq_some_iff.mp H
 obtain ⟨t248, A20, H⟩ := H
 try dsimp only at H
 have A2 := Aside0.mk A20
 clear A20
 by_cases c3 : t248 = true
 · subst c3
   rw [if_pos rfl] at H
   by_cases c4 : a0_3 ≥ 0
   · rw [if_pos c4] at H
     have c4b0 : decide (0 ≤ a0_3) = true := decide_eq_true c4
     clear c4
     replace H := Option.bind_eq_some_iff.mp H
     obtain ⟨t249, A50, H⟩ := H
     try dsimp only at H
     have A5 := Aside0.mk A50
     clear A50
     by_cases c6 : a0_3 ≤ t249
     · rw [if_pos c6] at H
       have c6b0 : decide (a0_3 ≤ t249) = true := decide_eq_true c6
       clear c6
       replace H := Option.bind_eq_some_iff.mp H
       obtain ⟨⟨t250, t251, t252⟩, A70, H⟩ := H
       try dsimp only at H
       have A7 := Aside0.mk A70
       clear A70
       obtain rfl := Option.some.inj H
       go_enter Tryd.func32, Tryd.ntmps32
       try go_wp2_with (first | ((with_reducible refine gate_dst (N := 1) rfl ?_); refine zx 1 #[.bool a0_0, .int .u64 a0_1, .int .u64 a0_2, .int .i64 a0_3] 30 ?_; intro gb247 hg w8 hbox hb; have BK247 := Aside0.mk (hbox); have GW247 := Aside0.mk ((by rw [hg]; exact (below_size (zB HB)) : w.heap.size ≤ gb247)); have GE247 := Aside0.mk ((by rw [hg]; exact (below_size (zB HB)) : w.heap.size ≤ gb247)); replace HB := Aside0.mk (below_step (zB HB) hb); clear hb hbox hg))
       replace BK247 := Aside0.mk (blk_drew BK247.out)
       replace HB := Aside0.mk (below_drew1 HB.out)
       refine start_ (n := 27) (S := fun w' => w'.cell? ⟨gb247, 0, none⟩ = some (.bool a0_0) ∧ w'.cell? ⟨gb247, 1, none⟩ = some (.int .u64 a0_1) ∧ w'.cell? ⟨gb247, 2, none⟩ = some (.int .u64 a0_2) ∧ w'.cell? ⟨gb247, 3, none⟩ = some (.int .i64 a0_3)) (ds := []) #[false, false, false, false, false, false, false, false, false, false, false, false, false, false, false, false, false, false, false, false, false, false, false, false, false, false, false] (by kernel_rfl) rfl rfl ⟨zc BK247 0, zc BK247 1, zc BK247 2, zc BK247 3⟩ (fun hHeld => ?_); refine with_tabW intrusionref06_ValidPrefix.tab1 intrusionref06_ValidPrefix.bits1 (fun HT_ HW_ => ?_)
       generalize w8.drew = w9 at BK247 HB hHeld ⊢
       refine zp 0 3 HT_ ?_; refine zt 1 4 HT_ HW_ hHeld ?_; refine zo 2 5 HT_ (fun K hK => ?_)
       refine zg Tryd.func15 #[.agg #[.bool a0_0, .int .u64 a0_1, .int .u64 a0_2]] ?_
       with_reducible refine (intrusionref06_Valid.calls a0_0 a0_1 a0_2 true _ A2.out).mono ?_
       rintro e w10 ⟨rfl, hb⟩
       refine ⟨_, rfl, ?_⟩
       replace BK247 := Aside0.mk (blk_below (g := gb247) (o := .cells #[.bool a0_0, .int .u64 a0_1, .int .u64 a0_2, .int .i64 a0_3] 30 (0, 0)) (zK BK247) hb)
       replace HB := Aside0.mk (below_step (zB HB) hb)
       (try clear hb)
       refine hK.out _ _ ⟨zc BK247 0, zc BK247 1, zc BK247 2, zc BK247 3⟩ (fun hHeld => ?_)
       clear hK K
       refine zn 5 ?_; refine zp 3 6 HT_ ?_; refine zp 4 7 HT_ ?_; refine zt 5 8 HT_ HW_ hHeld ?_; refine zp 6 9 HT_ ?_; refine zp 7 10 HT_ ?_; refine zp 8 11 HT_ ?_; refine zp 9 12 HT_ ?_; refine zp 11 14 HT_ ?_; refine zt 10 13 HT_ HW_ hHeld ?_; refine zt 12 15 HT_ HW_ hHeld ?_; refine zo 13 16 HT_ (fun K hK => ?_)
       refine zg Tryd.func47 #[.agg #[.bool a0_0, .int .u64 a0_1, .int .u64 a0_2]] ?_
       with_reducible refine (intrusionref06_Width.calls a0_0 a0_1 a0_2 t249 _ A5.out).mono ?_
       rintro e w11 ⟨rfl, hb⟩
       refine ⟨_, rfl, ?_⟩
       replace BK247 := Aside0.mk (blk_below (g := gb247) (o := .cells #[.bool a0_0, .int .u64 a0_1, .int .u64 a0_2, .int .i64 a0_3] 30 (0, 0)) (zK BK247) hb)
       replace HB := Aside0.mk (below_step (zB HB) hb)
       (try clear hb)
       refine hK.out _ _ ⟨zc BK247 0, zc BK247 1, zc BK247 2, zc BK247 3⟩ (fun hHeld => ?_)
       clear hK K
       refine zn 16 ?_; refine zp 14 17 HT_ ?_; refine zp 15 18 HT_ ?_; refine zp 16 19 HT_ ?_; refine zp 17 20 HT_ ?_; refine zp 19 22 HT_ ?_; refine zp 22 25 HT_ ?_; refine zt 18 21 HT_ HW_ hHeld ?_; refine zt 20 23 HT_ HW_ hHeld ?_; refine zt 23 26 HT_ HW_ hHeld ?_; refine zo 21 24 HT_ (fun K hK => ?_)
       refine zg Tryd.func50 #[.agg #[.bool a0_0, .int .u64 a0_1, .int .u64 a0_2], .int .i64 a0_3, .bool false] ?_
       with_reducible refine (intrusionref06_with.calls k a0_0 a0_1 a0_2 a0_3 false t250 t251 t252 _ A7.out).mono ?_
       rintro e w12 ⟨rfl, hb⟩
       refine ⟨_, rfl, ?_⟩
       replace BK247 := Aside0.mk (blk_below (g := gb247) (o := .cells #[.bool a0_0, .int .u64 a0_1, .int .u64 a0_2, .int .i64 a0_3] 30 (0, 0)) (zK BK247) hb)
       replace HB := Aside0.mk (below_step (zB HB) hb)
       (try clear hb)
       refine hK.out _ _ ⟨zc BK247 0, zc BK247 1, zc BK247 2, zc BK247 3⟩ (fun hHeld => ?_)
       clear hK K
       refine zn 24 ?_; refine zp 24 27 HT_ ?_; refine zp 25 28 HT_ ?_; refine zp 26 2 HT_ ?_; refine zd HT_ ?_
       try go_wp2
       go_ret
       exact ⟨by first | rfl | (simp [errW_none, errW_some] <;> rfl) | (simp [*, errW_none, errW_some] <;> rfl), by repeat (first | (with_reducible first | exact HB.out | apply below_alloc | apply pw_below_drewN | apply below_drew1 | refine below_set ?_ GE247.out) | exact HB.out)⟩
     · rw [if_neg c6] at H
       have c6b0 : decide (a0_3 ≤ t249) = false := decide_eq_false c6
       clear c6
       obtain rfl := Option.some.inj H
       go_enter Tryd.func32, Tryd.ntmps32
       try go_wp2_with (first | ((with_reducible refine gate_dst (N := 1) rfl ?_); refine zx 1 #[.bool a0_0, .int .u64 a0_1, .int .u64 a0_2, .int .i64 a0_3] 30 ?_; intro gb247 hg w13 hbox hb; have BK247 := Aside0.mk (hbox); have GW247 := Aside0.mk ((by rw [hg]; exact (below_size (zB HB)) : w.heap.size ≤ gb247)); have GE247 := Aside0.mk ((by rw [hg]; exact (below_size (zB HB)) : w.heap.size ≤ gb247)); replace HB := Aside0.mk (below_step (zB HB) hb); clear hb hbox hg))
       replace BK247 := Aside0.mk (blk_drew BK247.out)
       replace HB := Aside0.mk (below_drew1 HB.out)
       refine start_ (n := 27) (S := fun w' => w'.cell? ⟨gb247, 0, none⟩ = some (.bool a0_0) ∧ w'.cell? ⟨gb247, 1, none⟩ = some (.int .u64 a0_1) ∧ w'.cell? ⟨gb247, 2, none⟩ = some (.int .u64 a0_2) ∧ w'.cell? ⟨gb247, 3, none⟩ = some (.int .i64 a0_3)) (ds := []) #[false, false, false, false, false, false, false, false, false, false, false, false, false, false, false, false, false, false, false, false, false, false, false, false, false, false, false] (by kernel_rfl) rfl rfl ⟨zc BK247 0, zc BK247 1, zc BK247 2, zc BK247 3⟩ (fun hHeld => ?_); refine with_tabW intrusionref06_ValidPrefix.tab1 intrusionref06_ValidPrefix.bits1 (fun HT_ HW_ => ?_)
       generalize w13.drew = w14 at BK247 HB hHeld ⊢
       refine zp 0 3 HT_ ?_; refine zt 1 4 HT_ HW_ hHeld ?_; refine zo 2 5 HT_ (fun K hK => ?_)
       refine zg Tryd.func15 #[.agg #[.bool a0_0, .int .u64 a0_1, .int .u64 a0_2]] ?_
       with_reducible refine (intrusionref06_Valid.calls a0_0 a0_1 a0_2 true _ A2.out).mono ?_
       rintro e w15 ⟨rfl, hb⟩
       refine ⟨_, rfl, ?_⟩
       replace BK247 := Aside0.mk (blk_below (g := gb247) (o := .cells #[.bool a0_0, .int .u64 a0_1, .int .u64 a0_2, .int .i64 a0_3] 30 (0, 0)) (zK BK247) hb)
       replace HB := Aside0.mk (below_step (zB HB) hb)
       (try clear hb)
       refine hK.out _ _ ⟨zc BK247 0, zc BK247 1, zc BK247 2, zc BK247 3⟩ (fun hHeld => ?_)
       clear hK K
       refine zn 5 ?_; refine zp 3 6 HT_ ?_; refine zp 4 7 HT_ ?_; refine zt 5 8 HT_ HW_ hHeld ?_; refine zp 6 9 HT_ ?_; refine zp 7 10 HT_ ?_; refine zp 8 11 HT_ ?_; refine zp 9 12 HT_ ?_; refine zp 11 14 HT_ ?_; refine zt 10 13 HT_ HW_ hHeld ?_; refine zt 12 15 HT_ HW_ hHeld ?_; refine zo 13 16 HT_ (fun K hK => ?_)
       refine zg Tryd.func47 #[.agg #[.bool a0_0, .int .u64 a0_1, .int .u64 a0_2]] ?_
       with_reducible refine (intrusionref06_Width.calls a0_0 a0_1 a0_2 t249 _ A5.out).mono ?_
       rintro e w16 ⟨rfl, hb⟩
       refine ⟨_, rfl, ?_⟩
       replace BK247 := Aside0.mk (blk_below (g := gb247) (o := .cells #[.bool a0_0, .int .u64 a0_1, .int .u64 a0_2, .int .i64 a0_3] 30 (0, 0)) (zK BK247) hb)
       replace HB := Aside0.mk (below_step (zB HB) hb)
       (try clear hb)
       refine hK.out _ _ ⟨zc BK247 0, zc BK247 1, zc BK247 2, zc BK247 3⟩ (fun hHeld => ?_)
       clear hK K
       refine zn 16 ?_; refine zp 14 17 HT_ ?_; refine zp 15 18 HT_ ?_; refine zp 16 19 HT_ ?_; refine zu 17 20 HT_ ?_; refine zu 18 21 HT_ ?_; refine zu 19 22 HT_ ?_; refine zu 20 23 HT_ ?_; refine zu 21 24 HT_ ?_; refine zu 22 25 HT_ ?_; refine zu 23 26 HT_ ?_; refine zu 24 27 HT_ ?_; refine zp 25 28 HT_ ?_; refine zp 26 2 HT_ ?_; refine zd HT_ ?_
       try go_wp2
       go_ret
       exact ⟨by first | rfl | (simp [errW_none, errW_some] <;> rfl) | (simp [*, errW_none, errW_some] <;> rfl), by repeat (first | (with_reducible first | exact HB.out | apply below_alloc | apply pw_below_drewN | apply below_drew1 | refine below_set ?_ GE247.out) | exact HB.out)⟩
   · rw [if_neg c4] at H
     have c4b0 : decide (0 ≤ a0_3) = false := decide_eq_false c4
     clear c4
     obtain rfl := Option.some.inj H
     go_enter Tryd.func32, Tryd.ntmps32
     try go_wp2_with (first | ((with_reducible refine gate_dst (N := 1) rfl ?_); refine zx 1 #[.bool a0_0, .int .u64 a0_1, .int .u64 a0_2, .int .i64 a0_3] 30 ?_; intro gb247 hg w17 hbox hb; have BK247 := Aside0.mk (hbox); have GW247 := Aside0.mk ((by rw [hg]; exact (below_size (zB HB)) : w.heap.size ≤ gb247)); have GE247 := Aside0.mk ((by rw [hg]; exact (below_size (zB HB)) : w.heap.size ≤ gb247)); replace HB := Aside0.mk (below_step (zB HB) hb); clear hb hbox hg))
     replace BK247 := Aside0.mk (blk_drew BK247.out)
     replace HB := Aside0.mk (below_drew1 HB.out)
     refine start_ (n := 27) (S := fun w' => w'.cell? ⟨gb247, 0, none⟩ = some (.bool a0_0) ∧ w'.cell? ⟨gb247, 1, none⟩ = some (.int .u64 a0_1) ∧ w'.cell? ⟨gb247, 2, none⟩ = some (.int .u64 a0_2) ∧ w'.cell? ⟨gb247, 3, none⟩ = some (.int .i64 a0_3)) (ds := []) #[false, false, false, false, false, false, false, false, false, false, false, false, false, false, false, false, false, false, false, false, false, false, false, false, false, false, false] (by kernel_rfl) rfl rfl ⟨zc BK247 0, zc BK247 1, zc BK247 2, zc BK247 3⟩ (fun hHeld => ?_); refine with_tabW intrusionref06_ValidPrefix.tab1 intrusionref06_ValidPrefix.bits1 (fun HT_ HW_ => ?_)
     generalize w17.drew = w18 at BK247 HB hHeld ⊢
     refine zp 0 3 HT_ ?_; refine zt 1 4 HT_ HW_ hHeld ?_; refine zo 2 5 HT_ (fun K hK => ?_)
     refine zg Tryd.func15 #[.agg #[.bool a0_0, .int .u64 a0_1, .int .u64 a0_2]] ?_
     with_reducible refine (intrusionref06_Valid.calls a0_0 a0_1 a0_2 true _ A2.out).mono ?_
     rintro e w19 ⟨rfl, hb⟩
     refine ⟨_, rfl, ?_⟩
     replace BK247 := Aside0.mk (blk_below (g := gb247) (o := .cells #[.bool a0_0, .int .u64 a0_1, .int .u64 a0_2, .int .i64 a0_3] 30 (0, 0)) (zK BK247) hb)
     replace HB := Aside0.mk (below_step (zB HB) hb)
     (try clear hb)
     refine hK.out _ _ ⟨zc BK247 0, zc BK247 1, zc BK247 2, zc BK247 3⟩ (fun hHeld => ?_)
     clear hK K
     refine zn 5 ?_; refine zp 3 6 HT_ ?_; refine zp 4 7 HT_ ?_; refine zt 5 8 HT_ HW_ hHeld ?_; refine zp 6 9 HT_ ?_; refine zp 7 10 HT_ ?_; refine zp 8 11 HT_ ?_; refine zu 9 12 HT_ ?_; refine zu 10 13 HT_ ?_; refine zu 11 14 HT_ ?_; refine zu 12 15 HT_ ?_; refine zu 13 16 HT_ ?_; refine zu 14 17 HT_ ?_; refine zp 15 18 HT_ ?_; refine zp 16 19 HT_ ?_; refine zu 17 20 HT_ ?_; refine zu 18 21 HT_ ?_; refine zu 19 22 HT_ ?_; refine zu 20 23 HT_ ?_; refine zu 21 24 HT_ ?_; refine zu 22 25 HT_ ?_; refine zu 23 26 HT_ ?_; refine zu 24 27 HT_ ?_; refine zp 25 28 HT_ ?_; refine zp 26 2 HT_ ?_; refine zd HT_ ?_
     try go_wp2
     go_ret
     exact ⟨by first | rfl | (simp [errW_none, errW_some] <;> rfl) | (simp [*, errW_none, errW_some] <;> rfl), by repeat (first | (with_reducible first | exact HB.out | apply below_alloc | apply pw_below_drewN | apply below_drew1 | refine below_set ?_ GE247.out) | exact HB.out)⟩
 · replace c3 := Bool.eq_false_iff.mpr c3
   subst c3
   rw [if_neg zF] at H
   obtain rfl := Option.some.inj H
   go_enter Tryd.func32, Tryd.ntmps32
   try go_wp2_with (first | ((with_reducible refine gate_dst (N := 1) rfl ?_); refine zx 1 #[.bool a0_0, .int .u64 a0_1, .int .u64 a0_2, .int .i64 a0_3] 30 ?_; intro gb247 hg w20 hbox hb; have BK247 := Aside0.mk (hbox); have GW247 := Aside0.mk ((by rw [hg]; exact (below_size (zB HB)) : w.heap.size ≤ gb247)); have GE247 := Aside0.mk ((by rw [hg]; exact (below_size (zB HB)) : w.heap.size ≤ gb247)); replace HB := Aside0.mk (below_step (zB HB) hb); clear hb hbox hg))
   replace BK247 := Aside0.mk (blk_drew BK247.out)
   replace HB := Aside0.mk (below_drew1 HB.out)
   refine start_ (n := 27) (S := fun w' => w'.cell? ⟨gb247, 0, none⟩ = some (.bool a0_0) ∧ w'.cell? ⟨gb247, 1, none⟩ = some (.int .u64 a0_1) ∧ w'.cell? ⟨gb247, 2, none⟩ = some (.int .u64 a0_2) ∧ w'.cell? ⟨gb247, 3, none⟩ = some (.int .i64 a0_3)) (ds := []) #[false, false, false, false, false, false, false, false, false, false, false, false, false, false, false, false, false, false, false, false, false, false, false, false, false, false, false] (by kernel_rfl) rfl rfl ⟨zc BK247 0, zc BK247 1, zc BK247 2, zc BK247 3⟩ (fun hHeld => ?_); refine with_tabW intrusionref06_ValidPrefix.tab1 intrusionref06_ValidPrefix.bits1 (fun HT_ HW_ => ?_)
   generalize w20.drew = w21 at BK247 HB hHeld ⊢
   refine zp 0 3 HT_ ?_; refine zt 1 4 HT_ HW_ hHeld ?_; refine zo 2 5 HT_ (fun K hK => ?_)
   refine zg Tryd.func15 #[.agg #[.bool a0_0, .int .u64 a0_1, .int .u64 a0_2]] ?_
   with_reducible refine (intrusionref06_Valid.calls a0_0 a0_1 a0_2 false _ A2.out).mono ?_
   rintro e w22 ⟨rfl, hb⟩
   refine ⟨_, rfl, ?_⟩
   replace BK247 := Aside0.mk (blk_below (g := gb247) (o := .cells #[.bool a0_0, .int .u64 a0_1, .int .u64 a0_2, .int .i64 a0_3] 30 (0, 0)) (zK BK247) hb)
   replace HB := Aside0.mk (below_step (zB HB) hb)
   (try clear hb)
   refine hK.out _ _ ⟨zc BK247 0, zc BK247 1, zc BK247 2, zc BK247 3⟩ (fun hHeld => ?_)
   clear hK K
   refine zn 5 ?_; refine zp 3 6 HT_ ?_; refine zu 4 7 HT_ ?_; refine zu 5 8 HT_ ?_; refine zu 6 9 HT_ ?_; refine zp 7 10 HT_ ?_; refine zp 8 11 HT_ ?_; refine zu 9 12 HT_ ?_; refine zu 10 13 HT_ ?_; refine zu 11 14 HT_ ?_; refine zu 12 15 HT_ ?_; refine zu 13 16 HT_ ?_; refine zu 14 17 HT_ ?_; refine zp 15 18 HT_ ?_; refine zp 16 19 HT_ ?_; refine zu 17 20 HT_ ?_; refine zu 18 21 HT_ ?_; refine zu 19 22 HT_ ?_; refine zu 20 23 HT_ ?_; refine zu 21 24 HT_ ?_; refine zu 22 25 HT_ ?_; refine zu 23 26 HT_ ?_; refine zu 24 27 HT_ ?_; refine zp 25 28 HT_ ?_; refine zp 26 2 HT_ ?_; refine zd HT_ ?_
   try go_wp2
   go_ret
   exact ⟨by first | rfl | (simp [errW_none, errW_some] <;> rfl) | (simp [*, errW_none, errW_some] <;> rfl), by repeat (first | (with_reducible first | exact HB.out | apply below_alloc | apply pw_below_drewN | apply below_drew1 | refine below_set ?_ GE247.out) | exact HB.out)⟩
end Go.Proofs.YtlgfinnldhjgeaaDoor.Q
end

section
namespace Go.Proofs.YtlgfinnldhjgeaaDoor.Q
open Go.RowKit Go.Proofs.YtlgfinnldhjgeaaDoorW.PrintWords Go.Proofs.YtlgfinnldhjgeaaDoorW.PrintLast Go.Proofs.YtlgfinnldhjgeaaDoorW.PrintMore
attribute [local go_sem] max2_int min2_int max_two min_two max_three min_three max_four min_four
set_option linter.unusedVariables false
set_option linter.unusedSimpArgs false
def intrusionref06_ParsePrefix.j0 : Nat → Int → Bool → Int → Int → Option (Bool × Int × Int × Int × Int)
  | 0, _, _, _, _ => none
  | k + 1, x7, x263000, x263001, x263002 => if x7 = (-1) then (some (false, 0, 0, 0, 2)) else (if x7 = (-2) then (some (false, 0, 0, 0, 4)) else ((intrusionref06_ValidPrefix.f k x263000 x263001 x263002 x7).bind fun t268 => (if t268 = true then (some (x263000, x263001, x263002, x7, 0)) else (some (false, 0, 0, 0, 2)))))
def intrusionref06_ParsePrefix.f (k : Nat) (a0 : ByteArray) : Option (Bool × Int × Int × Int × Int) := if (a0.size : Int) > 64 then (some (false, 0, 0, 0, 3)) else ((intrusionref06_Split.f k a0 47).bind fun t254 => (if 0 < (t254.length : Int) then ((intrusionref06_Parse.f k (rdOf ByteArray.empty t254 0)).bind fun bt258 => (if bt258.2.2.2 = 0 then ((intrusionref06_Width.f bt258.1 bt258.2.1 bt258.2.2.1).bind fun t263 => (if (t254.length : Int) > 1 then (if 0 ≤ (wrap64 (((rdOf ByteArray.empty t254 0).size : Int) + 1)) then (if (wrap64 (((rdOf ByteArray.empty t254 0).size : Int) + 1)) ≤ (a0.size : Int) then ((intrusionref06_Width.f bt258.1 bt258.2.1 bt258.2.2.1).bind fun t265 => ((intrusionref06_Decimal.f k (a0.extract ((wrap64 (((rdOf ByteArray.empty t254 0).size : Int) + 1)) : Int).toNat a0.size) t265).bind fun t266 => (intrusionref06_ParsePrefix.j0 k t266 bt258.1 bt258.2.1 bt258.2.2.1))) else (none)) else (none)) else (intrusionref06_ParsePrefix.j0 k t263 bt258.1 bt258.2.1 bt258.2.2.1))) else (some (false, 0, 0, 0, bt258.2.2.2)))) else (none)))
theorem intrusionref06_ParsePrefix.mono_l : ∀ k, (∀ y0 y1 y2 y3, LeO (intrusionref06_ParsePrefix.j0 k y0 y1 y2 y3) (intrusionref06_ParsePrefix.j0 (k + 1) y0 y1 y2 y3))
  | 0 => fun _ _ _ _ r h => by simp [intrusionref06_ParsePrefix.j0] at h
  | k + 1 => by
    have ih0 := intrusionref06_ParsePrefix.mono_l k
    · intro y0 y1 y2 y3
      unfold intrusionref06_ParsePrefix.j0
      repeat' first
      | (with_reducible exact ih0 _ _ _ _)
      | (with_reducible exact intrusionref06_Decimal.mono _ _ _)
      | (with_reducible exact intrusionref06_Parse.mono _ _)
      | (with_reducible exact intrusionref06_Split.mono _ _ _)
      | (with_reducible exact intrusionref06_ValidPrefix.mono _ _ _ _ _)
      | (with_reducible exact LeO.refl _)
      | (with_reducible exact LeO.none _)
      | (with_reducible refine LeO.ite ?_ ?_)
      | (with_reducible refine LeO.bind ?_ (fun _ => ?_))
      | exact ih0 _ _ _ _
      | exact intrusionref06_Decimal.mono _ _ _
      | exact intrusionref06_Parse.mono _ _
      | exact intrusionref06_Split.mono _ _ _
      | exact intrusionref06_ValidPrefix.mono _ _ _ _ _
      | exact LeO.none _
      | refine LeO.ite ?_ ?_
      | refine LeO.bind ?_ (fun _ => ?_)
theorem intrusionref06_ParsePrefix.mono : ∀ a0 k, LeO (intrusionref06_ParsePrefix.f k a0) (intrusionref06_ParsePrefix.f (k + 1) a0) := by
  intro a0 k
  have ih0 := intrusionref06_ParsePrefix.mono_l k
  unfold intrusionref06_ParsePrefix.f
  repeat' first
      | (with_reducible exact ih0 _ _ _ _)
      | (with_reducible exact intrusionref06_Decimal.mono _ _ _)
      | (with_reducible exact intrusionref06_Parse.mono _ _)
      | (with_reducible exact intrusionref06_Split.mono _ _ _)
      | (with_reducible exact intrusionref06_ValidPrefix.mono _ _ _ _ _)
      | (with_reducible exact LeO.refl _)
      | (with_reducible exact LeO.none _)
      | (with_reducible refine LeO.ite ?_ ?_)
      | (with_reducible refine LeO.bind ?_ (fun _ => ?_))
      | exact ih0 _ _ _ _
      | exact intrusionref06_Decimal.mono _ _ _
      | exact intrusionref06_Parse.mono _ _
      | exact intrusionref06_Split.mono _ _ _
      | exact intrusionref06_ValidPrefix.mono _ _ _ _ _
      | exact LeO.none _
      | refine LeO.ite ?_ ?_
      | refine LeO.bind ?_ (fun _ => ?_)
def intrusionref06_ParsePrefix.T9 : Bool × List (List Nat × List Nat) := (true, [([], []), ([], []), ([1], [1]), ([2], [2]), ([3], [3]), ([4], [4]), ([0, 5], [0, 5]), ([], []), ([7], [7]), ([6, 8, 8], [6, 8]), ([9, 9, 0, 1, 2, 3, 4, 5, 6, 7, 8, 9], [9])])
def intrusionref06_ParsePrefix.B9 : List Nat := [0, 0, 2, 6, 14, 30, 63, 0, 128, 511, 1023]
theorem intrusionref06_ParsePrefix.tab9 : rtab .any (opsOf Tryd.f14 9) = intrusionref06_ParsePrefix.T9 := by kernel_rfl
theorem intrusionref06_ParsePrefix.bits9 : waitsOk intrusionref06_ParsePrefix.T9.2 intrusionref06_ParsePrefix.B9 = true := by kernel_rfl
set_option maxHeartbeats 8000000 in
set_option maxRecDepth 100000 in
theorem intrusionref06_ParsePrefix.calls (k : Nat) (a0 : ByteArray) (r1 : Bool) (r2 : Int) (r3 : Int) (r4 : Int) (r5 : Int) (w : World) (h : intrusionref06_ParsePrefix.f k a0 = some (r1, r2, r3, r4, r5)) :
 Calls Tryd.prog 14 #[.string a0] w fun e w' => e = .returned (.tuple #[.agg #[.bool r1, .int .u64 r2, .int .u64 r3, .int .i64 r4], .int .i64 r5]) ∧ Below w.heap.size w w' := by
 have hu30 := Tryd.underlying30
 have hu25 := Tryd.underlying25
 have HB := Aside0.mk (Below.refl w.heap.size w)
 unfold intrusionref06_ParsePrefix.f at h; have H := h
 clear h
 by_cases c2 : (a0.size : Int) > 64
 · rw [if_pos c2] at H
   have c2b0 : decide (64 < (a0.size : Int)) = true := decide_eq_true c2
   have c2b1 : decide (64 < a0.size) = true := decide_eq_true (by omega)
   clear c2
   simp only [Option.some.injEq, Prod.mk.injEq] at H
   obtain ⟨rfl, rfl, rfl, rfl, rfl⟩ := H
   go_enter Tryd.func14, Tryd.ntmps14
   go_wp2_with (first | ((with_reducible refine gate_dst (N := 2) rfl ?_); refine zx 2 #[.bool false, .int .u64 0, .int .u64 0, .int .i64 0] 30 ?_; intro gb253 hg w3 hbox hb; have BK253 := Aside0.mk (hbox); have GW253 := Aside0.mk ((by rw [hg]; exact (below_size (zB HB)) : w.heap.size ≤ gb253)); have GE253 := Aside0.mk ((by rw [hg]; exact (below_size (zB HB)) : w.heap.size ≤ gb253)); replace HB := Aside0.mk (below_step (zB HB) hb); clear hb hbox hg; obtain ⟨hcz4_0, hcz4_1, hcz4_2, hcz4_3⟩ := zc4 BK253; obtain ⟨hfz4_0, hfz4_1, hfz4_2, hfz4_3⟩ := zf4 BK253))
   refine bodyPost_ret (results_ct rfl _ _ gb253 30 #[.bool false, .int .u64 0, .int .u64 0, .int .i64 0] (0, 0) _ rfl (by refine zL ?_; refine blk_put (cs := #[.bool false, .int .u64 0, .int .u64 0, .int .i64 0]) ?_ 3 _ rfl; refine zL ?_; refine blk_put (cs := #[.bool false, .int .u64 0, .int .u64 0, .int .i64 0]) ?_ 2 _ rfl; refine zL ?_; refine blk_put (cs := #[.bool false, .int .u64 0, .int .u64 0, .int .i64 0]) ?_ 1 _ rfl; refine zL ?_; refine blk_put (cs := #[.bool false, .int .u64 0, .int .u64 0, .int .i64 0]) ?_ 0 _ rfl; refine zL ?_; exact BK253.out) Tryd.underlying30 rfl (by kernel_rfl)) rfl ?_
   exact ⟨by first | rfl | (simp [errW_none, errW_some] <;> rfl) | (simp [*, errW_none, errW_some] <;> rfl), by repeat (first | (with_reducible first | exact HB.out | apply below_alloc | apply pw_below_drewN | apply below_drew1 | refine below_set ?_ GE253.out) | exact HB.out)⟩
 · rw [if_neg c2] at H
   have c2b0 : decide (64 < (a0.size : Int)) = false := decide_eq_false c2
   have c2b1 : decide (64 < a0.size) = false := decide_eq_false (by omega)
   clear c2
   replace H := Option.bind_eq_some_iff.mp H
   obtain ⟨t254, A50, H⟩ := H
   replace H : (if 0 < (t254.length : Int) then ((intrusionref06_Parse.f k (rdOf ByteArray.empty t254 0)).bind fun bt258 => (if bt258.2.2.2 = 0 then ((intrusionref06_Width.f bt258.1 bt258.2.1 bt258.2.2.1).bind fun t263 => (if (t254.length : Int) > 1 then (if 0 ≤ (wrap64 (((rdOf ByteArray.empty t254 0).size : Int) + 1)) then (if (wrap64 (((rdOf ByteArray.empty t254 0).size : Int) + 1)) ≤ (a0.size : Int) then ((intrusionref06_Width.f bt258.1 bt258.2.1 bt258.2.2.1).bind fun t265 => ((intrusionref06_Decimal.f k (a0.extract ((wrap64 (((rdOf ByteArray.empty t254 0).size : Int) + 1)) : Int).toNat a0.size) t265).bind fun t266 => (intrusionref06_ParsePrefix.j0 k t266 bt258.1 bt258.2.1 bt258.2.2.1))) else (none)) else (none)) else (intrusionref06_ParsePrefix.j0 k t263 bt258.1 bt258.2.1 bt258.2.2.1))) else (some (false, 0, 0, 0, bt258.2.2.2)))) else (none)) = some (r1, r2, r3, r4, r5) := H
   have A5 := Aside0.mk A50
   clear A50
   by_cases c6 : 0 < (t254.length : Int)
   · rw [if_pos c6] at H
     have c6b0 : decide (0 < (t254.length : Int)) = true := decide_eq_true c6
     have c6b1 : decide (0 < t254.length) = true := decide_eq_true (by omega)
     clear c6
     replace H := Option.bind_eq_some_iff.mp H
     obtain ⟨⟨t258, t259, t260, t261⟩, A70, H⟩ := H
     replace H : (if t261 = 0 then ((intrusionref06_Width.f t258 t259 t260).bind fun t263 => (if (t254.length : Int) > 1 then (if 0 ≤ (wrap64 (((rdOf ByteArray.empty t254 0).size : Int) + 1)) then (if (wrap64 (((rdOf ByteArray.empty t254 0).size : Int) + 1)) ≤ (a0.size : Int) then ((intrusionref06_Width.f t258 t259 t260).bind fun t265 => ((intrusionref06_Decimal.f k (a0.extract ((wrap64 (((rdOf ByteArray.empty t254 0).size : Int) + 1)) : Int).toNat a0.size) t265).bind fun t266 => (intrusionref06_ParsePrefix.j0 k t266 t258 t259 t260))) else (none)) else (none)) else (intrusionref06_ParsePrefix.j0 k t263 t258 t259 t260))) else (some (false, 0, 0, 0, t261))) = some (r1, r2, r3, r4, r5) := H
     have A7 := Aside0.mk A70
     clear A70
     by_cases c8 : t261 = 0
     · rw [if_pos c8] at H
       have c8b0 : (t261 == 0) = true := beq_iff_eq.mpr c8
       have c8b1 : (t261 != 0) = false := bne_eq_false_iff_eq.mpr c8
       clear c8
       replace H := Option.bind_eq_some_iff.mp H
       obtain ⟨t263, A90, H⟩ := H
       replace H : (if (t254.length : Int) > 1 then (if 0 ≤ (wrap64 (((rdOf ByteArray.empty t254 0).size : Int) + 1)) then (if (wrap64 (((rdOf ByteArray.empty t254 0).size : Int) + 1)) ≤ (a0.size : Int) then ((intrusionref06_Width.f t258 t259 t260).bind fun t265 => ((intrusionref06_Decimal.f k (a0.extract ((wrap64 (((rdOf ByteArray.empty t254 0).size : Int) + 1)) : Int).toNat a0.size) t265).bind fun t266 => (intrusionref06_ParsePrefix.j0 k t266 t258 t259 t260))) else (none)) else (none)) else (intrusionref06_ParsePrefix.j0 k t263 t258 t259 t260)) = some (r1, r2, r3, r4, r5) := H
       have A9 := Aside0.mk A90
       clear A90
       have HC10 := Aside0.mk H
       clear H
       go_enter Tryd.func14, Tryd.ntmps14
       go_upto_if 30 with (first | ((with_reducible refine gate_dst (N := 2) rfl ?_); refine zx 2 #[.bool false, .int .u64 0, .int .u64 0, .int .i64 0] 30 ?_; intro gb253 hg w11 hbox hb; have BK253 := Aside0.mk (hbox); have GW253 := Aside0.mk ((by rw [hg]; exact (below_size (zB HB)) : w.heap.size ≤ gb253)); have GE253 := Aside0.mk ((by rw [hg]; exact (below_size (zB HB)) : w.heap.size ≤ gb253)); replace HB := Aside0.mk (below_step (zB HB) hb); clear hb hbox hg) | ((with_reducible refine gate_callee (f := 46) rfl ?_); refine goesL_ (some 14) rfl rfl Tryd.func46 (by kernel_rfl) rfl #[.string a0, .int .u8 47] rfl (by (try simp only [List.map_toArray, List.map_cons, List.map_nil]); first | done | rfl | (simp only [List.length_drop, List.length_take]; rfl)) ?_; (with_reducible refine (intrusionref06_Split.calls k a0 47 t254 _ A5.out).mono ?_); rintro e w12 ⟨v255, rfl, ho0, hb⟩; refine ⟨_, rfl, ?_⟩; have HO256 := Aside0.mk (Kd.R_lower ho0 (below_size (zB HB))); replace BK253 := Aside0.mk (blk_below (g := gb253) (o := .cells #[.bool false, .int .u64 0, .int .u64 0, .int .i64 0] 30 (0, 0)) (zK BK253) hb); replace HB := Aside0.mk (below_step (zB HB) hb); (try clear hb); (try clear ho0); obtain ⟨Ao13, co13, eo13⟩ := Kd.R_slice HO256.out; subst eo13; have p257 : 0 ≤ (0 : Int) := (by omega); have q257 : 0 < (t254.length : Int) := za; obtain ⟨ad257, e257, hx257_0⟩ := Kd.at_string (Kd.R_reads' HO256.out).2.2 0 p257 q257; cases e257; have qi257 : (0 < t254.length) = True := eq_true (by omega); (try rw [show ((0 : Int)).toNat = 0 from rfl] at hx257_0); (try rw [Addr.add_zero'] at hx257_0); replace p257 := eq_true p257; replace q257 := eq_true q257) | ((with_reducible refine gate_callee (f := 12) rfl ?_); refine goesL_ (some 19) rfl rfl Tryd.func12 (by kernel_rfl) rfl #[.string (rdOf ByteArray.empty t254 0)] rfl (by (try simp only [List.map_toArray, List.map_cons, List.map_nil]); first | done | rfl | (simp only [List.length_drop, List.length_take]; rfl)) ?_; (with_reducible refine (intrusionref06_Parse.calls k (rdOf ByteArray.empty t254 0) t258 t259 t260 t261 _ A7.out).mono ?_); rintro e w14 ⟨rfl, hb⟩; refine ⟨_, rfl, ?_⟩; replace HO256 := Aside0.mk (Kd.R_below (zR HO256) hb); replace BK253 := Aside0.mk (blk_below (g := gb253) (o := .cells #[.bool false, .int .u64 0, .int .u64 0, .int .i64 0] 30 (0, 0)) (zK BK253) hb); replace HB := Aside0.mk (below_step (zB HB) hb); (try clear hb)) | ((with_reducible refine gate_dst (N := 5) rfl ?_); refine zx 5 #[.bool false, .int .u64 0, .int .u64 0] 25 ?_; intro gb262 hg w15 hbox hb; replace HO256 := Aside0.mk (Kd.R_below (zR HO256) hb); have BK262 := Aside0.mk (hbox); have GW262 := Aside0.mk ((by rw [hg]; exact (below_size (zB HB)) : w.heap.size ≤ gb262)); have GE262 := Aside0.mk ((by rw [hg]; exact (below_size (zB HB)) : w.heap.size ≤ gb262)); replace HB := Aside0.mk (below_step (zB HB) hb); have NB253_262 := Aside0.mk ((by rw [hg]; exact Nat.ne_of_lt (blk_lt (g := gb253) (o := .cells #[.bool false, .int .u64 0, .int .u64 0, .int .i64 0] 30 (0, 0)) (zK BK253)) : gb253 ≠ gb262)); have NB262_253 := Aside0.mk ((by rw [hg]; exact Nat.ne_of_gt (blk_lt (g := gb253) (o := .cells #[.bool false, .int .u64 0, .int .u64 0, .int .i64 0] 30 (0, 0)) (zK BK253)) : gb262 ≠ gb253)); replace BK253 := Aside0.mk (blk_below (g := gb253) (o := .cells #[.bool false, .int .u64 0, .int .u64 0, .int .i64 0] 30 (0, 0)) (zK BK253) hb); clear hb hbox hg; have hnb16 := NB262_253.out; have hnc16 := NB253_262.out; obtain ⟨hcz17_0, hcz17_1, hcz17_2⟩ := zc3 BK262; obtain ⟨hfz17_0, hfz17_1, hfz17_2⟩ := zf3 BK262) | ((with_reducible refine gate_callee (f := 47) rfl ?_); refine goesL_ (some 27) rfl rfl Tryd.func47 (by kernel_rfl) rfl #[.agg #[.bool t258, .int .u64 t259, .int .u64 t260]] rfl (by (try simp only [List.map_toArray, List.map_cons, List.map_nil]); first | done | rfl | (simp only [List.length_drop, List.length_take]; rfl)) ?_; (with_reducible refine (intrusionref06_Width.calls t258 t259 t260 t263 _ A9.out).mono ?_); rintro e w18 ⟨rfl, hb⟩; refine ⟨_, rfl, ?_⟩; replace HO256 := Aside0.mk (Kd.R_below (zQ (Kd.R_mono (Kd.R_far (p := ⟨gb262, 2, none⟩) (Kd.R_far (p := ⟨gb262, 1, none⟩) (Kd.R_far (p := ⟨gb262, 0, none⟩) (Kd.R_types HO256.out BK262.out (by decide)) (fun _ hk => hk.2) (.bool t258)) (fun _ hk => hk.2) (.int .u64 t259)) (fun _ hk => hk.2) (.int .u64 t260)) (fun _ h_ => h_.1))) hb); replace BK253 := Aside0.mk (blk_below (g := gb253) (o := .cells #[.bool false, .int .u64 0, .int .u64 0, .int .i64 0] 30 (0, 0)) (by refine zL ?_; refine blk_far ?_ NB253_262.out _; refine zL ?_; refine blk_far ?_ NB253_262.out _; refine zL ?_; refine blk_far ?_ NB253_262.out _; refine zL ?_; exact BK253.out) hb); replace BK262 := Aside0.mk (blk_below (g := gb262) (o := .cells #[.bool t258, .int .u64 t259, .int .u64 t260] 25 (0, 0)) (by refine zL ?_; refine blk_put (cs := #[.bool t258, .int .u64 t259, .int .u64 0]) ?_ 2 _ rfl; refine zL ?_; refine blk_put (cs := #[.bool t258, .int .u64 0, .int .u64 0]) ?_ 1 _ rfl; refine zL ?_; refine blk_put (cs := #[.bool false, .int .u64 0, .int .u64 0]) ?_ 0 _ rfl; refine zL ?_; exact BK262.out) hb); replace HB := Aside0.mk (below_step (zB HB) hb); (try clear hb)))
       (try simp only [Act.put, List.setIfInBounds_toArray, List.set_cons_zero, List.set_cons_succ])
       go_cut [7] (fun v7 wc => ∃ (kq : Nat) (x7_9 : Int), v7 = .int .i64 x7_9 ∧ Aside0 (intrusionref06_ParsePrefix.j0 kq x7_9 t258 t259 t260 = some (r1, r2, r3, r4, r5)) ∧ Aside0 (kq ≤ k) ∧ Aside0 (wc.heap[gb253]? = some (.cells #[.bool false, .int .u64 0, .int .u64 0, .int .i64 0] 30 (0, 0))) ∧ Aside0 (wc.heap[gb262]? = some (.cells #[.bool t258, .int .u64 t259, .int .u64 t260] 25 (0, 0))) ∧ Aside0 (Below w.heap.size w wc))
       case first =>
        have H := HC10.out
        clear HC10
        by_cases c19 : (t254.length : Int) > 1
        · rw [if_pos c19] at H
          have c19b0 : decide (1 < (t254.length : Int)) = true := decide_eq_true c19
          have c19b1 : decide (1 < t254.length) = true := decide_eq_true (by omega)
          clear c19
          (first | rw [c19b0] | (simp only [i64_w, i32_w]; rw [c19b0]) | skip)
          obtain ⟨ji20, hji20⟩ : ∃ j_ : Int, (wrap64 (((rdOf ByteArray.empty t254 0).size : Int) + 1)) = j_ := ⟨_, rfl⟩
          replace H : (if 0 ≤ (ji20) then (if (ji20) ≤ (a0.size : Int) then ((intrusionref06_Width.f t258 t259 t260).bind fun t265 => ((intrusionref06_Decimal.f k (a0.extract ((ji20) : Int).toNat a0.size) t265).bind fun t266 => (intrusionref06_ParsePrefix.j0 k t266 t258 t259 t260))) else (none)) else (none)) = some (r1, r2, r3, r4, r5) := by first | (rw [hji20] at H; exact H) | (simp only [hji20] at H ⊢; exact H)
          have hji20w : (IntKind.i64.wrap (((rdOf ByteArray.empty t254 0).size : Int) + 1)) = ji20 := (i64_w _).trans hji20
          by_cases c21 : 0 ≤ (ji20)
          · rw [if_pos c21] at H
            have c21b0 := eq_true c21
            have c21b1 : decide (0 ≤ (ji20)) = true := decide_eq_true c21
            clear c21
            by_cases c22 : (ji20) ≤ (a0.size : Int)
            · rw [if_pos c22] at H
              have c22b0 := eq_true c22
              have c22b1 : decide ((ji20) ≤ (a0.size : Int)) = true := decide_eq_true c22
              clear c22
              replace H := Option.bind_eq_some_iff.mp H
              obtain ⟨t265, A230, H⟩ := H
              replace H : ((intrusionref06_Decimal.f k (a0.extract ((ji20) : Int).toNat a0.size) t265).bind fun t266 => (intrusionref06_ParsePrefix.j0 k t266 t258 t259 t260)) = some (r1, r2, r3, r4, r5) := H
              have A23 := Aside0.mk A230
              clear A230
              replace H := Option.bind_eq_some_iff.mp H
              obtain ⟨t266, A240, H⟩ := H
              replace H : (intrusionref06_ParsePrefix.j0 k t266 t258 t259 t260) = some (r1, r2, r3, r4, r5) := H
              have A24 := Aside0.mk A240
              clear A240
              have H' := Aside0.mk H
              clear H
              try go_wp2
              replace HO256 := Aside0.mk (Kd.R_drew HO256.out)
              replace BK253 := Aside0.mk (blk_drew BK253.out)
              replace BK262 := Aside0.mk (blk_drew BK262.out)
              replace HB := Aside0.mk (below_drew1 HB.out)
              have p264 : 0 ≤ (0 : Int) := (by omega)
              have q264 : 0 < (t254.length : Int) := za
              obtain ⟨ad264, e264, hx264_0⟩ := Kd.at_string (Kd.R_reads' HO256.out).2.2 0 p264 q264
              obtain rfl : ad257 = ad264 := (by injection e264)
              have qi264 : (0 < t254.length) = True := eq_true (by omega)
              (try rw [show ((0 : Int)).toNat = 0 from rfl] at hx264_0)
              (try rw [Addr.add_zero'] at hx264_0)
              replace p264 := eq_true p264
              replace q264 := eq_true q264
              refine start_ (n := 11) (S := fun w' => w'.cell? ⟨gb262, 0, none⟩ = some (.bool t258) ∧ w'.cell? ⟨gb262, 1, none⟩ = some (.int .u64 t259) ∧ w'.cell? ⟨gb262, 2, none⟩ = some (.int .u64 t260) ∧ w'.cell? ad257 = some (.string (rdOf ByteArray.empty t254 0))) (ds := []) #[false, false, false, false, false, false, false, false, false, false, false] (by kernel_rfl) rfl rfl ⟨zc BK262 0, zc BK262 1, zc BK262 2, hx264_0⟩ (fun hHeld => ?_); refine with_tabW intrusionref06_ParsePrefix.tab9 intrusionref06_ParsePrefix.bits9 (fun HT_ HW_ => ?_)
              generalize w18.drew = w25 at HO256 BK253 BK262 HB hx264_0 hHeld ⊢
              refine zp 0 31 HT_ ?_; refine zp 1 32 HT_ ?_; refine zp 2 33 HT_ ?_; refine zt 3 34 HT_ HW_ hHeld ?_; refine zp 4 35 HT_ ?_; refine zp 5 36 HT_ ?_; refine zp 6 37 HT_ ?_; refine zt 7 38 HT_ HW_ hHeld ?_; refine zo 8 39 HT_ (fun K hK => ?_)
              refine zg Tryd.func47 #[.agg #[.bool t258, .int .u64 t259, .int .u64 t260]] ?_
              with_reducible refine (intrusionref06_Width.calls t258 t259 t260 t265 _ A23.out).mono ?_
              rintro e w26 ⟨rfl, hb⟩
              have HS3_ := (hb.cell (World.block_lt_of_cell? _ _ (hHeld.2.2.2))).trans (hHeld.2.2.2)
              refine ⟨_, rfl, ?_⟩
              replace HO256 := Aside0.mk (Kd.R_below (zR HO256) hb)
              replace BK253 := Aside0.mk (blk_below (g := gb253) (o := .cells #[.bool false, .int .u64 0, .int .u64 0, .int .i64 0] 30 (0, 0)) (zK BK253) hb)
              replace BK262 := Aside0.mk (blk_below (g := gb262) (o := .cells #[.bool t258, .int .u64 t259, .int .u64 t260] 25 (0, 0)) (zK BK262) hb)
              replace HB := Aside0.mk (below_step (zB HB) hb)
              (try clear hb)
              refine hK.out _ _ ⟨zc BK262 0, zc BK262 1, zc BK262 2, HS3_⟩ (fun hHeld => ?_)
              clear hK K
              refine zn 39 ?_; refine zo 9 40 HT_ (fun K hK => ?_)
              refine goes_ Tryd.func48 (by kernel_rfl) rfl #[.string (a0.extract ((ji20) : Int).toNat a0.size), .int .i64 t265] (by rfl) rfl rfl (by (try simp only [List.map_toArray, List.map_cons, List.map_nil]); first | done | (simp only [hji20]; rfl) | rfl | (simp only [List.length_drop, List.length_take]; rfl)) ?_
              with_reducible refine (intrusionref06_Decimal.calls k (a0.extract ((ji20) : Int).toNat a0.size) t265 t266 _ A24.out).mono ?_
              rintro e w27 ⟨rfl, hb⟩
              have HS3_ := (hb.cell (World.block_lt_of_cell? _ _ (hHeld.2.2.2))).trans (hHeld.2.2.2)
              refine ⟨_, rfl, ?_⟩
              replace HO256 := Aside0.mk (Kd.R_below (zR HO256) hb)
              replace BK253 := Aside0.mk (blk_below (g := gb253) (o := .cells #[.bool false, .int .u64 0, .int .u64 0, .int .i64 0] 30 (0, 0)) (zK BK253) hb)
              replace BK262 := Aside0.mk (blk_below (g := gb262) (o := .cells #[.bool t258, .int .u64 t259, .int .u64 t260] 25 (0, 0)) (zK BK262) hb)
              replace HB := Aside0.mk (below_step (zB HB) hb)
              (try clear hb)
              refine hK.out _ _ ⟨zc BK262 0, zc BK262 1, zc BK262 2, HS3_⟩ (fun hHeld => ?_)
              clear hK K
              refine zn 40 ?_; refine zp 10 7 HT_ ?_; refine zd HT_ ?_
              try go_wp2
              go_meet
              case rel => exact ⟨_, (t266), (by first | rfl | (simp; done) | (simp [*]; done)), H', ⟨by first | omega | exact Nat.le_refl _⟩, ⟨zK BK253⟩, ⟨zK BK262⟩, ⟨zB HB⟩⟩
            · rw [if_neg c22] at H
              exact absurd H (by simp)
          · rw [if_neg c21] at H
            exact absurd H (by simp)
        · rw [if_neg c19] at H
          have c19b0 : decide (1 < (t254.length : Int)) = false := decide_eq_false c19
          have c19b1 : decide (1 < t254.length) = false := decide_eq_false (by omega)
          clear c19
          (first | rw [c19b0] | (simp only [i64_w, i32_w]; rw [c19b0]) | skip)
          have H' := Aside0.mk H
          clear H
          go_wp2
          go_meet
          case rel => exact ⟨_, (t263), (by first | rfl | (simp; done) | (simp [*]; done)), H', ⟨by first | omega | exact Nat.le_refl _⟩, ⟨zK BK253⟩, ⟨zK BK262⟩, ⟨zB HB⟩⟩
       case rest =>
        clear HC10
        try clear c1
        try clear c2
        try clear c2b0
        try clear c2b1
        try clear p2
        try clear q2
        try clear hx2
        try clear qi2
        try clear c4
        try clear c6
        try clear c6b0
        try clear c6b1
        try clear p6
        try clear c8
        try clear c8b0
        try clear c8b1
        try clear c12
        try clear c14
        try clear c16
        try clear c19
        try clear c19b0
        try clear c19b1
        try clear c21
        try clear c21b0
        try clear c21b1
        try clear c22
        try clear c22b0
        try clear c22b1
        try clear p25
        try clear q25
        try clear hx25
        try clear qi25
        try clear p26
        try clear q26
        try clear hx26
        try clear qi26
        try clear hcz17_0
        try clear hcz17_1
        try clear hcz17_2
        try clear hcz4_0
        try clear hcz4_1
        try clear hcz4_2
        try clear hcz4_3
        try clear hfz17_0
        try clear hfz17_1
        try clear hfz17_2
        try clear hfz4_0
        try clear hfz4_1
        try clear hfz4_2
        try clear hfz4_3
        try clear hx257_0
        try clear hx264_0
        try clear p257
        try clear p264
        try clear q257
        try clear q264
        obtain ⟨kq, x7_9, rfl, HA, HJ9, BK253, BK262, HB⟩ := hcut
        cases kq with
        | zero => exact absurd HA.out (by simp [intrusionref06_ParsePrefix.j0])
        | succ kj9 =>
         have H := HA.out
         clear HA
         simp only [intrusionref06_ParsePrefix.j0] at H
         by_cases c28 : x7_9 = (-1)
         · rw [if_pos c28] at H
           have c28b0 : (x7_9 == (-1)) = true := beq_iff_eq.mpr c28
           have c28b1 : (x7_9 != (-1)) = false := bne_eq_false_iff_eq.mpr c28
           clear c28
           simp only [Option.some.injEq, Prod.mk.injEq] at H
           obtain ⟨rfl, rfl, rfl, rfl, rfl⟩ := H
           have hnb29 := NB253_262.out
           have hnc29 := NB262_253.out
           obtain ⟨hcz30_0, hcz30_1, hcz30_2, hcz30_3⟩ := zc4 BK253
           obtain ⟨hfz30_0, hfz30_1, hfz30_2, hfz30_3⟩ := zf4 BK253
           go_wp2
           refine bodyPost_ret (results_ct rfl _ _ gb253 30 #[.bool false, .int .u64 0, .int .u64 0, .int .i64 0] (0, 0) _ rfl (by refine zL ?_; refine blk_put (cs := #[.bool false, .int .u64 0, .int .u64 0, .int .i64 0]) ?_ 3 _ rfl; refine zL ?_; refine blk_put (cs := #[.bool false, .int .u64 0, .int .u64 0, .int .i64 0]) ?_ 2 _ rfl; refine zL ?_; refine blk_put (cs := #[.bool false, .int .u64 0, .int .u64 0, .int .i64 0]) ?_ 1 _ rfl; refine zL ?_; refine blk_put (cs := #[.bool false, .int .u64 0, .int .u64 0, .int .i64 0]) ?_ 0 _ rfl; refine zL ?_; exact BK253.out) Tryd.underlying30 rfl (by kernel_rfl)) rfl ?_
           exact ⟨by first | rfl | (simp [errW_none, errW_some] <;> rfl) | (simp [*, errW_none, errW_some] <;> rfl), by repeat (first | (with_reducible first | exact HB.out | apply below_alloc | apply pw_below_drewN | apply below_drew1 | refine below_set ?_ GE253.out | refine below_set ?_ GE262.out) | exact HB.out)⟩
         · rw [if_neg c28] at H
           have c28b0 : (x7_9 == (-1)) = false := beq_eq_false_iff_ne.mpr c28
           have c28b1 : (x7_9 != (-1)) = true := bne_iff_ne.mpr c28
           by_cases c31 : x7_9 = (-2)
           · rw [if_pos c31] at H
             have c31b0 : (x7_9 == (-2)) = true := beq_iff_eq.mpr c31
             have c31b1 : (x7_9 != (-2)) = false := bne_eq_false_iff_eq.mpr c31
             clear c31
             simp only [Option.some.injEq, Prod.mk.injEq] at H
             obtain ⟨rfl, rfl, rfl, rfl, rfl⟩ := H
             have hnb32 := NB253_262.out
             have hnc32 := NB262_253.out
             obtain ⟨hcz33_0, hcz33_1, hcz33_2, hcz33_3⟩ := zc4 BK253
             obtain ⟨hfz33_0, hfz33_1, hfz33_2, hfz33_3⟩ := zf4 BK253
             go_wp2
             refine bodyPost_ret (results_ct rfl _ _ gb253 30 #[.bool false, .int .u64 0, .int .u64 0, .int .i64 0] (0, 0) _ rfl (by refine zL ?_; refine blk_put (cs := #[.bool false, .int .u64 0, .int .u64 0, .int .i64 0]) ?_ 3 _ rfl; refine zL ?_; refine blk_put (cs := #[.bool false, .int .u64 0, .int .u64 0, .int .i64 0]) ?_ 2 _ rfl; refine zL ?_; refine blk_put (cs := #[.bool false, .int .u64 0, .int .u64 0, .int .i64 0]) ?_ 1 _ rfl; refine zL ?_; refine blk_put (cs := #[.bool false, .int .u64 0, .int .u64 0, .int .i64 0]) ?_ 0 _ rfl; refine zL ?_; exact BK253.out) Tryd.underlying30 rfl (by kernel_rfl)) rfl ?_
             exact ⟨by first | rfl | (simp [errW_none, errW_some] <;> rfl) | (simp [*, errW_none, errW_some] <;> rfl), by repeat (first | (with_reducible first | exact HB.out | apply below_alloc | apply pw_below_drewN | apply below_drew1 | refine below_set ?_ GE253.out | refine below_set ?_ GE262.out) | exact HB.out)⟩
           · rw [if_neg c31] at H
             have c31b0 : (x7_9 == (-2)) = false := beq_eq_false_iff_ne.mpr c31
             have c31b1 : (x7_9 != (-2)) = true := bne_iff_ne.mpr c31
             replace H := Option.bind_eq_some_iff.mp H
             obtain ⟨t268, A340, H⟩ := H
             replace H : (if t268 = true then (some (t258, t259, t260, x7_9, 0)) else (some (false, 0, 0, 0, 2))) = some (r1, r2, r3, r4, r5) := H
             have A34 := Aside0.mk A340
             clear A340
             by_cases c35 : t268 = true
             · subst c35
               rw [if_pos rfl] at H
               simp only [Option.some.injEq, Prod.mk.injEq] at H
               obtain ⟨rfl, rfl, rfl, rfl, rfl⟩ := H
               have hnb36 := NB262_253.out
               have hnc36 := NB253_262.out
               obtain ⟨hcz37_0, hcz37_1, hcz37_2⟩ := zc3 BK262
               obtain ⟨hfz37_0, hfz37_1, hfz37_2⟩ := zf3 BK262
               go_wp2_with (first | ((with_reducible refine gate_dst (N := 8) rfl ?_); refine zx 8 #[.bool false, .int .u64 0, .int .u64 0, .int .i64 0] 30 ?_; intro gb267 hg w38 hbox hb; have BK267 := Aside0.mk (hbox); have GW267 := Aside0.mk ((by rw [hg]; exact (below_size (zB HB)) : w.heap.size ≤ gb267)); have GE267 := Aside0.mk ((by rw [hg]; exact (below_size (zB HB)) : w.heap.size ≤ gb267)); replace HB := Aside0.mk (below_step (zB HB) hb); have NB253_267 := Aside0.mk ((by rw [hg]; exact Nat.ne_of_lt (blk_lt (g := gb253) (o := .cells #[.bool false, .int .u64 0, .int .u64 0, .int .i64 0] 30 (0, 0)) (zK BK253)) : gb253 ≠ gb267)); have NB267_253 := Aside0.mk ((by rw [hg]; exact Nat.ne_of_gt (blk_lt (g := gb253) (o := .cells #[.bool false, .int .u64 0, .int .u64 0, .int .i64 0] 30 (0, 0)) (zK BK253)) : gb267 ≠ gb253)); replace BK253 := Aside0.mk (blk_below (g := gb253) (o := .cells #[.bool false, .int .u64 0, .int .u64 0, .int .i64 0] 30 (0, 0)) (zK BK253) hb); have NB262_267 := Aside0.mk ((by rw [hg]; exact Nat.ne_of_lt (blk_lt (g := gb262) (o := .cells #[.bool t258, .int .u64 t259, .int .u64 t260] 25 (0, 0)) (zK BK262)) : gb262 ≠ gb267)); have NB267_262 := Aside0.mk ((by rw [hg]; exact Nat.ne_of_gt (blk_lt (g := gb262) (o := .cells #[.bool t258, .int .u64 t259, .int .u64 t260] 25 (0, 0)) (zK BK262)) : gb267 ≠ gb262)); replace BK262 := Aside0.mk (blk_below (g := gb262) (o := .cells #[.bool t258, .int .u64 t259, .int .u64 t260] 25 (0, 0)) (zK BK262) hb); clear hb hbox hg; have hnb39 := NB267_253.out; have hnc39 := NB253_267.out; have hnb40 := NB267_262.out; have hnc40 := NB262_267.out; obtain ⟨hcz41_0, hcz41_1, hcz41_2, hcz41_3⟩ := zc4 BK267; obtain ⟨hfz41_0, hfz41_1, hfz41_2, hfz41_3⟩ := zf4 BK267) | ((with_reducible refine gate_callee (f := 32) rfl ?_); refine goesL_ (some 51) rfl rfl Tryd.func32 (by kernel_rfl) rfl #[.agg #[.bool t258, .int .u64 t259, .int .u64 t260, .int .i64 x7_9]] rfl (by (try simp only [List.map_toArray, List.map_cons, List.map_nil]); first | done | rfl | (simp only [List.length_drop, List.length_take]; rfl)) ?_; (with_reducible refine (intrusionref06_ValidPrefix.calls kj9 t258 t259 t260 x7_9 true _ A34.out).mono ?_); rintro e w42 ⟨rfl, hb⟩; refine ⟨_, rfl, ?_⟩; replace BK253 := Aside0.mk (blk_below (g := gb253) (o := .cells #[.bool false, .int .u64 0, .int .u64 0, .int .i64 0] 30 (0, 0)) (by refine zL ?_; refine blk_far ?_ NB253_267.out _; refine zL ?_; refine blk_far ?_ NB253_267.out _; refine zL ?_; refine blk_far ?_ NB253_267.out _; refine zL ?_; refine blk_far ?_ NB253_267.out _; refine zL ?_; exact BK253.out) hb); replace BK262 := Aside0.mk (blk_below (g := gb262) (o := .cells #[.bool t258, .int .u64 t259, .int .u64 t260] 25 (0, 0)) (by refine zL ?_; refine blk_far ?_ NB262_267.out _; refine zL ?_; refine blk_far ?_ NB262_267.out _; refine zL ?_; refine blk_far ?_ NB262_267.out _; refine zL ?_; refine blk_far ?_ NB262_267.out _; refine zL ?_; exact BK262.out) hb); replace BK267 := Aside0.mk (blk_below (g := gb267) (o := .cells #[.bool t258, .int .u64 t259, .int .u64 t260, .int .i64 x7_9] 30 (0, 0)) (by refine zL ?_; refine blk_put (cs := #[.bool t258, .int .u64 t259, .int .u64 t260, .int .i64 0]) ?_ 3 _ rfl; refine zL ?_; refine blk_put (cs := #[.bool t258, .int .u64 t259, .int .u64 0, .int .i64 0]) ?_ 2 _ rfl; refine zL ?_; refine blk_put (cs := #[.bool t258, .int .u64 0, .int .u64 0, .int .i64 0]) ?_ 1 _ rfl; refine zL ?_; refine blk_put (cs := #[.bool false, .int .u64 0, .int .u64 0, .int .i64 0]) ?_ 0 _ rfl; refine zL ?_; exact BK267.out) hb); replace HB := Aside0.mk (below_step (zB HB) hb); (try clear hb); obtain ⟨hcz43_0, hcz43_1, hcz43_2, hcz43_3⟩ := zc4 BK267; obtain ⟨hfz43_0, hfz43_1, hfz43_2, hfz43_3⟩ := zf4 BK267; obtain ⟨hcz44_0, hcz44_1, hcz44_2, hcz44_3⟩ := zc4 BK253; obtain ⟨hfz44_0, hfz44_1, hfz44_2, hfz44_3⟩ := zf4 BK253))
               refine bodyPost_ret (results_ct rfl _ _ gb253 30 #[.bool t258, .int .u64 t259, .int .u64 t260, .int .i64 x7_9] (0, 0) _ rfl (by refine zL ?_; refine blk_put (cs := #[.bool t258, .int .u64 t259, .int .u64 t260, .int .i64 0]) ?_ 3 _ rfl; refine zL ?_; refine blk_put (cs := #[.bool t258, .int .u64 t259, .int .u64 0, .int .i64 0]) ?_ 2 _ rfl; refine zL ?_; refine blk_put (cs := #[.bool t258, .int .u64 0, .int .u64 0, .int .i64 0]) ?_ 1 _ rfl; refine zL ?_; refine blk_put (cs := #[.bool false, .int .u64 0, .int .u64 0, .int .i64 0]) ?_ 0 _ rfl; refine zL ?_; exact BK253.out) Tryd.underlying30 rfl (by kernel_rfl)) rfl ?_
               exact ⟨by first | rfl | (simp [errW_none, errW_some] <;> rfl) | (simp [*, errW_none, errW_some] <;> rfl), by repeat (first | (with_reducible first | exact HB.out | apply below_alloc | apply pw_below_drewN | apply below_drew1 | refine below_set ?_ GE253.out | refine below_set ?_ GE262.out | refine below_set ?_ GE267.out) | exact HB.out)⟩
             · replace c35 := Bool.eq_false_iff.mpr c35
               subst c35
               rw [if_neg zF] at H
               simp only [Option.some.injEq, Prod.mk.injEq] at H
               obtain ⟨rfl, rfl, rfl, rfl, rfl⟩ := H
               have hnb45 := NB262_253.out
               have hnc45 := NB253_262.out
               obtain ⟨hcz46_0, hcz46_1, hcz46_2⟩ := zc3 BK262
               obtain ⟨hfz46_0, hfz46_1, hfz46_2⟩ := zf3 BK262
               go_wp2_with (first | ((with_reducible refine gate_dst (N := 8) rfl ?_); refine zx 8 #[.bool false, .int .u64 0, .int .u64 0, .int .i64 0] 30 ?_; intro gb267 hg w47 hbox hb; have BK267 := Aside0.mk (hbox); have GW267 := Aside0.mk ((by rw [hg]; exact (below_size (zB HB)) : w.heap.size ≤ gb267)); have GE267 := Aside0.mk ((by rw [hg]; exact (below_size (zB HB)) : w.heap.size ≤ gb267)); replace HB := Aside0.mk (below_step (zB HB) hb); have NB253_267 := Aside0.mk ((by rw [hg]; exact Nat.ne_of_lt (blk_lt (g := gb253) (o := .cells #[.bool false, .int .u64 0, .int .u64 0, .int .i64 0] 30 (0, 0)) (zK BK253)) : gb253 ≠ gb267)); have NB267_253 := Aside0.mk ((by rw [hg]; exact Nat.ne_of_gt (blk_lt (g := gb253) (o := .cells #[.bool false, .int .u64 0, .int .u64 0, .int .i64 0] 30 (0, 0)) (zK BK253)) : gb267 ≠ gb253)); replace BK253 := Aside0.mk (blk_below (g := gb253) (o := .cells #[.bool false, .int .u64 0, .int .u64 0, .int .i64 0] 30 (0, 0)) (zK BK253) hb); have NB262_267 := Aside0.mk ((by rw [hg]; exact Nat.ne_of_lt (blk_lt (g := gb262) (o := .cells #[.bool t258, .int .u64 t259, .int .u64 t260] 25 (0, 0)) (zK BK262)) : gb262 ≠ gb267)); have NB267_262 := Aside0.mk ((by rw [hg]; exact Nat.ne_of_gt (blk_lt (g := gb262) (o := .cells #[.bool t258, .int .u64 t259, .int .u64 t260] 25 (0, 0)) (zK BK262)) : gb267 ≠ gb262)); replace BK262 := Aside0.mk (blk_below (g := gb262) (o := .cells #[.bool t258, .int .u64 t259, .int .u64 t260] 25 (0, 0)) (zK BK262) hb); clear hb hbox hg; have hnb48 := NB267_253.out; have hnc48 := NB253_267.out; have hnb49 := NB267_262.out; have hnc49 := NB262_267.out; obtain ⟨hcz50_0, hcz50_1, hcz50_2, hcz50_3⟩ := zc4 BK267; obtain ⟨hfz50_0, hfz50_1, hfz50_2, hfz50_3⟩ := zf4 BK267) | ((with_reducible refine gate_callee (f := 32) rfl ?_); refine goesL_ (some 51) rfl rfl Tryd.func32 (by kernel_rfl) rfl #[.agg #[.bool t258, .int .u64 t259, .int .u64 t260, .int .i64 x7_9]] rfl (by (try simp only [List.map_toArray, List.map_cons, List.map_nil]); first | done | rfl | (simp only [List.length_drop, List.length_take]; rfl)) ?_; (with_reducible refine (intrusionref06_ValidPrefix.calls kj9 t258 t259 t260 x7_9 false _ A34.out).mono ?_); rintro e w51 ⟨rfl, hb⟩; refine ⟨_, rfl, ?_⟩; replace BK253 := Aside0.mk (blk_below (g := gb253) (o := .cells #[.bool false, .int .u64 0, .int .u64 0, .int .i64 0] 30 (0, 0)) (by refine zL ?_; refine blk_far ?_ NB253_267.out _; refine zL ?_; refine blk_far ?_ NB253_267.out _; refine zL ?_; refine blk_far ?_ NB253_267.out _; refine zL ?_; refine blk_far ?_ NB253_267.out _; refine zL ?_; exact BK253.out) hb); replace BK262 := Aside0.mk (blk_below (g := gb262) (o := .cells #[.bool t258, .int .u64 t259, .int .u64 t260] 25 (0, 0)) (by refine zL ?_; refine blk_far ?_ NB262_267.out _; refine zL ?_; refine blk_far ?_ NB262_267.out _; refine zL ?_; refine blk_far ?_ NB262_267.out _; refine zL ?_; refine blk_far ?_ NB262_267.out _; refine zL ?_; exact BK262.out) hb); replace BK267 := Aside0.mk (blk_below (g := gb267) (o := .cells #[.bool t258, .int .u64 t259, .int .u64 t260, .int .i64 x7_9] 30 (0, 0)) (by refine zL ?_; refine blk_put (cs := #[.bool t258, .int .u64 t259, .int .u64 t260, .int .i64 0]) ?_ 3 _ rfl; refine zL ?_; refine blk_put (cs := #[.bool t258, .int .u64 t259, .int .u64 0, .int .i64 0]) ?_ 2 _ rfl; refine zL ?_; refine blk_put (cs := #[.bool t258, .int .u64 0, .int .u64 0, .int .i64 0]) ?_ 1 _ rfl; refine zL ?_; refine blk_put (cs := #[.bool false, .int .u64 0, .int .u64 0, .int .i64 0]) ?_ 0 _ rfl; refine zL ?_; exact BK267.out) hb); replace HB := Aside0.mk (below_step (zB HB) hb); (try clear hb); obtain ⟨hcz52_0, hcz52_1, hcz52_2, hcz52_3⟩ := zc4 BK253; obtain ⟨hfz52_0, hfz52_1, hfz52_2, hfz52_3⟩ := zf4 BK253))
               refine bodyPost_ret (results_ct rfl _ _ gb253 30 #[.bool false, .int .u64 0, .int .u64 0, .int .i64 0] (0, 0) _ rfl (by refine zL ?_; refine blk_put (cs := #[.bool false, .int .u64 0, .int .u64 0, .int .i64 0]) ?_ 3 _ rfl; refine zL ?_; refine blk_put (cs := #[.bool false, .int .u64 0, .int .u64 0, .int .i64 0]) ?_ 2 _ rfl; refine zL ?_; refine blk_put (cs := #[.bool false, .int .u64 0, .int .u64 0, .int .i64 0]) ?_ 1 _ rfl; refine zL ?_; refine blk_put (cs := #[.bool false, .int .u64 0, .int .u64 0, .int .i64 0]) ?_ 0 _ rfl; refine zL ?_; exact BK253.out) Tryd.underlying30 rfl (by kernel_rfl)) rfl ?_
               exact ⟨by first | rfl | (simp [errW_none, errW_some] <;> rfl) | (simp [*, errW_none, errW_some] <;> rfl), by repeat (first | (with_reducible first | exact HB.out | apply below_alloc | apply pw_below_drewN | apply below_drew1 | refine below_set ?_ GE253.out | refine below_set ?_ GE262.out | refine below_set ?_ GE267.out) | exact HB.out)⟩
     · rw [if_neg c8] at H
       have c8b0 : (t261 == 0) = false := beq_eq_false_iff_ne.mpr c8
       have c8b1 : (t261 != 0) = true := bne_iff_ne.mpr c8
       simp only [Option.some.injEq, Prod.mk.injEq] at H
       obtain ⟨rfl, rfl, rfl, rfl, rfl⟩ := H
       go_enter Tryd.func14, Tryd.ntmps14
       go_wp2_with (first | ((with_reducible refine gate_dst (N := 2) rfl ?_); refine zx 2 #[.bool false, .int .u64 0, .int .u64 0, .int .i64 0] 30 ?_; intro gb253 hg w53 hbox hb; have BK253 := Aside0.mk (hbox); have GW253 := Aside0.mk ((by rw [hg]; exact (below_size (zB HB)) : w.heap.size ≤ gb253)); have GE253 := Aside0.mk ((by rw [hg]; exact (below_size (zB HB)) : w.heap.size ≤ gb253)); replace HB := Aside0.mk (below_step (zB HB) hb); clear hb hbox hg) | ((with_reducible refine gate_callee (f := 46) rfl ?_); refine goesL_ (some 14) rfl rfl Tryd.func46 (by kernel_rfl) rfl #[.string a0, .int .u8 47] rfl (by (try simp only [List.map_toArray, List.map_cons, List.map_nil]); first | done | rfl | (simp only [List.length_drop, List.length_take]; rfl)) ?_; (with_reducible refine (intrusionref06_Split.calls k a0 47 t254 _ A5.out).mono ?_); rintro e w54 ⟨v255, rfl, ho0, hb⟩; refine ⟨_, rfl, ?_⟩; have HO256 := Aside0.mk (Kd.R_lower ho0 (below_size (zB HB))); replace BK253 := Aside0.mk (blk_below (g := gb253) (o := .cells #[.bool false, .int .u64 0, .int .u64 0, .int .i64 0] 30 (0, 0)) (zK BK253) hb); replace HB := Aside0.mk (below_step (zB HB) hb); (try clear hb); (try clear ho0); obtain ⟨Ao55, co55, eo55⟩ := Kd.R_slice HO256.out; subst eo55; have p257 : 0 ≤ (0 : Int) := (by omega); have q257 : 0 < (t254.length : Int) := za; obtain ⟨ad257, e257, hx257_0⟩ := Kd.at_string (Kd.R_reads' HO256.out).2.2 0 p257 q257; cases e257; have qi257 : (0 < t254.length) = True := eq_true (by omega); (try rw [show ((0 : Int)).toNat = 0 from rfl] at hx257_0); (try rw [Addr.add_zero'] at hx257_0); replace p257 := eq_true p257; replace q257 := eq_true q257) | ((with_reducible refine gate_callee (f := 12) rfl ?_); refine goesL_ (some 19) rfl rfl Tryd.func12 (by kernel_rfl) rfl #[.string (rdOf ByteArray.empty t254 0)] rfl (by (try simp only [List.map_toArray, List.map_cons, List.map_nil]); first | done | rfl | (simp only [List.length_drop, List.length_take]; rfl)) ?_; (with_reducible refine (intrusionref06_Parse.calls k (rdOf ByteArray.empty t254 0) t258 t259 t260 t261 _ A7.out).mono ?_); rintro e w56 ⟨rfl, hb⟩; refine ⟨_, rfl, ?_⟩; replace HO256 := Aside0.mk (Kd.R_below (zR HO256) hb); replace BK253 := Aside0.mk (blk_below (g := gb253) (o := .cells #[.bool false, .int .u64 0, .int .u64 0, .int .i64 0] 30 (0, 0)) (zK BK253) hb); replace HB := Aside0.mk (below_step (zB HB) hb); (try clear hb)) | ((with_reducible refine gate_dst (N := 5) rfl ?_); refine zx 5 #[.bool false, .int .u64 0, .int .u64 0] 25 ?_; intro gb262 hg w57 hbox hb; replace HO256 := Aside0.mk (Kd.R_below (zR HO256) hb); have BK262 := Aside0.mk (hbox); have GW262 := Aside0.mk ((by rw [hg]; exact (below_size (zB HB)) : w.heap.size ≤ gb262)); have GE262 := Aside0.mk ((by rw [hg]; exact (below_size (zB HB)) : w.heap.size ≤ gb262)); replace HB := Aside0.mk (below_step (zB HB) hb); have NB253_262 := Aside0.mk ((by rw [hg]; exact Nat.ne_of_lt (blk_lt (g := gb253) (o := .cells #[.bool false, .int .u64 0, .int .u64 0, .int .i64 0] 30 (0, 0)) (zK BK253)) : gb253 ≠ gb262)); have NB262_253 := Aside0.mk ((by rw [hg]; exact Nat.ne_of_gt (blk_lt (g := gb253) (o := .cells #[.bool false, .int .u64 0, .int .u64 0, .int .i64 0] 30 (0, 0)) (zK BK253)) : gb262 ≠ gb253)); replace BK253 := Aside0.mk (blk_below (g := gb253) (o := .cells #[.bool false, .int .u64 0, .int .u64 0, .int .i64 0] 30 (0, 0)) (zK BK253) hb); clear hb hbox hg; have hnb58 := NB262_253.out; have hnc58 := NB253_262.out; obtain ⟨hcz59_0, hcz59_1, hcz59_2⟩ := zc3 BK262; obtain ⟨hfz59_0, hfz59_1, hfz59_2⟩ := zf3 BK262; obtain ⟨hcz60_0, hcz60_1, hcz60_2, hcz60_3⟩ := zc4 BK253; obtain ⟨hfz60_0, hfz60_1, hfz60_2, hfz60_3⟩ := zf4 BK253))
       refine bodyPost_ret (results_ct rfl _ _ gb253 30 #[.bool false, .int .u64 0, .int .u64 0, .int .i64 0] (0, 0) _ rfl (by refine zL ?_; refine blk_put (cs := #[.bool false, .int .u64 0, .int .u64 0, .int .i64 0]) ?_ 3 _ rfl; refine zL ?_; refine blk_put (cs := #[.bool false, .int .u64 0, .int .u64 0, .int .i64 0]) ?_ 2 _ rfl; refine zL ?_; refine blk_put (cs := #[.bool false, .int .u64 0, .int .u64 0, .int .i64 0]) ?_ 1 _ rfl; refine zL ?_; refine blk_put (cs := #[.bool false, .int .u64 0, .int .u64 0, .int .i64 0]) ?_ 0 _ rfl; refine zL ?_; refine blk_far ?_ NB253_262.out _; refine zL ?_; refine blk_far ?_ NB253_262.out _; refine zL ?_; refine blk_far ?_ NB253_262.out _; refine zL ?_; exact BK253.out) Tryd.underlying30 rfl (by kernel_rfl)) rfl ?_
       exact ⟨by first | rfl | (simp [errW_none, errW_some] <;> rfl) | (simp [*, errW_none, errW_some] <;> rfl), by repeat (first | (with_reducible first | exact HB.out | apply below_alloc | apply pw_below_drewN | apply below_drew1 | refine below_set ?_ GE253.out | refine below_set ?_ GE262.out) | exact HB.out)⟩
   · rw [if_neg c6] at H
     exact absurd H (by simp)
end Go.Proofs.YtlgfinnldhjgeaaDoor.Q
end

section
namespace Go.Proofs.YtlgfinnldhjgeaaDoor.Q
open Go.RowKit Go.Proofs.YtlgfinnldhjgeaaDoorW.PrintWords Go.Proofs.YtlgfinnldhjgeaaDoorW.PrintLast Go.Proofs.YtlgfinnldhjgeaaDoorW.PrintMore
attribute [local go_sem] max2_int min2_int max_two min_two max_three min_three max_four min_four
set_option linter.unusedVariables false
set_option linter.unusedSimpArgs false
def address_last.f (a0 : Bool) : Option (Bool × Int × Int) := if a0 = true then (some (true, 18446744073709551615, 18446744073709551615)) else (some (false, 0, 4294967295))
set_option maxHeartbeats 8000000 in
set_option maxRecDepth 100000 in
theorem address_last.calls (a0 : Bool) (r1 : Bool) (r2 : Int) (r3 : Int) (w : World) (h : address_last.f a0 = some (r1, r2, r3)) :
 Calls Tryd.prog 49 #[.bool a0] w fun e w' => e = .returned (.agg #[.bool r1, .int .u64 r2, .int .u64 r3]) ∧ Below w.heap.size w w' := by
 have hu25 := Tryd.underlying25
 have HB := Aside0.mk (Below.refl w.heap.size w)
 unfold address_last.f at h; have H := h
 clear h
 by_cases c2 : a0 = true
 · subst c2
   rw [if_pos rfl] at H
   simp only [Option.some.injEq, Prod.mk.injEq] at H
   obtain ⟨rfl, rfl, rfl⟩ := H
   go_enter Tryd.func49, Tryd.ntmps49
   go_wp2_with (first | ((with_reducible refine gate_dst (N := 2) rfl ?_); refine zx 2 #[.bool false, .int .u64 0, .int .u64 0] 25 ?_; intro gb176 hg w3 hbox hb; have BK176 := Aside0.mk (hbox); have GW176 := Aside0.mk ((by rw [hg]; exact (below_size (zB HB)) : w.heap.size ≤ gb176)); have GE176 := Aside0.mk ((by rw [hg]; exact (below_size (zB HB)) : w.heap.size ≤ gb176)); replace HB := Aside0.mk (below_step (zB HB) hb); clear hb hbox hg; obtain ⟨hcz4_0, hcz4_1, hcz4_2⟩ := zc3 BK176; obtain ⟨hfz4_0, hfz4_1, hfz4_2⟩ := zf3 BK176))
   refine bodyPost_ret (results_cell_row rfl _ _ gb176 25 #[.bool true, .int .u64 18446744073709551615, .int .u64 18446744073709551615] (0, 0) _ rfl (by refine zL ?_; refine blk_put (cs := #[.bool true, .int .u64 18446744073709551615, .int .u64 0]) ?_ 2 _ rfl; refine zL ?_; refine blk_put (cs := #[.bool true, .int .u64 0, .int .u64 0]) ?_ 1 _ rfl; refine zL ?_; refine blk_put (cs := #[.bool false, .int .u64 0, .int .u64 0]) ?_ 0 _ rfl; refine zL ?_; exact BK176.out) Tryd.underlying25 rfl (by kernel_rfl)) rfl ?_
   exact ⟨by first | rfl | (simp [errW_none, errW_some] <;> rfl) | (simp [*, errW_none, errW_some] <;> rfl), by repeat (first | (with_reducible first | exact HB.out | apply below_alloc | apply pw_below_drewN | apply below_drew1 | refine below_set ?_ GE176.out) | exact HB.out)⟩
 · replace c2 := Bool.eq_false_iff.mpr c2
   subst c2
   rw [if_neg zF] at H
   simp only [Option.some.injEq, Prod.mk.injEq] at H
   obtain ⟨rfl, rfl, rfl⟩ := H
   go_enter Tryd.func49, Tryd.ntmps49
   go_wp2_with (first | ((with_reducible refine gate_dst (N := 2) rfl ?_); refine zx 2 #[.bool false, .int .u64 0, .int .u64 0] 25 ?_; intro gb176 hg w5 hbox hb; have BK176 := Aside0.mk (hbox); have GW176 := Aside0.mk ((by rw [hg]; exact (below_size (zB HB)) : w.heap.size ≤ gb176)); have GE176 := Aside0.mk ((by rw [hg]; exact (below_size (zB HB)) : w.heap.size ≤ gb176)); replace HB := Aside0.mk (below_step (zB HB) hb); clear hb hbox hg; obtain ⟨hcz6_0, hcz6_1, hcz6_2⟩ := zc3 BK176; obtain ⟨hfz6_0, hfz6_1, hfz6_2⟩ := zf3 BK176))
   refine bodyPost_ret (results_cell_row rfl _ _ gb176 25 #[.bool false, .int .u64 0, .int .u64 4294967295] (0, 0) _ rfl (by refine zL ?_; refine blk_put (cs := #[.bool false, .int .u64 0, .int .u64 0]) ?_ 2 _ rfl; refine zL ?_; refine blk_put (cs := #[.bool false, .int .u64 0, .int .u64 0]) ?_ 1 _ rfl; refine zL ?_; refine blk_put (cs := #[.bool false, .int .u64 0, .int .u64 0]) ?_ 0 _ rfl; refine zL ?_; exact BK176.out) Tryd.underlying25 rfl (by kernel_rfl)) rfl ?_
   exact ⟨by first | rfl | (simp [errW_none, errW_some] <;> rfl) | (simp [*, errW_none, errW_some] <;> rfl), by repeat (first | (with_reducible first | exact HB.out | apply below_alloc | apply pw_below_drewN | apply below_drew1 | refine below_set ?_ GE176.out) | exact HB.out)⟩
end Go.Proofs.YtlgfinnldhjgeaaDoor.Q
end

section
namespace Go.Proofs.YtlgfinnldhjgeaaDoor.Q
open Go.RowKit Go.Proofs.YtlgfinnldhjgeaaDoorW.PrintWords Go.Proofs.YtlgfinnldhjgeaaDoorW.PrintLast Go.Proofs.YtlgfinnldhjgeaaDoorW.PrintMore
attribute [local go_sem] max2_int min2_int max_two min_two max_three min_three max_four min_four
set_option linter.unusedVariables false
set_option linter.unusedSimpArgs false
attribute [local go_sem high] eqA25
def address_Next.f (a0_0 : Bool) (a0_1 : Int) (a0_2 : Int) : Option (Bool × Int × Int × Bool) := (address_last.f a0_0).bind fun bt179 => (if (a0_0 == bt179.1 && (a0_1 == bt179.2.1 && (a0_2 == bt179.2.2))) = true then (some (false, 0, 0, false)) else (if (IntKind.u64.wrap (a0_2 + 1)) = 0 then (some (a0_0, IntKind.u64.wrap (a0_1 + 1), IntKind.u64.wrap (a0_2 + 1), true)) else (some (a0_0, a0_1, IntKind.u64.wrap (a0_2 + 1), true))))
set_option maxHeartbeats 8000000 in
set_option maxRecDepth 100000 in
theorem address_Next.calls (a0_0 : Bool) (a0_1 : Int) (a0_2 : Int) (r1 : Bool) (r2 : Int) (r3 : Int) (r4 : Bool) (w : World) (h : address_Next.f a0_0 a0_1 a0_2 = some (r1, r2, r3, r4)) :
 Calls Tryd.prog 16 #[.agg #[.bool a0_0, .int .u64 a0_1, .int .u64 a0_2]] w fun e w' => e = .returned (.tuple #[.agg #[.bool r1, .int .u64 r2, .int .u64 r3], .bool r4]) ∧ Below w.heap.size w w' := by
 have hu25 := Tryd.underlying25
 have HB := Aside0.mk (Below.refl w.heap.size w)
 unfold address_Next.f at h; have H := h
 clear h
 replace H := Option.bind_eq_some_iff.mp H
 obtain ⟨⟨t179, t180, t181⟩, A20, H⟩ := H
 replace H : (if (a0_0 == t179 && (a0_1 == t180 && (a0_2 == t181))) = true then (some (false, 0, 0, false)) else (if (IntKind.u64.wrap (a0_2 + 1)) = 0 then (some (a0_0, IntKind.u64.wrap (a0_1 + 1), IntKind.u64.wrap (a0_2 + 1), true)) else (some (a0_0, a0_1, IntKind.u64.wrap (a0_2 + 1), true)))) = some (r1, r2, r3, r4) := H
 have A2 := Aside0.mk A20
 clear A20
 by_cases c3 : (a0_0 == t179 && (a0_1 == t180 && (a0_2 == t181))) = true
 · rw [if_pos c3] at H
   have c3b0 : (a0_0 == t179 && (a0_1 == t180 && (a0_2 == t181))) = true := c3
   (try (have c3b1 : decide (a0_0 = t179 && (a0_1 == t180 && (a0_2 == t181))) = true := by first | (simpa using c3) | exact decide_eq_true (Decidable.not_not.1 (fun hn => c3 (bne_iff_ne.2 hn))) | exact beq_iff_eq.2 (Decidable.not_not.1 (fun hn => c3 (bne_iff_ne.2 hn))) | exact decide_eq_false (bne_iff_ne.1 c3) | exact beq_eq_false_iff_ne.2 (bne_iff_ne.1 c3) | exact bne_iff_ne.1 c3))
   (try (have c3b2 : (a0_0 == t179 && (a0_1 == t180 && (a0_2 == t181))) = true := by first | (simpa using c3) | exact decide_eq_true (Decidable.not_not.1 (fun hn => c3 (bne_iff_ne.2 hn))) | exact beq_iff_eq.2 (Decidable.not_not.1 (fun hn => c3 (bne_iff_ne.2 hn))) | exact decide_eq_false (bne_iff_ne.1 c3) | exact beq_eq_false_iff_ne.2 (bne_iff_ne.1 c3) | exact bne_iff_ne.1 c3))
   clear c3
   simp only [Option.some.injEq, Prod.mk.injEq] at H
   obtain ⟨rfl, rfl, rfl, rfl⟩ := H
   go_enter Tryd.func16, Tryd.ntmps16
   try go_wp2_with (first | ((with_reducible refine gate_dst (N := 1) rfl ?_); refine zx 1 #[.bool a0_0, .int .u64 a0_1, .int .u64 a0_2] 25 ?_; intro gb177 hg w4 hbox hb; have BK177 := Aside0.mk (hbox); have GW177 := Aside0.mk ((by rw [hg]; exact (below_size (zB HB)) : w.heap.size ≤ gb177)); have GE177 := Aside0.mk ((by rw [hg]; exact (below_size (zB HB)) : w.heap.size ≤ gb177)); replace HB := Aside0.mk (below_step (zB HB) hb); clear hb hbox hg) | ((with_reducible refine gate_dst (N := 2) rfl ?_); refine zx 2 #[.bool false, .int .u64 0, .int .u64 0] 25 ?_; intro gb178 hg w5 hbox hb; have BK178 := Aside0.mk (hbox); have GW178 := Aside0.mk ((by rw [hg]; exact (below_size (zB HB)) : w.heap.size ≤ gb178)); have GE178 := Aside0.mk ((by rw [hg]; exact (below_size (zB HB)) : w.heap.size ≤ gb178)); replace HB := Aside0.mk (below_step (zB HB) hb); have NB177_178 := Aside0.mk ((by rw [hg]; exact Nat.ne_of_lt (blk_lt (g := gb177) (o := .cells #[.bool a0_0, .int .u64 a0_1, .int .u64 a0_2] 25 (0, 0)) (zK BK177)) : gb177 ≠ gb178)); have NB178_177 := Aside0.mk ((by rw [hg]; exact Nat.ne_of_gt (blk_lt (g := gb177) (o := .cells #[.bool a0_0, .int .u64 a0_1, .int .u64 a0_2] 25 (0, 0)) (zK BK177)) : gb178 ≠ gb177)); replace BK177 := Aside0.mk (blk_below (g := gb177) (o := .cells #[.bool a0_0, .int .u64 a0_1, .int .u64 a0_2] 25 (0, 0)) (zK BK177) hb); clear hb hbox hg))
   replace BK177 := Aside0.mk (blk_drew BK177.out)
   replace BK178 := Aside0.mk (blk_drew BK178.out)
   replace HB := Aside0.mk (below_drew1 HB.out)
   refine start_ (n := 5) (S := fun w' => w'.cell? ⟨gb177, 0, none⟩ = some (.bool a0_0) ∧ w'.cell? ⟨gb177, 1, none⟩ = some (.int .u64 a0_1) ∧ w'.cell? ⟨gb177, 2, none⟩ = some (.int .u64 a0_2)) (ds := []) #[false, false, false, false, false] (by kernel_rfl) rfl rfl ⟨zc BK177 0, zc BK177 1, zc BK177 2⟩ (fun hHeld => ?_)
   generalize w5.drew = w6 at BK177 BK178 HB hHeld ⊢
   refine zp0 1 5 ?_; refine zt0 0 4 hHeld ?_; refine zt0 2 6 hHeld ?_; refine zo0 3 7 (fun K hK => ?_)
   refine zg Tryd.func49 #[.bool a0_0] ?_
   with_reducible refine (address_last.calls a0_0 t179 t180 t181 _ A2.out).mono ?_
   rintro e w7 ⟨rfl, hb⟩
   refine ⟨_, rfl, ?_⟩
   replace BK177 := Aside0.mk (blk_below (g := gb177) (o := .cells #[.bool a0_0, .int .u64 a0_1, .int .u64 a0_2] 25 (0, 0)) (zK BK177) hb)
   replace BK178 := Aside0.mk (blk_below (g := gb178) (o := .cells #[.bool false, .int .u64 0, .int .u64 0] 25 (0, 0)) (zK BK178) hb)
   replace HB := Aside0.mk (below_step (zB HB) hb)
   (try clear hb)
   refine hK.out _ _ ⟨zc BK177 0, zc BK177 1, zc BK177 2⟩ (fun hHeld => ?_)
   clear hK K
   refine zn 7 ?_; refine zp0 4 8 ?_; refine zd0 ?_
   have hnb8 := NB178_177.out
   have hnc8 := NB177_178.out
   obtain ⟨hcz9_0, hcz9_1, hcz9_2⟩ := zc3 BK178
   obtain ⟨hfz9_0, hfz9_1, hfz9_2⟩ := zf3 BK178
   try go_wp2
   refine bodyPost_ret (results_ct rfl _ _ gb178 25 #[.bool false, .int .u64 0, .int .u64 0] (0, 0) _ rfl (by refine zL ?_; refine blk_put (cs := #[.bool false, .int .u64 0, .int .u64 0]) ?_ 2 _ rfl; refine zL ?_; refine blk_put (cs := #[.bool false, .int .u64 0, .int .u64 0]) ?_ 1 _ rfl; refine zL ?_; refine blk_put (cs := #[.bool false, .int .u64 0, .int .u64 0]) ?_ 0 _ rfl; refine zL ?_; exact BK178.out) Tryd.underlying25 rfl (by kernel_rfl)) rfl ?_
   exact ⟨by first | rfl | (simp [errW_none, errW_some] <;> rfl) | (simp [*, errW_none, errW_some] <;> rfl), by repeat (first | (with_reducible first | exact HB.out | apply below_alloc | apply pw_below_drewN | apply below_drew1 | refine below_set ?_ GE177.out | refine below_set ?_ GE178.out) | exact HB.out)⟩
 · rw [if_neg c3] at H
   have c3b0 : (a0_0 == t179 && (a0_1 == t180 && (a0_2 == t181))) = false := by simpa using c3
   (try (have c3b1 : decide (a0_0 = t179 && (a0_1 == t180 && (a0_2 == t181))) = false := by first | (simpa using c3) | exact decide_eq_true (Decidable.not_not.1 (fun hn => c3 (bne_iff_ne.2 hn))) | exact beq_iff_eq.2 (Decidable.not_not.1 (fun hn => c3 (bne_iff_ne.2 hn))) | exact decide_eq_false (bne_iff_ne.1 c3) | exact beq_eq_false_iff_ne.2 (bne_iff_ne.1 c3) | exact bne_iff_ne.1 c3))
   (try (have c3b2 : (a0_0 == t179 && (a0_1 == t180 && (a0_2 == t181))) = false := by first | (simpa using c3) | exact decide_eq_true (Decidable.not_not.1 (fun hn => c3 (bne_iff_ne.2 hn))) | exact beq_iff_eq.2 (Decidable.not_not.1 (fun hn => c3 (bne_iff_ne.2 hn))) | exact decide_eq_false (bne_iff_ne.1 c3) | exact beq_eq_false_iff_ne.2 (bne_iff_ne.1 c3) | exact bne_iff_ne.1 c3))
   (try (have c3b3 : ¬ (a0_0 = t179 && (a0_1 == t180 && (a0_2 == t181))) := by first | (simpa using c3) | exact decide_eq_true (Decidable.not_not.1 (fun hn => c3 (bne_iff_ne.2 hn))) | exact beq_iff_eq.2 (Decidable.not_not.1 (fun hn => c3 (bne_iff_ne.2 hn))) | exact decide_eq_false (bne_iff_ne.1 c3) | exact beq_eq_false_iff_ne.2 (bne_iff_ne.1 c3) | exact bne_iff_ne.1 c3))
   clear c3
   by_cases c10 : (IntKind.u64.wrap (a0_2 + 1)) = 0
   · rw [if_pos c10] at H
     have c10b0 : ((IntKind.u64.wrap (a0_2 + 1)) == 0) = true := beq_iff_eq.mpr c10
     have c10b1 : ((IntKind.u64.wrap (a0_2 + 1)) != 0) = false := bne_eq_false_iff_eq.mpr c10
     clear c10
     simp only [Option.some.injEq, Prod.mk.injEq] at H
     obtain ⟨rfl, rfl, rfl, rfl⟩ := H
     go_enter Tryd.func16, Tryd.ntmps16
     try go_wp2_with (first | ((with_reducible refine gate_dst (N := 1) rfl ?_); refine zx 1 #[.bool a0_0, .int .u64 a0_1, .int .u64 a0_2] 25 ?_; intro gb177 hg w11 hbox hb; have BK177 := Aside0.mk (hbox); have GW177 := Aside0.mk ((by rw [hg]; exact (below_size (zB HB)) : w.heap.size ≤ gb177)); have GE177 := Aside0.mk ((by rw [hg]; exact (below_size (zB HB)) : w.heap.size ≤ gb177)); replace HB := Aside0.mk (below_step (zB HB) hb); clear hb hbox hg) | ((with_reducible refine gate_dst (N := 2) rfl ?_); refine zx 2 #[.bool false, .int .u64 0, .int .u64 0] 25 ?_; intro gb178 hg w12 hbox hb; have BK178 := Aside0.mk (hbox); have GW178 := Aside0.mk ((by rw [hg]; exact (below_size (zB HB)) : w.heap.size ≤ gb178)); have GE178 := Aside0.mk ((by rw [hg]; exact (below_size (zB HB)) : w.heap.size ≤ gb178)); replace HB := Aside0.mk (below_step (zB HB) hb); have NB177_178 := Aside0.mk ((by rw [hg]; exact Nat.ne_of_lt (blk_lt (g := gb177) (o := .cells #[.bool a0_0, .int .u64 a0_1, .int .u64 a0_2] 25 (0, 0)) (zK BK177)) : gb177 ≠ gb178)); have NB178_177 := Aside0.mk ((by rw [hg]; exact Nat.ne_of_gt (blk_lt (g := gb177) (o := .cells #[.bool a0_0, .int .u64 a0_1, .int .u64 a0_2] 25 (0, 0)) (zK BK177)) : gb178 ≠ gb177)); replace BK177 := Aside0.mk (blk_below (g := gb177) (o := .cells #[.bool a0_0, .int .u64 a0_1, .int .u64 a0_2] 25 (0, 0)) (zK BK177) hb); clear hb hbox hg))
     replace BK177 := Aside0.mk (blk_drew BK177.out)
     replace BK178 := Aside0.mk (blk_drew BK178.out)
     replace HB := Aside0.mk (below_drew1 HB.out)
     refine start_ (n := 5) (S := fun w' => w'.cell? ⟨gb177, 0, none⟩ = some (.bool a0_0) ∧ w'.cell? ⟨gb177, 1, none⟩ = some (.int .u64 a0_1) ∧ w'.cell? ⟨gb177, 2, none⟩ = some (.int .u64 a0_2)) (ds := []) #[false, false, false, false, false] (by kernel_rfl) rfl rfl ⟨zc BK177 0, zc BK177 1, zc BK177 2⟩ (fun hHeld => ?_)
     generalize w12.drew = w13 at BK177 BK178 HB hHeld ⊢
     refine zp0 1 5 ?_; refine zt0 0 4 hHeld ?_; refine zt0 2 6 hHeld ?_; refine zo0 3 7 (fun K hK => ?_)
     refine zg Tryd.func49 #[.bool a0_0] ?_
     with_reducible refine (address_last.calls a0_0 t179 t180 t181 _ A2.out).mono ?_
     rintro e w14 ⟨rfl, hb⟩
     refine ⟨_, rfl, ?_⟩
     replace BK177 := Aside0.mk (blk_below (g := gb177) (o := .cells #[.bool a0_0, .int .u64 a0_1, .int .u64 a0_2] 25 (0, 0)) (zK BK177) hb)
     replace BK178 := Aside0.mk (blk_below (g := gb178) (o := .cells #[.bool false, .int .u64 0, .int .u64 0] 25 (0, 0)) (zK BK178) hb)
     replace HB := Aside0.mk (below_step (zB HB) hb)
     (try clear hb)
     refine hK.out _ _ ⟨zc BK177 0, zc BK177 1, zc BK177 2⟩ (fun hHeld => ?_)
     clear hK K
     refine zn 7 ?_; refine zp0 4 8 ?_; refine zd0 ?_
     have hnb15 := NB177_178.out
     have hnc15 := NB178_177.out
     obtain ⟨hcz16_0, hcz16_1, hcz16_2⟩ := zc3 BK177
     obtain ⟨hfz16_0, hfz16_1, hfz16_2⟩ := zf3 BK177
     obtain ⟨hcz17_0, hcz17_1, hcz17_2⟩ := zc3 BK178
     obtain ⟨hfz17_0, hfz17_1, hfz17_2⟩ := zf3 BK178
     try go_wp2
     refine bodyPost_ret (results_ct rfl _ _ gb178 25 #[.bool a0_0, .int .u64 (IntKind.u64.wrap (a0_1 + 1)), .int .u64 (IntKind.u64.wrap (a0_2 + 1))] (0, 0) _ rfl (by refine zL ?_; refine blk_put (cs := #[.bool a0_0, .int .u64 (IntKind.u64.wrap (a0_1 + 1)), .int .u64 0]) ?_ 2 _ rfl; refine zL ?_; refine blk_put (cs := #[.bool a0_0, .int .u64 0, .int .u64 0]) ?_ 1 _ rfl; refine zL ?_; refine blk_put (cs := #[.bool false, .int .u64 0, .int .u64 0]) ?_ 0 _ rfl; refine zL ?_; refine blk_far ?_ NB178_177.out _; refine zL ?_; refine blk_far ?_ NB178_177.out _; refine zL ?_; exact BK178.out) Tryd.underlying25 rfl (by kernel_rfl)) rfl ?_
     exact ⟨by first | rfl | (simp [errW_none, errW_some] <;> rfl) | (simp [*, errW_none, errW_some] <;> rfl), by repeat (first | (with_reducible first | exact HB.out | apply below_alloc | apply pw_below_drewN | apply below_drew1 | refine below_set ?_ GE177.out | refine below_set ?_ GE178.out) | exact HB.out)⟩
   · rw [if_neg c10] at H
     have c10b0 : ((IntKind.u64.wrap (a0_2 + 1)) == 0) = false := beq_eq_false_iff_ne.mpr c10
     have c10b1 : ((IntKind.u64.wrap (a0_2 + 1)) != 0) = true := bne_iff_ne.mpr c10
     simp only [Option.some.injEq, Prod.mk.injEq] at H
     obtain ⟨rfl, rfl, rfl, rfl⟩ := H
     go_enter Tryd.func16, Tryd.ntmps16
     try go_wp2_with (first | ((with_reducible refine gate_dst (N := 1) rfl ?_); refine zx 1 #[.bool a0_0, .int .u64 a0_1, .int .u64 a0_2] 25 ?_; intro gb177 hg w18 hbox hb; have BK177 := Aside0.mk (hbox); have GW177 := Aside0.mk ((by rw [hg]; exact (below_size (zB HB)) : w.heap.size ≤ gb177)); have GE177 := Aside0.mk ((by rw [hg]; exact (below_size (zB HB)) : w.heap.size ≤ gb177)); replace HB := Aside0.mk (below_step (zB HB) hb); clear hb hbox hg) | ((with_reducible refine gate_dst (N := 2) rfl ?_); refine zx 2 #[.bool false, .int .u64 0, .int .u64 0] 25 ?_; intro gb178 hg w19 hbox hb; have BK178 := Aside0.mk (hbox); have GW178 := Aside0.mk ((by rw [hg]; exact (below_size (zB HB)) : w.heap.size ≤ gb178)); have GE178 := Aside0.mk ((by rw [hg]; exact (below_size (zB HB)) : w.heap.size ≤ gb178)); replace HB := Aside0.mk (below_step (zB HB) hb); have NB177_178 := Aside0.mk ((by rw [hg]; exact Nat.ne_of_lt (blk_lt (g := gb177) (o := .cells #[.bool a0_0, .int .u64 a0_1, .int .u64 a0_2] 25 (0, 0)) (zK BK177)) : gb177 ≠ gb178)); have NB178_177 := Aside0.mk ((by rw [hg]; exact Nat.ne_of_gt (blk_lt (g := gb177) (o := .cells #[.bool a0_0, .int .u64 a0_1, .int .u64 a0_2] 25 (0, 0)) (zK BK177)) : gb178 ≠ gb177)); replace BK177 := Aside0.mk (blk_below (g := gb177) (o := .cells #[.bool a0_0, .int .u64 a0_1, .int .u64 a0_2] 25 (0, 0)) (zK BK177) hb); clear hb hbox hg))
     replace BK177 := Aside0.mk (blk_drew BK177.out)
     replace BK178 := Aside0.mk (blk_drew BK178.out)
     replace HB := Aside0.mk (below_drew1 HB.out)
     refine start_ (n := 5) (S := fun w' => w'.cell? ⟨gb177, 0, none⟩ = some (.bool a0_0) ∧ w'.cell? ⟨gb177, 1, none⟩ = some (.int .u64 a0_1) ∧ w'.cell? ⟨gb177, 2, none⟩ = some (.int .u64 a0_2)) (ds := []) #[false, false, false, false, false] (by kernel_rfl) rfl rfl ⟨zc BK177 0, zc BK177 1, zc BK177 2⟩ (fun hHeld => ?_)
     generalize w19.drew = w20 at BK177 BK178 HB hHeld ⊢
     refine zp0 1 5 ?_; refine zt0 0 4 hHeld ?_; refine zt0 2 6 hHeld ?_; refine zo0 3 7 (fun K hK => ?_)
     refine zg Tryd.func49 #[.bool a0_0] ?_
     with_reducible refine (address_last.calls a0_0 t179 t180 t181 _ A2.out).mono ?_
     rintro e w21 ⟨rfl, hb⟩
     refine ⟨_, rfl, ?_⟩
     replace BK177 := Aside0.mk (blk_below (g := gb177) (o := .cells #[.bool a0_0, .int .u64 a0_1, .int .u64 a0_2] 25 (0, 0)) (zK BK177) hb)
     replace BK178 := Aside0.mk (blk_below (g := gb178) (o := .cells #[.bool false, .int .u64 0, .int .u64 0] 25 (0, 0)) (zK BK178) hb)
     replace HB := Aside0.mk (below_step (zB HB) hb)
     (try clear hb)
     refine hK.out _ _ ⟨zc BK177 0, zc BK177 1, zc BK177 2⟩ (fun hHeld => ?_)
     clear hK K
     refine zn 7 ?_; refine zp0 4 8 ?_; refine zd0 ?_
     have hnb22 := NB177_178.out
     have hnc22 := NB178_177.out
     obtain ⟨hcz23_0, hcz23_1, hcz23_2⟩ := zc3 BK177
     obtain ⟨hfz23_0, hfz23_1, hfz23_2⟩ := zf3 BK177
     obtain ⟨hcz24_0, hcz24_1, hcz24_2⟩ := zc3 BK178
     obtain ⟨hfz24_0, hfz24_1, hfz24_2⟩ := zf3 BK178
     try go_wp2
     refine bodyPost_ret (results_ct rfl _ _ gb178 25 #[.bool a0_0, .int .u64 a0_1, .int .u64 (IntKind.u64.wrap (a0_2 + 1))] (0, 0) _ rfl (by refine zL ?_; refine blk_put (cs := #[.bool a0_0, .int .u64 a0_1, .int .u64 0]) ?_ 2 _ rfl; refine zL ?_; refine blk_put (cs := #[.bool a0_0, .int .u64 0, .int .u64 0]) ?_ 1 _ rfl; refine zL ?_; refine blk_put (cs := #[.bool false, .int .u64 0, .int .u64 0]) ?_ 0 _ rfl; refine zL ?_; refine blk_far ?_ NB178_177.out _; refine zL ?_; exact BK178.out) Tryd.underlying25 rfl (by kernel_rfl)) rfl ?_
     exact ⟨by first | rfl | (simp [errW_none, errW_some] <;> rfl) | (simp [*, errW_none, errW_some] <;> rfl), by repeat (first | (with_reducible first | exact HB.out | apply below_alloc | apply pw_below_drewN | apply below_drew1 | refine below_set ?_ GE177.out | refine below_set ?_ GE178.out) | exact HB.out)⟩
end Go.Proofs.YtlgfinnldhjgeaaDoor.Q
end

section
namespace Go.Proofs.YtlgfinnldhjgeaaDoor.Q
open Go.RowKit Go.Proofs.YtlgfinnldhjgeaaDoorW.PrintWords Go.Proofs.YtlgfinnldhjgeaaDoorW.PrintLast Go.Proofs.YtlgfinnldhjgeaaDoorW.PrintMore
attribute [local go_sem] max2_int min2_int max_two min_two max_three min_three max_four min_four
set_option linter.unusedVariables false
set_option linter.unusedSimpArgs false
def address_Contains.f (a0_0 : Bool) (a0_1 : Int) (a0_2 : Int) (a0_3 : Int) (a1_0 : Bool) (a1_1 : Int) (a1_2 : Int) : Option (Bool) := if (a0_0 != a1_0) = true then (some false) else ((address_mask.f a1_0 a1_1 a1_2 a0_3).bind fun bt184 => (if (Go.bits .andNot .u64 a1_1 bt184.1) = (Go.bits .andNot .u64 a0_1 bt184.1) then (some ((Go.bits .andNot .u64 a1_2 bt184.2) == (Go.bits .andNot .u64 a0_2 bt184.2))) else (some false)))
set_option maxHeartbeats 8000000 in
set_option maxRecDepth 100000 in
theorem address_Contains.calls (a0_0 : Bool) (a0_1 : Int) (a0_2 : Int) (a0_3 : Int) (a1_0 : Bool) (a1_1 : Int) (a1_2 : Int) (r : Bool) (w : World) (h : address_Contains.f a0_0 a0_1 a0_2 a0_3 a1_0 a1_1 a1_2 = some r) :
 Calls Tryd.prog 23 #[.agg #[.bool a0_0, .int .u64 a0_1, .int .u64 a0_2, .int .i64 a0_3], .agg #[.bool a1_0, .int .u64 a1_1, .int .u64 a1_2]] w fun e w' => e = .returned (.bool r) ∧ Below w.heap.size w w' := by
 have hu30 := Tryd.underlying30
 have hu25 := Tryd.underlying25
 have HB := Aside0.mk (Below.refl w.heap.size w)
 unfold address_Contains.f at h; have H := h
 clear h
 by_cases c3 : (a0_0 != a1_0) = true
 · rw [if_pos c3] at H
   have c3b0 : (a0_0 != a1_0) = true := c3
   (try (have c3b1 : decide (a0_0 = a1_0) = false := by first | (simpa using c3) | exact decide_eq_true (Decidable.not_not.1 (fun hn => c3 (bne_iff_ne.2 hn))) | exact beq_iff_eq.2 (Decidable.not_not.1 (fun hn => c3 (bne_iff_ne.2 hn))) | exact decide_eq_false (bne_iff_ne.1 c3) | exact beq_eq_false_iff_ne.2 (bne_iff_ne.1 c3) | exact bne_iff_ne.1 c3))
   (try (have c3b2 : (a0_0 == a1_0) = false := by first | (simpa using c3) | exact decide_eq_true (Decidable.not_not.1 (fun hn => c3 (bne_iff_ne.2 hn))) | exact beq_iff_eq.2 (Decidable.not_not.1 (fun hn => c3 (bne_iff_ne.2 hn))) | exact decide_eq_false (bne_iff_ne.1 c3) | exact beq_eq_false_iff_ne.2 (bne_iff_ne.1 c3) | exact bne_iff_ne.1 c3))
   (try (have c3b3 : ¬ (a0_0 = a1_0) := by first | (simpa using c3) | exact decide_eq_true (Decidable.not_not.1 (fun hn => c3 (bne_iff_ne.2 hn))) | exact beq_iff_eq.2 (Decidable.not_not.1 (fun hn => c3 (bne_iff_ne.2 hn))) | exact decide_eq_false (bne_iff_ne.1 c3) | exact beq_eq_false_iff_ne.2 (bne_iff_ne.1 c3) | exact bne_iff_ne.1 c3))
   clear c3
   obtain rfl := Option.some.inj H
   go_enter Tryd.func23, Tryd.ntmps23
   go_wp2_with (first | ((with_reducible refine gate_dst (N := 2) rfl ?_); refine zx 2 #[.bool a0_0, .int .u64 a0_1, .int .u64 a0_2, .int .i64 a0_3] 30 ?_; intro gb182 hg w4 hbox hb; have BK182 := Aside0.mk (hbox); have GW182 := Aside0.mk ((by rw [hg]; exact (below_size (zB HB)) : w.heap.size ≤ gb182)); have GE182 := Aside0.mk ((by rw [hg]; exact (below_size (zB HB)) : w.heap.size ≤ gb182)); replace HB := Aside0.mk (below_step (zB HB) hb); clear hb hbox hg) | ((with_reducible refine gate_dst (N := 3) rfl ?_); refine zx 3 #[.bool a1_0, .int .u64 a1_1, .int .u64 a1_2] 25 ?_; intro gb183 hg w5 hbox hb; have BK183 := Aside0.mk (hbox); have GW183 := Aside0.mk ((by rw [hg]; exact (below_size (zB HB)) : w.heap.size ≤ gb183)); have GE183 := Aside0.mk ((by rw [hg]; exact (below_size (zB HB)) : w.heap.size ≤ gb183)); replace HB := Aside0.mk (below_step (zB HB) hb); have NB182_183 := Aside0.mk ((by rw [hg]; exact Nat.ne_of_lt (blk_lt (g := gb182) (o := .cells #[.bool a0_0, .int .u64 a0_1, .int .u64 a0_2, .int .i64 a0_3] 30 (0, 0)) (zK BK182)) : gb182 ≠ gb183)); have NB183_182 := Aside0.mk ((by rw [hg]; exact Nat.ne_of_gt (blk_lt (g := gb182) (o := .cells #[.bool a0_0, .int .u64 a0_1, .int .u64 a0_2, .int .i64 a0_3] 30 (0, 0)) (zK BK182)) : gb183 ≠ gb182)); replace BK182 := Aside0.mk (blk_below (g := gb182) (o := .cells #[.bool a0_0, .int .u64 a0_1, .int .u64 a0_2, .int .i64 a0_3] 30 (0, 0)) (zK BK182) hb); clear hb hbox hg; have hnb6 := NB182_183.out; have hnc6 := NB183_182.out; obtain ⟨hcz7_0, hcz7_1, hcz7_2, hcz7_3⟩ := zc4 BK182; obtain ⟨hfz7_0, hfz7_1, hfz7_2, hfz7_3⟩ := zf4 BK182; obtain ⟨hcz8_0, hcz8_1, hcz8_2⟩ := zc3 BK183; obtain ⟨hfz8_0, hfz8_1, hfz8_2⟩ := zf3 BK183))
   go_ret
   exact ⟨by first | rfl | (simp [errW_none, errW_some] <;> rfl) | (simp [*, errW_none, errW_some] <;> rfl), by repeat (first | (with_reducible first | exact HB.out | apply below_alloc | apply pw_below_drewN | apply below_drew1 | refine below_set ?_ GE182.out | refine below_set ?_ GE183.out) | exact HB.out)⟩
 · rw [if_neg c3] at H
   have c3b0 : (a0_0 != a1_0) = false := by simpa using c3
   (try (have c3b1 : decide (a0_0 = a1_0) = true := by first | (simpa using c3) | exact decide_eq_true (Decidable.not_not.1 (fun hn => c3 (bne_iff_ne.2 hn))) | exact beq_iff_eq.2 (Decidable.not_not.1 (fun hn => c3 (bne_iff_ne.2 hn))) | exact decide_eq_false (bne_iff_ne.1 c3) | exact beq_eq_false_iff_ne.2 (bne_iff_ne.1 c3) | exact bne_iff_ne.1 c3))
   (try (have c3b2 : (a0_0 == a1_0) = true := by first | (simpa using c3) | exact decide_eq_true (Decidable.not_not.1 (fun hn => c3 (bne_iff_ne.2 hn))) | exact beq_iff_eq.2 (Decidable.not_not.1 (fun hn => c3 (bne_iff_ne.2 hn))) | exact decide_eq_false (bne_iff_ne.1 c3) | exact beq_eq_false_iff_ne.2 (bne_iff_ne.1 c3) | exact bne_iff_ne.1 c3))
   clear c3
   replace H := Option.bind_eq_some_iff.mp H
   obtain ⟨⟨t184, t185⟩, A90, H⟩ := H
   try dsimp only at H
   have A9 := Aside0.mk A90
   clear A90
   by_cases c10 : (Go.bits .andNot .u64 a1_1 t184) = (Go.bits .andNot .u64 a0_1 t184)
   · rw [if_pos c10] at H
     have c10b0 : ((Go.bits .andNot .u64 a1_1 t184) == (Go.bits .andNot .u64 a0_1 t184)) = true := beq_iff_eq.mpr c10
     have c10b1 : ((Go.bits .andNot .u64 a1_1 t184) != (Go.bits .andNot .u64 a0_1 t184)) = false := bne_eq_false_iff_eq.mpr c10
     clear c10
     obtain rfl := Option.some.inj H
     go_enter Tryd.func23, Tryd.ntmps23
     go_wp2_with (first | ((with_reducible refine gate_dst (N := 2) rfl ?_); refine zx 2 #[.bool a0_0, .int .u64 a0_1, .int .u64 a0_2, .int .i64 a0_3] 30 ?_; intro gb182 hg w11 hbox hb; have BK182 := Aside0.mk (hbox); have GW182 := Aside0.mk ((by rw [hg]; exact (below_size (zB HB)) : w.heap.size ≤ gb182)); have GE182 := Aside0.mk ((by rw [hg]; exact (below_size (zB HB)) : w.heap.size ≤ gb182)); replace HB := Aside0.mk (below_step (zB HB) hb); clear hb hbox hg) | ((with_reducible refine gate_dst (N := 3) rfl ?_); refine zx 3 #[.bool a1_0, .int .u64 a1_1, .int .u64 a1_2] 25 ?_; intro gb183 hg w12 hbox hb; have BK183 := Aside0.mk (hbox); have GW183 := Aside0.mk ((by rw [hg]; exact (below_size (zB HB)) : w.heap.size ≤ gb183)); have GE183 := Aside0.mk ((by rw [hg]; exact (below_size (zB HB)) : w.heap.size ≤ gb183)); replace HB := Aside0.mk (below_step (zB HB) hb); have NB182_183 := Aside0.mk ((by rw [hg]; exact Nat.ne_of_lt (blk_lt (g := gb182) (o := .cells #[.bool a0_0, .int .u64 a0_1, .int .u64 a0_2, .int .i64 a0_3] 30 (0, 0)) (zK BK182)) : gb182 ≠ gb183)); have NB183_182 := Aside0.mk ((by rw [hg]; exact Nat.ne_of_gt (blk_lt (g := gb182) (o := .cells #[.bool a0_0, .int .u64 a0_1, .int .u64 a0_2, .int .i64 a0_3] 30 (0, 0)) (zK BK182)) : gb183 ≠ gb182)); replace BK182 := Aside0.mk (blk_below (g := gb182) (o := .cells #[.bool a0_0, .int .u64 a0_1, .int .u64 a0_2, .int .i64 a0_3] 30 (0, 0)) (zK BK182) hb); clear hb hbox hg; have hnb13 := NB182_183.out; have hnc13 := NB183_182.out; obtain ⟨hcz14_0, hcz14_1, hcz14_2, hcz14_3⟩ := zc4 BK182; obtain ⟨hfz14_0, hfz14_1, hfz14_2, hfz14_3⟩ := zf4 BK182; obtain ⟨hcz15_0, hcz15_1, hcz15_2⟩ := zc3 BK183; obtain ⟨hfz15_0, hfz15_1, hfz15_2⟩ := zf3 BK183) | ((with_reducible refine gate_callee (f := 51) rfl ?_); refine goesL_ (some 17) rfl rfl Tryd.func51 (by kernel_rfl) rfl #[.agg #[.bool a1_0, .int .u64 a1_1, .int .u64 a1_2], .int .i64 a0_3] rfl (by (try simp only [List.map_toArray, List.map_cons, List.map_nil]); first | done | rfl | (simp only [List.length_drop, List.length_take]; rfl)) ?_; (with_reducible refine (address_mask.calls a1_0 a1_1 a1_2 a0_3 t184 t185 _ A9.out).mono ?_); rintro e w16 ⟨rfl, hb⟩; refine ⟨_, rfl, ?_⟩; replace BK182 := Aside0.mk (blk_below (g := gb182) (o := .cells #[.bool a0_0, .int .u64 a0_1, .int .u64 a0_2, .int .i64 a0_3] 30 (0, 0)) (zK BK182) hb); replace BK183 := Aside0.mk (blk_below (g := gb183) (o := .cells #[.bool a1_0, .int .u64 a1_1, .int .u64 a1_2] 25 (0, 0)) (zK BK183) hb); replace HB := Aside0.mk (below_step (zB HB) hb); (try clear hb); obtain ⟨hcz17_0, hcz17_1, hcz17_2⟩ := zc3 BK183; obtain ⟨hfz17_0, hfz17_1, hfz17_2⟩ := zf3 BK183; obtain ⟨hcz18_0, hcz18_1, hcz18_2, hcz18_3⟩ := zc4 BK182; obtain ⟨hfz18_0, hfz18_1, hfz18_2, hfz18_3⟩ := zf4 BK182))
     go_ret
     exact ⟨by first | rfl | (simp [errW_none, errW_some] <;> rfl) | (simp [*, errW_none, errW_some] <;> rfl), by repeat (first | (with_reducible first | exact HB.out | apply below_alloc | apply pw_below_drewN | apply below_drew1 | refine below_set ?_ GE182.out | refine below_set ?_ GE183.out) | exact HB.out)⟩
   · rw [if_neg c10] at H
     have c10b0 : ((Go.bits .andNot .u64 a1_1 t184) == (Go.bits .andNot .u64 a0_1 t184)) = false := beq_eq_false_iff_ne.mpr c10
     have c10b1 : ((Go.bits .andNot .u64 a1_1 t184) != (Go.bits .andNot .u64 a0_1 t184)) = true := bne_iff_ne.mpr c10
     obtain rfl := Option.some.inj H
     go_enter Tryd.func23, Tryd.ntmps23
     go_wp2_with (first | ((with_reducible refine gate_dst (N := 2) rfl ?_); refine zx 2 #[.bool a0_0, .int .u64 a0_1, .int .u64 a0_2, .int .i64 a0_3] 30 ?_; intro gb182 hg w19 hbox hb; have BK182 := Aside0.mk (hbox); have GW182 := Aside0.mk ((by rw [hg]; exact (below_size (zB HB)) : w.heap.size ≤ gb182)); have GE182 := Aside0.mk ((by rw [hg]; exact (below_size (zB HB)) : w.heap.size ≤ gb182)); replace HB := Aside0.mk (below_step (zB HB) hb); clear hb hbox hg) | ((with_reducible refine gate_dst (N := 3) rfl ?_); refine zx 3 #[.bool a1_0, .int .u64 a1_1, .int .u64 a1_2] 25 ?_; intro gb183 hg w20 hbox hb; have BK183 := Aside0.mk (hbox); have GW183 := Aside0.mk ((by rw [hg]; exact (below_size (zB HB)) : w.heap.size ≤ gb183)); have GE183 := Aside0.mk ((by rw [hg]; exact (below_size (zB HB)) : w.heap.size ≤ gb183)); replace HB := Aside0.mk (below_step (zB HB) hb); have NB182_183 := Aside0.mk ((by rw [hg]; exact Nat.ne_of_lt (blk_lt (g := gb182) (o := .cells #[.bool a0_0, .int .u64 a0_1, .int .u64 a0_2, .int .i64 a0_3] 30 (0, 0)) (zK BK182)) : gb182 ≠ gb183)); have NB183_182 := Aside0.mk ((by rw [hg]; exact Nat.ne_of_gt (blk_lt (g := gb182) (o := .cells #[.bool a0_0, .int .u64 a0_1, .int .u64 a0_2, .int .i64 a0_3] 30 (0, 0)) (zK BK182)) : gb183 ≠ gb182)); replace BK182 := Aside0.mk (blk_below (g := gb182) (o := .cells #[.bool a0_0, .int .u64 a0_1, .int .u64 a0_2, .int .i64 a0_3] 30 (0, 0)) (zK BK182) hb); clear hb hbox hg; have hnb21 := NB182_183.out; have hnc21 := NB183_182.out; obtain ⟨hcz22_0, hcz22_1, hcz22_2, hcz22_3⟩ := zc4 BK182; obtain ⟨hfz22_0, hfz22_1, hfz22_2, hfz22_3⟩ := zf4 BK182; obtain ⟨hcz23_0, hcz23_1, hcz23_2⟩ := zc3 BK183; obtain ⟨hfz23_0, hfz23_1, hfz23_2⟩ := zf3 BK183) | ((with_reducible refine gate_callee (f := 51) rfl ?_); refine goesL_ (some 17) rfl rfl Tryd.func51 (by kernel_rfl) rfl #[.agg #[.bool a1_0, .int .u64 a1_1, .int .u64 a1_2], .int .i64 a0_3] rfl (by (try simp only [List.map_toArray, List.map_cons, List.map_nil]); first | done | rfl | (simp only [List.length_drop, List.length_take]; rfl)) ?_; (with_reducible refine (address_mask.calls a1_0 a1_1 a1_2 a0_3 t184 t185 _ A9.out).mono ?_); rintro e w24 ⟨rfl, hb⟩; refine ⟨_, rfl, ?_⟩; replace BK182 := Aside0.mk (blk_below (g := gb182) (o := .cells #[.bool a0_0, .int .u64 a0_1, .int .u64 a0_2, .int .i64 a0_3] 30 (0, 0)) (zK BK182) hb); replace BK183 := Aside0.mk (blk_below (g := gb183) (o := .cells #[.bool a1_0, .int .u64 a1_1, .int .u64 a1_2] 25 (0, 0)) (zK BK183) hb); replace HB := Aside0.mk (below_step (zB HB) hb); (try clear hb); obtain ⟨hcz25_0, hcz25_1, hcz25_2⟩ := zc3 BK183; obtain ⟨hfz25_0, hfz25_1, hfz25_2⟩ := zf3 BK183; obtain ⟨hcz26_0, hcz26_1, hcz26_2, hcz26_3⟩ := zc4 BK182; obtain ⟨hfz26_0, hfz26_1, hfz26_2, hfz26_3⟩ := zf4 BK182))
     go_ret
     exact ⟨by first | rfl | (simp [errW_none, errW_some] <;> rfl) | (simp [*, errW_none, errW_some] <;> rfl), by repeat (first | (with_reducible first | exact HB.out | apply below_alloc | apply pw_below_drewN | apply below_drew1 | refine below_set ?_ GE182.out | refine below_set ?_ GE183.out) | exact HB.out)⟩
end Go.Proofs.YtlgfinnldhjgeaaDoor.Q
end

section
set_option linter.unusedVariables false
set_option linter.unusedSimpArgs false
namespace Go.Proofs.YtlgfinnldhjgeaaDoor.Q
open Go.RowKit Go.Sort Go.Lib Go.Proofs.YtlgfinnldhjgeaaDoorW.PrintWords Go.Proofs.YtlgfinnldhjgeaaDoorW.PrintLast Go.Proofs.YtlgfinnldhjgeaaDoorW.PrintMore
def cmpA (a b : S25) : Int := if a.f0 = b.f0 then (if a.f1 = b.f1 then (if a.f2 = b.f2 then 0 else if a.f2 < b.f2 then -1 else 1) else if a.f1 < b.f1 then -1 else 1) else if b.f0 = true then -1 else 1
def address_Compare.f (a0_0 : Bool) (a0_1 : Int) (a0_2 : Int) (a1_0 : Bool) (a1_1 : Int) (a1_2 : Int) : Option (Int) := some (cmpA ⟨a0_0, a0_1, a0_2⟩ ⟨a1_0, a1_1, a1_2⟩)
set_option maxHeartbeats 2000000 in
set_option maxRecDepth 100000 in
theorem compareX (a b : S25) (w : World) :
    Calls Tryd.prog 18 #[.agg #[.bool a.f0, .int .u64 a.f1, .int .u64 a.f2], .agg #[.bool b.f0, .int .u64 b.f1, .int .u64 b.f2]] w fun e w' => e = .returned (.int .i64 (cmpA a b)) ∧ ∃ q os', w' = grow (w.drewN q) os' := by
  obtain ⟨a0, a1, a2⟩ := a
  obtain ⟨b0, b1, b2⟩ := b
  have hu := Tryd.underlying25
  by_cases h0 : a0 = b0
  · subst h0
    by_cases h1 : a1 = b1
    · subst h1
      by_cases h2 : a2 = b2
      · subst h2
        rw [show cmpA ⟨a0, a1, a2⟩ ⟨a0, a1, a2⟩ = 0 by simp [cmpA]]
        cases a0 <;>
        · go_enter Tryd.func18, Tryd.ntmps18
          go_wp2
          go_ret
          exact ⟨rfl, 0, _, by rw [alloc_eq_grow, alloc_eq_grow, grow_grow]; rfl⟩
      · have e1 : (a2 == b2) = false := by simpa using h2
        have e2 : decide (a2 = b2) = false := by simpa using h2
        by_cases h3 : a2 < b2
        · rw [show cmpA ⟨a0, a1, a2⟩ ⟨a0, a1, b2⟩ = -1 by simp [cmpA, h2, h3]]
          have e3 : decide (a2 < b2) = true := by simpa using h3
          cases a0 <;>
          · go_enter Tryd.func18, Tryd.ntmps18
            go_wp2
            go_ret
            exact ⟨rfl, 0, _, by rw [alloc_eq_grow, alloc_eq_grow, grow_grow]; rfl⟩
        · rw [show cmpA ⟨a0, a1, a2⟩ ⟨a0, a1, b2⟩ = 1 by simp [cmpA, h2, h3]]
          have e3 : decide (a2 < b2) = false := by simpa using h3
          cases a0 <;>
          · go_enter Tryd.func18, Tryd.ntmps18
            go_wp2
            go_ret
            exact ⟨rfl, 0, _, by rw [alloc_eq_grow, alloc_eq_grow, grow_grow]; rfl⟩
    · have e1 : (a1 == b1) = false := by simpa using h1
      have e2 : decide (a1 = b1) = false := by simpa using h1
      have e4 : (a1 != b1) = true := by simpa using h1
      by_cases h3 : a1 < b1
      · rw [show cmpA ⟨a0, a1, a2⟩ ⟨a0, b1, b2⟩ = -1 by simp [cmpA, h1, h3]]
        have e3 : decide (a1 < b1) = true := by simpa using h3
        cases a0 <;>
        · go_enter Tryd.func18, Tryd.ntmps18
          go_wp2
          go_ret
          exact ⟨rfl, 0, _, by rw [alloc_eq_grow, alloc_eq_grow, grow_grow]; rfl⟩
      · rw [show cmpA ⟨a0, a1, a2⟩ ⟨a0, b1, b2⟩ = 1 by simp [cmpA, h1, h3]]
        have e3 : decide (a1 < b1) = false := by simpa using h3
        cases a0 <;>
        · go_enter Tryd.func18, Tryd.ntmps18
          go_wp2
          go_ret
          exact ⟨rfl, 0, _, by rw [alloc_eq_grow, alloc_eq_grow, grow_grow]; rfl⟩
  · cases b0
    · have ha : a0 = true := by simpa using h0
      subst ha
      rw [show cmpA ⟨true, a1, a2⟩ ⟨false, b1, b2⟩ = 1 by simp [cmpA]]
      clear h0
      go_enter Tryd.func18, Tryd.ntmps18
      go_wp2
      go_ret
      exact ⟨rfl, 0, _, by rw [alloc_eq_grow, alloc_eq_grow, grow_grow]; rfl⟩
    · have ha : a0 = false := by simpa using h0
      subst ha
      rw [show cmpA ⟨false, a1, a2⟩ ⟨true, b1, b2⟩ = -1 by simp [cmpA]]
      clear h0
      go_enter Tryd.func18, Tryd.ntmps18
      go_wp2
      go_ret
      exact ⟨rfl, 0, _, by rw [alloc_eq_grow, alloc_eq_grow, grow_grow]; rfl⟩
theorem address_Compare.calls (a0_0 : Bool) (a0_1 : Int) (a0_2 : Int) (a1_0 : Bool) (a1_1 : Int) (a1_2 : Int) (r : Int) (w : World) (h : address_Compare.f a0_0 a0_1 a0_2 a1_0 a1_1 a1_2 = some r) :
    Calls Tryd.prog 18 #[.agg #[.bool a0_0, .int .u64 a0_1, .int .u64 a0_2], .agg #[.bool a1_0, .int .u64 a1_1, .int .u64 a1_2]] w fun e w' => e = .returned (.int .i64 r) ∧ Below w.heap.size w w' := by
  unfold address_Compare.f at h
  injection h with h
  subst h
  refine (compareX ⟨a0_0, a0_1, a0_2⟩ ⟨a1_0, a1_1, a1_2⟩ w).mono ?_
  rintro e w' ⟨rfl, q, os, rfl⟩
  refine ⟨rfl, ?_⟩
  exact below_grow _ _ (Nat.le_refl _) _ _
end Go.Proofs.YtlgfinnldhjgeaaDoor.Q
end

section
set_option linter.unusedVariables false
set_option linter.unusedSimpArgs false
namespace Go.Proofs.YtlgfinnldhjgeaaDoor.Q
open Go.RowKit Go.Proofs.YtlgfinnldhjgeaaDoorW.PrintWords Go.Proofs.YtlgfinnldhjgeaaDoorW.PrintLast Go.Proofs.YtlgfinnldhjgeaaDoorW.PrintMore
def zEnd (l : List Int) : Nat → Nat → Nat
  | 0, k => k
  | d + 1, k => if l.getD k 0 = 0 then zEnd l d (k + 1) else k
def runF (l : List Int) : Nat → Nat → Nat × Nat → Nat × Nat
  | 0, _, b => b
  | d + 1, i, b => runF l d (i + 1) (if b.2 - b.1 < zEnd l (8 - i) i - i then (i, zEnd l (8 - i) i) else b)
theorem zEnd_le (l : List Int) : ∀ (d k : Nat), k ≤ zEnd l d k ∧ zEnd l d k ≤ k + d
  | 0, k => ⟨Nat.le_refl _, Nat.le_refl _⟩
  | d + 1, k => by
    unfold zEnd
    split
    · have := zEnd_le l d (k + 1); omega
    · omega
theorem r_sub {k i : Nat} (h1 : i ≤ k) (h2 : k ≤ 8) : wrap64 ((k : Int) - (i : Int)) = ((k - i : Nat) : Int) := by unfold wrap64; omega
theorem r_suc {k : Nat} (h2 : k ≤ 8) : wrap64 ((k : Int) + 1) = ((k + 1 : Nat) : Int) := by unfold wrap64; omega
theorem r_lt {k : Nat} (h : k < 8) : ((k : Int) < 8) = True := eq_true (by omega)
theorem r_ltd {k : Nat} (h : k < 8) : decide ((k : Int) < 8) = true := decide_eq_true (by omega)
theorem r_ge {k : Nat} (h : ¬ k < 8) : ((k : Int) < 8) = False := eq_false (by omega)
theorem r_ged {k : Nat} (h : ¬ k < 8) : decide ((k : Int) < 8) = false := decide_eq_false (by omega)
theorem r_gt {x y : Nat} (h : y < x) : decide ((x : Int) > (y : Int)) = true := decide_eq_true (by omega)
theorem r_ngt {x y : Nat} (h : ¬ y < x) : decide ((x : Int) > (y : Int)) = false := decide_eq_false (by omega)
theorem zEnd_on {l : List Int} {i k e : Nat} (h : zEnd l (8 - i) i = e) (h2 : zEnd l (8 - i) i = zEnd l (8 - k) k) (hk : k < 8) (hz : l.getD k 0 = 0) : zEnd l (8 - i) i = zEnd l (8 - (k + 1)) (k + 1) := by
  rw [h2, show 8 - k = (8 - (k + 1)) + 1 from by omega, zEnd, if_pos hz]
theorem zEnd_at {l : List Int} {i k : Nat} (h2 : zEnd l (8 - i) i = zEnd l (8 - k) k) (hk : k < 8) (hz : ¬ l.getD k 0 = 0) : zEnd l (8 - i) i = k := by
  rw [h2, show 8 - k = (8 - (k + 1)) + 1 from by omega, zEnd, if_neg hz]
theorem zEnd_8 {l : List Int} {i k : Nat} (h2 : zEnd l (8 - i) i = zEnd l (8 - k) k) (hk : ¬ k < 8) (hk8 : k ≤ 8) : zEnd l (8 - i) i = k := by
  rw [h2, show 8 - k = 0 from by omega, zEnd]
theorem runF_up {l : List Int} {i a b e : Nat} {r : Nat × Nat} (h : runF l (8 - i) i (a, b) = r) (hi : i < 8) (he : zEnd l (8 - i) i = e) (hc : b - a < e - i) : runF l (8 - (i + 1)) (i + 1) (i, e) = r := by
  rw [show 8 - i = (8 - (i + 1)) + 1 from by omega, runF] at h
  rw [he] at h
  simpa [hc] using h
theorem runF_stay {l : List Int} {i a b e : Nat} {r : Nat × Nat} (h : runF l (8 - i) i (a, b) = r) (hi : i < 8) (he : zEnd l (8 - i) i = e) (hc : ¬ b - a < e - i) : runF l (8 - (i + 1)) (i + 1) (a, b) = r := by
  rw [show 8 - i = (8 - (i + 1)) + 1 from by omega, runF] at h
  rw [he] at h
  simpa [hc] using h
theorem runF_8 {l : List Int} {i a b : Nat} {r : Nat × Nat} (h : runF l (8 - i) i (a, b) = r) (hi : ¬ i < 8) : a = r.1 ∧ b = r.2 := by
  rw [show 8 - i = 0 from by omega, runF] at h
  subst h
  exact ⟨rfl, rfl⟩
structure RunI (l : List Int) (gg i a b : Nat) (r : Nat × Nat) : Prop where
  m : 8 - i ≤ gg
  i8 : i ≤ 8
  ab : a ≤ b
  b8 : b ≤ 8
  res : runF l (8 - i) i (a, b) = r
structure RunK (l : List Int) (gg i k : Nat) : Prop where
  m : 8 - k ≤ gg
  ik : i ≤ k
  k8 : k ≤ 8
  e : zEnd l (8 - i) i = zEnd l (8 - k) k
theorem RunK.next {l : List Int} {gg i k : Nat} (h : RunK l gg i k) (hk : k < 8) (hz : l.getD k 0 = 0) : RunK l (8 - (k + 1)) i (k + 1) := ⟨by omega, by have := h.ik; omega, by omega, zEnd_on rfl h.e hk hz⟩
theorem RunK.less {l : List Int} {gg i k : Nat} (h : RunK l gg i k) (hk : k < 8) : 8 - (k + 1) < gg := by have := h.m; omega
theorem RunI.less {l : List Int} {gg i a b : Nat} {r : Nat × Nat} (h : RunI l gg i a b r) (hk : i < 8) : 8 - (i + 1) < gg := by have := h.m; omega
theorem RunI.up {l : List Int} {gg i a b e : Nat} {r : Nat × Nat} (h : RunI l gg i a b r) (hi : i < 8) (he : zEnd l (8 - i) i = e) (hie : i ≤ e) (he8 : e ≤ 8) (hc : b - a < e - i) : RunI l (8 - (i + 1)) (i + 1) i e r := ⟨by omega, by omega, hie, he8, runF_up h.res hi he hc⟩
theorem RunI.stay {l : List Int} {gg i a b e : Nat} {r : Nat × Nat} (h : RunI l gg i a b r) (hi : i < 8) (he : zEnd l (8 - i) i = e) (hc : ¬ b - a < e - i) : RunI l (8 - (i + 1)) (i + 1) a b r := ⟨by omega, by omega, h.ab, h.b8, runF_stay h.res hi he hc⟩
set_option maxHeartbeats 4000000 in
set_option maxRecDepth 100000 in
theorem address_run.calls (l0 l1 l2 l3 l4 l5 l6 l7 : Int) (w : World) :
    Calls Tryd.prog 56 #[.agg #[.int .u64 l0, .int .u64 l1, .int .u64 l2, .int .u64 l3, .int .u64 l4, .int .u64 l5, .int .u64 l6, .int .u64 l7]] w fun e w' => e = .returned (.tuple #[.int .i64 ((runF [l0, l1, l2, l3, l4, l5, l6, l7] 8 0 (0, 0)).1 : Nat), .int .i64 ((runF [l0, l1, l2, l3, l4, l5, l6, l7] 8 0 (0, 0)).2 : Nat)]) ∧ Below w.heap.size w w' := by
  obtain ⟨l, hl⟩ : ∃ l, l = [l0, l1, l2, l3, l4, l5, l6, l7] := ⟨_, rfl⟩
  rw [← hl]
  obtain ⟨res, hres⟩ : ∃ res, runF l 8 0 (0, 0) = res := ⟨_, rfl⟩
  have H0 : Aside0 (RunI l 8 0 0 0 res) := ⟨⟨by omega, by omega, by omega, by omega, hres⟩⟩
  rw [hres]
  clear hres
  have hu := Tryd.underlying68
  have hX : (w.alloc (.cells #[.int .u64 l0, .int .u64 l1, .int .u64 l2, .int .u64 l3, .int .u64 l4, .int .u64 l5, .int .u64 l6, .int .u64 l7] 68)).heap[w.heap.size]? = some (.cells #[.int .u64 l0, .int .u64 l1, .int .u64 l2, .int .u64 l3, .int .u64 l4, .int .u64 l5, .int .u64 l6, .int .u64 l7] 68 (0, 0)) := heap_alloc_new _ _
  have HX : Aside0 (∀ k : Nat, k < 8 → (w.alloc (.cells #[.int .u64 l0, .int .u64 l1, .int .u64 l2, .int .u64 l3, .int .u64 l4, .int .u64 l5, .int .u64 l6, .int .u64 l7] 68)).cell? ⟨w.heap.size, k, none⟩ = some (.int .u64 (l.getD k 0))) := ⟨fun k hk => by
    unfold World.cell?
    simp only [hX]
    rcases k with _ | _ | _ | _ | _ | _ | _ | _ | k <;> first | omega | (subst hl; rfl)⟩
  clear hX hl
  have HB : Aside0 (Below w.heap.size w (w.alloc (.cells #[.int .u64 l0, .int .u64 l1, .int .u64 l2, .int .u64 l3, .int .u64 l4, .int .u64 l5, .int .u64 l6, .int .u64 l7] 68))) := ⟨below_alloc (Below.refl _ _) _⟩
  go_enter Tryd.func56, Tryd.ntmps56
  go_upto_region 1 with (fail)
  obtain ⟨g, hg⟩ : ∃ g, w.heap.size = g := ⟨_, rfl⟩
  rw [hg] at HX
  simp only [hg]
  clear hg
  generalize w.alloc (.cells #[.int .u64 l0, .int .u64 l1, .int .u64 l2, .int .u64 l3, .int .u64 l4, .int .u64 l5, .int .u64 l6, .int .u64 l7] 68) = W at HX HB ⊢
  skip
  go_wp2_with fail
  go_loopg [2, 3, 6] 8 (fun gg v2 v3 v6 wr => ∃ (i a b : Nat), v2 = .int .i64 (a : Int) ∧ v3 = .int .i64 (b : Int) ∧ v6 = .int .i64 (i : Int) ∧ Aside0 (RunI l gg i a b res) ∧ wr = W)
  case atStart => exact ⟨0, 0, 0, rfl, rfl, rfl, H0, rfl⟩
  case round =>
    obtain ⟨i, a, b, rfl, rfl, rfl, HI, hwr⟩ := hrel
    rw [hwr]
    clear hwr
    clear H0
    by_cases hi8 : i < 8
    · have hlt := r_lt hi8
      have hlt2 := r_ltd hi8
      have HI8 := Aside0.mk hi8
      clear hi8
      go_wp2_with fail
      go_loopg [5] 8 (fun gg v5 wr => ∃ (k : Nat), v5 = .int .i64 (k : Int) ∧ Aside0 (RunK l gg i k) ∧ wr = W)
      case atStart => exact ⟨i, rfl, ⟨⟨by omega, Nat.le_refl _, HI.out.i8, rfl⟩⟩, rfl⟩
      case round =>
        clear hlt hlt2
        obtain ⟨k, rfl, HK, hwr2⟩ := hrel
        rw [hwr2]
        clear hwr2
        by_cases hk : k < 8
        · have hlk := r_lt hk
          have hlk2 := r_ltd hk
          have hc : W.cell? ⟨g, k, none⟩ = some (.int .u64 (l.getD k 0)) := HX.out k hk
          by_cases hz : l.getD k 0 = 0
          · rw [hz] at hc
            have HF : Aside0 (RunK l (8 - (k + 1)) i (k + 1)) := ⟨HK.out.next hk hz⟩
            have HL := Aside0.mk (HK.out.less hk)
            have HS : Aside0 (wrap64 ((k : Int) + 1) = ((k + 1 : Nat) : Int)) := ⟨r_suc HK.out.k8⟩
            clear hk hz HK
            go_upto_region 6 with (fail)
            clear hlk hlk2 hc
            go_wp2_with fail
            go_roundg (8 - (k + 1))
            case measure => exact HL.out
            case rel => exact ⟨k + 1, by rw [HS.out], HF, rfl⟩
          · have HZ : Aside0 (zEnd l (8 - i) i = k) := ⟨zEnd_at HK.out.e hk hz⟩
            have hz1 : (l.getD k 0 == 0) = false := by simpa using hz
            have hz2 : decide (l.getD k 0 = 0) = false := by simpa using hz
            have HIK : Aside0 (i ≤ k) := ⟨HK.out.ik⟩
            have HK8 : Aside0 (k ≤ 8) := ⟨HK.out.k8⟩
            clear hk hz HK
            generalize l.getD k 0 = z at hc hz1 hz2
            go_upto_region 7 with (fail)
            clear hlk hlk2 hc hz1 hz2
            by_cases hcmp : b - a < k - i
            · have hcmp1 : decide (wrap64 ((k : Int) - (i : Int)) > wrap64 ((b : Int) - (a : Int))) = true := by rw [r_sub HIK.out HK8.out, r_sub HI.out.ab HI.out.b8]; exact r_gt hcmp
              have hcmp2 : (wrap64 ((k : Int) - (i : Int)) > wrap64 ((b : Int) - (a : Int))) = True := eq_true (of_decide_eq_true hcmp1)
              have HN : Aside0 (RunI l (8 - (i + 1)) (i + 1) i k res) := ⟨HI.out.up HI8.out HZ.out HIK.out HK8.out hcmp⟩
              have HL := Aside0.mk (HI.out.less HI8.out)
              have HS : Aside0 (wrap64 ((i : Int) + 1) = ((i + 1 : Nat) : Int)) := ⟨r_suc HI.out.i8⟩
              clear hcmp
              go_wp2_with fail
              go_roundg (8 - (i + 1))
              case measure => exact HL.out
              case rel => exact ⟨i + 1, i, k, rfl, rfl, by rw [HS.out], HN, rfl⟩
            · have hcmp1 : decide (wrap64 ((k : Int) - (i : Int)) > wrap64 ((b : Int) - (a : Int))) = false := by rw [r_sub HIK.out HK8.out, r_sub HI.out.ab HI.out.b8]; exact r_ngt hcmp
              have hcmp2 : (wrap64 ((k : Int) - (i : Int)) > wrap64 ((b : Int) - (a : Int))) = False := eq_false (of_decide_eq_false hcmp1)
              have HN : Aside0 (RunI l (8 - (i + 1)) (i + 1) a b res) := ⟨HI.out.stay HI8.out HZ.out hcmp⟩
              have HL := Aside0.mk (HI.out.less HI8.out)
              have HS : Aside0 (wrap64 ((i : Int) + 1) = ((i + 1 : Nat) : Int)) := ⟨r_suc HI.out.i8⟩
              clear hcmp
              go_wp2_with fail
              go_roundg (8 - (i + 1))
              case measure => exact HL.out
              case rel => exact ⟨i + 1, a, b, rfl, rfl, by rw [HS.out], HN, rfl⟩
        · have HZ : Aside0 (zEnd l (8 - i) i = k) := ⟨zEnd_8 HK.out.e hk HK.out.k8⟩
          have hlk := r_ge hk
          have hlk2 := r_ged hk
          have HIK : Aside0 (i ≤ k) := ⟨HK.out.ik⟩
          have HK8 : Aside0 (k ≤ 8) := ⟨HK.out.k8⟩
          clear hk HK
          go_upto_region 7 with (fail)
          clear hlk hlk2
          by_cases hcmp : b - a < k - i
          · have hcmp1 : decide (wrap64 ((k : Int) - (i : Int)) > wrap64 ((b : Int) - (a : Int))) = true := by rw [r_sub HIK.out HK8.out, r_sub HI.out.ab HI.out.b8]; exact r_gt hcmp
            have hcmp2 : (wrap64 ((k : Int) - (i : Int)) > wrap64 ((b : Int) - (a : Int))) = True := eq_true (of_decide_eq_true hcmp1)
            have HN : Aside0 (RunI l (8 - (i + 1)) (i + 1) i k res) := ⟨HI.out.up HI8.out HZ.out HIK.out HK8.out hcmp⟩
            have HL := Aside0.mk (HI.out.less HI8.out)
            have HS : Aside0 (wrap64 ((i : Int) + 1) = ((i + 1 : Nat) : Int)) := ⟨r_suc HI.out.i8⟩
            clear hcmp
            go_wp2_with fail
            go_roundg (8 - (i + 1))
            case measure => exact HL.out
            case rel => exact ⟨i + 1, i, k, rfl, rfl, by rw [HS.out], HN, rfl⟩
          · have hcmp1 : decide (wrap64 ((k : Int) - (i : Int)) > wrap64 ((b : Int) - (a : Int))) = false := by rw [r_sub HIK.out HK8.out, r_sub HI.out.ab HI.out.b8]; exact r_ngt hcmp
            have hcmp2 : (wrap64 ((k : Int) - (i : Int)) > wrap64 ((b : Int) - (a : Int))) = False := eq_false (of_decide_eq_false hcmp1)
            have HN : Aside0 (RunI l (8 - (i + 1)) (i + 1) a b res) := ⟨HI.out.stay HI8.out HZ.out hcmp⟩
            have HL := Aside0.mk (HI.out.less HI8.out)
            have HS : Aside0 (wrap64 ((i : Int) + 1) = ((i + 1 : Nat) : Int)) := ⟨r_suc HI.out.i8⟩
            clear hcmp
            go_wp2_with fail
            go_roundg (8 - (i + 1))
            case measure => exact HL.out
            case rel => exact ⟨i + 1, a, b, rfl, rfl, by rw [HS.out], HN, rfl⟩
    · have HR := Aside0.mk (runF_8 HI.out.res hi8)
      have hlt := r_ge hi8
      have hlt2 := r_ged hi8
      clear hi8
      obtain ⟨he1, he2⟩ := HR.out
      subst he1 he2
      clear HR
      go_wp2_with fail
      exact bodyPost_ret (v := .tuple #[.int .i64 (res.1 : Int), .int .i64 (res.2 : Int)]) (by simp [results, Tryd.results56, go_sem]) rfl ⟨rfl, HB.out⟩
end Go.Proofs.YtlgfinnldhjgeaaDoor.Q
end
