/- The law AssetLongest answers true for every input and leaves its arguments as they were. No condition. (Part 4 of 5: the kit's printed words and walks, hand-made contracts and plain laws, joined in build order, without what the theorem does not reach.) -/
import Derived.OneCell
import Derived.WalkSpells
import Derived.Test.YtnphnhkinjppjaaGreatDoorGAssetLongest3
set_option linter.unusedVariables false
set_option linter.unusedSimpArgs false
section
set_option maxHeartbeats 8000000
set_option maxRecDepth 100000
namespace Go.Proofs.YtnphnhkinjppjaaGreatDoor.Q
open Go.RowKit Go.Proofs.YtnphnhkinjppjaaGreatDoorW.PrintWords Go.Proofs.YtnphnhkinjppjaaGreatDoorW.PrintLast Go.Proofs.YtnphnhkinjppjaaGreatDoorW.PrintMore
attribute [local go_sem] max2_int min2_int max_two min_two max_three min_three max_four min_four
mutual
def address_group.j0 : Nat → ByteArray → Bool → Option (Int × Bool)
  | 0, _, _ => none
  | k + 1, x0, x13 => if x13 = true then (some (0, false)) else (address_group.l0 k x0 0 (x0.size : Int) 0)
def address_group.l0 : Nat → ByteArray → Int → Int → Int → Option (Int × Bool)
  | 0, _, _, _, _ => none
  | k + 1, x0, x4, x15, x16 => if x16 < x15 then (if 0 ≤ x16 then (if x16 < (x0.size : Int) then (if (bt x0 x16) ≥ 48 then (address_group.j2 k x0 x4 (bt x0 x16) x15 x16 (decide ((bt x0 x16) ≤ 57))) else (address_group.j2 k x0 x4 (bt x0 x16) x15 x16 false)) else (none)) else (none)) else (some (x4, true))
def address_group.j2 : Nat → ByteArray → Int → Int → Int → Int → Bool → Option (Int × Bool)
  | 0, _, _, _, _, _, _ => none
  | k + 1, x0, x4, x6, x15, x16, x22 => if x22 = true then (address_group.l0 k x0 (Go.bits .or .u64 (IntKind.u64.wrap (x4 * 16)) ((x6 - 48) % 256)) x15 (wrap64 (x16 + 1))) else (if x6 ≥ 65 then (address_group.j3 k x0 x4 x6 x15 x16 (decide (x6 ≤ 70))) else (address_group.j3 k x0 x4 x6 x15 x16 false))
def address_group.j3 : Nat → ByteArray → Int → Int → Int → Int → Bool → Option (Int × Bool)
  | 0, _, _, _, _, _, _ => none
  | k + 1, x0, x4, x6, x15, x16, x29 => if x29 = true then (address_group.l0 k x0 (Go.bits .or .u64 (IntKind.u64.wrap (x4 * 16)) ((((((x6 + 32) % 256) - 97) % 256) + 10) % 256)) x15 (wrap64 (x16 + 1))) else (if x6 ≥ 97 then (if x6 ≤ 102 then (address_group.l0 k x0 (Go.bits .or .u64 (IntKind.u64.wrap (x4 * 16)) ((((x6 - 97) % 256) + 10) % 256)) x15 (wrap64 (x16 + 1))) else (some (0, false))) else (some (0, false)))
end
def address_group.f (k : Nat) (a0 : ByteArray) : Option (Int × Bool) := if a0.toList = ([] : List UInt8) then (address_group.j0 k a0 true) else (address_group.j0 k a0 (decide ((a0.size : Int) > 4)))
theorem address_group.mono_l : ∀ k, (∀ y0 y1, LeO (address_group.j0 k y0 y1) (address_group.j0 (k + 1) y0 y1)) ∧ (∀ y0 y1 y2 y3, LeO (address_group.l0 k y0 y1 y2 y3) (address_group.l0 (k + 1) y0 y1 y2 y3)) ∧ (∀ y0 y1 y2 y3 y4 y5, LeO (address_group.j2 k y0 y1 y2 y3 y4 y5) (address_group.j2 (k + 1) y0 y1 y2 y3 y4 y5)) ∧ (∀ y0 y1 y2 y3 y4 y5, LeO (address_group.j3 k y0 y1 y2 y3 y4 y5) (address_group.j3 (k + 1) y0 y1 y2 y3 y4 y5))
  | 0 => ⟨fun _ _ r h => by simp [address_group.j0] at h, fun _ _ _ _ r h => by simp [address_group.l0] at h, fun _ _ _ _ _ _ r h => by simp [address_group.j2] at h, fun _ _ _ _ _ _ r h => by simp [address_group.j3] at h⟩
  | k + 1 => by
    obtain ⟨ih0, ih1, ih2, ih3⟩ := address_group.mono_l k
    refine ⟨?_, ?_, ?_, ?_⟩
    · intro y0 y1
      unfold address_group.j0
      repeat' first
      | (with_reducible exact ih0 _ _)
      | (with_reducible exact ih1 _ _ _ _)
      | (with_reducible exact ih2 _ _ _ _ _ _)
      | (with_reducible exact ih3 _ _ _ _ _ _)
      | (with_reducible exact LeO.refl _)
      | (with_reducible exact LeO.none _)
      | (with_reducible refine LeO.ite ?_ ?_)
      | (with_reducible refine LeO.bind ?_ (fun _ => ?_))
    · intro y0 y1 y2 y3
      unfold address_group.l0
      repeat' first
      | (with_reducible exact ih0 _ _)
      | (with_reducible exact ih1 _ _ _ _)
      | (with_reducible exact ih2 _ _ _ _ _ _)
      | (with_reducible exact ih3 _ _ _ _ _ _)
      | (with_reducible exact LeO.refl _)
      | (with_reducible exact LeO.none _)
      | (with_reducible refine LeO.ite ?_ ?_)
      | (with_reducible refine LeO.bind ?_ (fun _ => ?_))
    · intro y0 y1 y2 y3 y4 y5
      unfold address_group.j2
      repeat' first
      | (with_reducible exact ih0 _ _)
      | (with_reducible exact ih1 _ _ _ _)
      | (with_reducible exact ih2 _ _ _ _ _ _)
      | (with_reducible exact ih3 _ _ _ _ _ _)
      | (with_reducible exact LeO.refl _)
      | (with_reducible exact LeO.none _)
      | (with_reducible refine LeO.ite ?_ ?_)
      | (with_reducible refine LeO.bind ?_ (fun _ => ?_))
    · intro y0 y1 y2 y3 y4 y5
      unfold address_group.j3
      repeat' first
      | (with_reducible exact ih0 _ _)
      | (with_reducible exact ih1 _ _ _ _)
      | (with_reducible exact ih2 _ _ _ _ _ _)
      | (with_reducible exact ih3 _ _ _ _ _ _)
      | (with_reducible exact LeO.refl _)
      | (with_reducible exact LeO.none _)
      | (with_reducible refine LeO.ite ?_ ?_)
      | (with_reducible refine LeO.bind ?_ (fun _ => ?_))
theorem address_group.mono : ∀ a0 k, LeO (address_group.f k a0) (address_group.f (k + 1) a0) := by
  intro a0 k
  obtain ⟨ih0, ih1, ih2, ih3⟩ := address_group.mono_l k
  unfold address_group.f
  repeat' first
      | (with_reducible exact ih0 _ _)
      | (with_reducible exact ih1 _ _ _ _)
      | (with_reducible exact ih2 _ _ _ _ _ _)
      | (with_reducible exact ih3 _ _ _ _ _ _)
      | (with_reducible exact LeO.refl _)
      | (with_reducible exact LeO.none _)
      | (with_reducible refine LeO.ite ?_ ?_)
      | (with_reducible refine LeO.bind ?_ (fun _ => ?_))
theorem address_group.calls (k : Nat) (a0 : ByteArray) (r1 : Int) (r2 : Bool) (w : World) (h : address_group.f k a0 = some (r1, r2)) :
 Calls Tryz.prog 166 #[.string a0] w fun e w' => e = .returned (.tuple #[.int .u64 r1, .bool r2]) ∧ Drawn0 w w' := by
 unfold address_group.f at h; have H := h
 clear h; have HC2 := Aside0.mk H; clear H
 go_enter Tryz.func166, Tryz.ntmps166
 go_upto_region 1 with (fail)
 go_cut [13] (fun v13 wc => ∃ (kq : Nat) (x13_1 : Bool), v13 = .bool x13_1 ∧ Aside0 (address_group.j0 kq a0 x13_1 = some (r1, r2)) ∧ Aside0 (kq ≤ k) ∧ Drawn0 w wc)
 case first =>
  have H := HC2.out
  clear HC2
  by_cases c3 : a0.toList = ([] : List UInt8)
  · rw [if_pos c3] at H
    have c3b0 : (a0.toList == ([] : List UInt8)) = true := beq_iff_eq.mpr c3; have c3b1 : (a0.toList != ([] : List UInt8)) = false := bne_eq_false_iff_eq.mpr c3; clear c3
    (first | rw [c3b0] | (simp only [i64_w, i32_w]; rw [c3b0]) | skip)
    have H' := Aside0.mk H
    clear H
    go_wp2
    go_meet
    case rel => exact ⟨_, (true), zI, H', ⟨by first | omega | exact Nat.le_refl _⟩, by repeat (first | exact Drawn0.refl _ | apply Drawn0.step)⟩
  rw [if_neg c3] at H
  have c3b0 : (a0.toList == ([] : List UInt8)) = false := beq_eq_false_iff_ne.mpr c3
  have c3b1 : (a0.toList != ([] : List UInt8)) = true := bne_iff_ne.mpr c3
  (first | rw [c3b0] | (simp only [i64_w, i32_w]; rw [c3b0]) | skip)
  have H' := Aside0.mk H
  clear H
  go_wp2
  go_meet
  case rel => exact ⟨_, (decide ((a0.size : Int) > 4)), zI, H', ⟨by first | omega | exact Nat.le_refl _⟩, by repeat (first | exact Drawn0.refl _ | apply Drawn0.step)⟩
 case rest =>
  clear HC2
  obtain ⟨kq, x13_1, rfl, HA, HJ1, ⟨mc1, rfl⟩⟩ := hcut
  rcases kq with _ | kj1
  · exact absurd HA.out (by simp [address_group.j0])
  have H := HA.out
  clear HA
  simp only [address_group.j0] at H
  by_cases c4 : x13_1 = true
  · subst c4
    rw [if_pos rfl] at H
    simp only [Option.some.injEq, Prod.mk.injEq] at H
    obtain ⟨rfl, rfl⟩ := H
    go_wp2
    go_ret2
    exact ⟨by first | rfl | (simp; done) | (simp [*]; done), by repeat (first | exact Drawn0.refl _ | apply Drawn0.step)⟩
  replace c4 := Bool.eq_false_iff.mpr c4
  subst c4; rw [if_neg zF] at H
  have H' := Aside0.mk H
  clear H
  go_wp2
  go_loopg [4, 16] kj1 (fun kq v4 v16 w' => ∃ (x4_2 : Int) (x16_2 : Int), v4 = .int .u64 x4_2 ∧ v16 = .int .i64 x16_2 ∧ Aside0 (address_group.l0 kq a0 x4_2 (a0.size : Int) x16_2 = some (r1, r2)) ∧ Aside0 (kq ≤ kj1) ∧ Drawn0 w w')
  case atStart => exact ⟨(0), (0), zI, zI, H', ⟨Nat.le_refl _⟩, by repeat (first | exact Drawn0.refl _ | apply Drawn0.step)⟩
  case round =>
   clear H'
   try clear c4
   obtain ⟨x4_2, x16_2, rfl, rfl, HA, HK2, ⟨m2, rfl⟩⟩ := hrel
   rcases gk with _ | k2
   · exact absurd HA.out (by simp [address_group.l0])
   have H := HA.out
   clear HA
   simp only [address_group.l0] at H
   by_cases c5 : x16_2 < (a0.size : Int)
   rotate_left
   · rw [if_neg c5] at H
     have c5b0 : decide (x16_2 < (a0.size : Int)) = false := decide_eq_false c5; clear c5
     simp only [Option.some.injEq, Prod.mk.injEq] at H
     obtain ⟨rfl, rfl⟩ := H
     go_wp2
     go_ret2
     exact ⟨by first | rfl | (simp; done) | (simp [*]; done), by repeat (first | exact Drawn0.refl _ | apply Drawn0.step)⟩
   rw [if_pos c5] at H
   have c5b0 : decide (x16_2 < (a0.size : Int)) = true := decide_eq_true c5; clear c5
   by_cases c6 : 0 ≤ x16_2
   rotate_left
   · rw [if_neg c6] at H
     exact absurd H (by simp)
   rw [if_pos c6] at H
   have c6b0 : decide (0 ≤ x16_2) = true := decide_eq_true c6; clear c6
   by_cases c7 : x16_2 < (a0.size : Int)
   rotate_left
   · rw [if_neg c7] at H
     exact absurd H (by simp)
   rw [if_pos c7] at H
   have c7b0 : decide (x16_2 < (a0.size : Int)) = true := decide_eq_true c7; clear c7; have HC9 := Aside0.mk H; clear H
   have p8 : 0 ≤ (x16_2 : Int) := za
   have q8 : x16_2 < (a0.size : Int) := za
   have hx8 := bt_at a0 x16_2
   replace p8 := eq_true p8
   replace q8 := eq_true q8
   go_upto_region 8 with (fail)
   go_cut [22] (fun v22 wc => ∃ (kq : Nat) (x22_8 : Bool), v22 = .bool x22_8 ∧ Aside0 (address_group.j2 kq a0 x4_2 (bt a0 x16_2) (a0.size : Int) x16_2 x22_8 = some (r1, r2)) ∧ Aside0 (kq ≤ k2) ∧ Drawn0 w wc)
   case first =>
    have H := HC9.out
    clear HC9
    by_cases c10 : (bt a0 x16_2) ≥ 48
    · rw [if_pos c10] at H
      have c10b0 : decide (48 ≤ (bt a0 x16_2)) = true := decide_eq_true c10; clear c10
      (first | rw [c10b0] | (simp only [i64_w, i32_w]; rw [c10b0]) | skip)
      have H' := Aside0.mk H
      clear H
      go_wp2
      go_meet
      case rel => exact ⟨_, (decide ((bt a0 x16_2) ≤ 57)), zI, H', ⟨by have := HJ1.out; have := HK2.out; first | omega | exact Nat.le_refl _⟩, by repeat (first | exact Drawn0.refl _ | apply Drawn0.step)⟩
    rw [if_neg c10] at H
    have c10b0 : decide (48 ≤ (bt a0 x16_2)) = false := decide_eq_false c10; clear c10
    (first | rw [c10b0] | (simp only [i64_w, i32_w]; rw [c10b0]) | skip)
    have H' := Aside0.mk H
    clear H
    go_wp2
    go_meet
    case rel => exact ⟨_, (false), zI, H', ⟨by have := HJ1.out; have := HK2.out; first | omega | exact Nat.le_refl _⟩, by repeat (first | exact Drawn0.refl _ | apply Drawn0.step)⟩
   case rest =>
    clear HC9
    (try clear c5); (try clear c5b0); (try clear c6); (try clear c6b0); (try clear c7); (try clear c7b0); (try clear p8); (try clear q8); (try clear hx8)
    obtain ⟨kq, x22_8, rfl, HA, HJ8, ⟨mc8, rfl⟩⟩ := hcut
    rcases kq with _ | kj8
    · exact absurd HA.out (by simp [address_group.j2])
    have H := HA.out
    clear HA
    simp only [address_group.j2] at H
    by_cases c11 : x22_8 = true
    · subst c11
      rw [if_pos rfl] at H
      have H' := Aside0.mk H
      clear H
      go_wp2
      go_roundg kj8
      case measure => have := HJ1.out; have := HK2.out; have := HJ8.out; omega
      case rel => exact ⟨(Go.bits .or .u64 (IntKind.u64.wrap (x4_2 * 16)) (((bt a0 x16_2) - 48) % 256)), (wrap64 (x16_2 + 1)), zI, zI, H', ⟨by have := HJ1.out; have := HK2.out; have := HJ8.out; omega⟩, by repeat (first | exact Drawn0.refl _ | apply Drawn0.step)⟩
    replace c11 := Bool.eq_false_iff.mpr c11
    subst c11; rw [if_neg zF] at H; have HC12 := Aside0.mk H; clear H
    go_upto_region 9 with (fail)
    go_cut [29] (fun v29 wc => ∃ (kq : Nat) (x29_11 : Bool), v29 = .bool x29_11 ∧ Aside0 (address_group.j3 kq a0 x4_2 (bt a0 x16_2) (a0.size : Int) x16_2 x29_11 = some (r1, r2)) ∧ Aside0 (kq ≤ kj8) ∧ Drawn0 w wc)
    case first =>
     have H := HC12.out
     clear HC12
     by_cases c13 : (bt a0 x16_2) ≥ 65
     · rw [if_pos c13] at H
       have c13b0 : decide (65 ≤ (bt a0 x16_2)) = true := decide_eq_true c13; clear c13
       (first | rw [c13b0] | (simp only [i64_w, i32_w]; rw [c13b0]) | skip)
       have H' := Aside0.mk H
       clear H
       go_wp2
       go_meet
       case rel => exact ⟨_, (decide ((bt a0 x16_2) ≤ 70)), zI, H', ⟨by have := HJ1.out; have := HK2.out; have := HJ8.out; first | omega | exact Nat.le_refl _⟩, by repeat (first | exact Drawn0.refl _ | apply Drawn0.step)⟩
     rw [if_neg c13] at H
     have c13b0 : decide (65 ≤ (bt a0 x16_2)) = false := decide_eq_false c13; clear c13
     (first | rw [c13b0] | (simp only [i64_w, i32_w]; rw [c13b0]) | skip)
     have H' := Aside0.mk H
     clear H
     go_wp2
     go_meet
     case rel => exact ⟨_, (false), zI, H', ⟨by have := HJ1.out; have := HK2.out; have := HJ8.out; first | omega | exact Nat.le_refl _⟩, by repeat (first | exact Drawn0.refl _ | apply Drawn0.step)⟩
    case rest =>
     clear HC12
     try clear c11
     obtain ⟨kq, x29_11, rfl, HA, HJ11, ⟨mc11, rfl⟩⟩ := hcut
     rcases kq with _ | kj11
     · exact absurd HA.out (by simp [address_group.j3])
     have H := HA.out
     clear HA
     simp only [address_group.j3] at H
     by_cases c14 : x29_11 = true
     · subst c14
       rw [if_pos rfl] at H
       have H' := Aside0.mk H
       clear H
       go_wp2
       go_roundg kj11
       case measure => have := HJ1.out; have := HK2.out; have := HJ8.out; have := HJ11.out; omega
       case rel => exact ⟨(Go.bits .or .u64 (IntKind.u64.wrap (x4_2 * 16)) (((((((bt a0 x16_2) + 32) % 256) - 97) % 256) + 10) % 256)), (wrap64 (x16_2 + 1)), zI, zI, H', ⟨by have := HJ1.out; have := HK2.out; have := HJ8.out; have := HJ11.out; omega⟩, by repeat (first | exact Drawn0.refl _ | apply Drawn0.step)⟩
     replace c14 := Bool.eq_false_iff.mpr c14
     subst c14; rw [if_neg zF] at H
     by_cases c15 : (bt a0 x16_2) ≥ 97
     · rw [if_pos c15] at H
       have c15b0 : decide (97 ≤ (bt a0 x16_2)) = true := decide_eq_true c15; clear c15
       by_cases c16 : (bt a0 x16_2) ≤ 102
       · rw [if_pos c16] at H
         have c16b0 : decide ((bt a0 x16_2) ≤ 102) = true := decide_eq_true c16; clear c16
         have H' := Aside0.mk H
         clear H
         go_wp2
         go_roundg kj11
         case measure => have := HJ1.out; have := HK2.out; have := HJ8.out; have := HJ11.out; omega
         case rel => exact ⟨(Go.bits .or .u64 (IntKind.u64.wrap (x4_2 * 16)) (((((bt a0 x16_2) - 97) % 256) + 10) % 256)), (wrap64 (x16_2 + 1)), zI, zI, H', ⟨by have := HJ1.out; have := HK2.out; have := HJ8.out; have := HJ11.out; omega⟩, by repeat (first | exact Drawn0.refl _ | apply Drawn0.step)⟩
       rw [if_neg c16] at H
       have c16b0 : decide ((bt a0 x16_2) ≤ 102) = false := decide_eq_false c16; clear c16
       simp only [Option.some.injEq, Prod.mk.injEq] at H
       obtain ⟨rfl, rfl⟩ := H
       go_wp2
       go_ret2
       exact ⟨by first | rfl | (simp; done) | (simp [*]; done), by repeat (first | exact Drawn0.refl _ | apply Drawn0.step)⟩
     rw [if_neg c15] at H
     have c15b0 : decide (97 ≤ (bt a0 x16_2)) = false := decide_eq_false c15; clear c15
     simp only [Option.some.injEq, Prod.mk.injEq] at H
     obtain ⟨rfl, rfl⟩ := H
     go_wp2
     go_ret2
     exact ⟨by first | rfl | (simp; done) | (simp [*]; done), by repeat (first | exact Drawn0.refl _ | apply Drawn0.step)⟩
def address_groups.l0 : Nat → List Int → List ByteArray → Int → Int → Option (List Int × Bool)
  | 0, _, _, _, _ => none
  | k + 1, x4, x12, x13, x14 => if x14 < x13 then (if 0 ≤ x14 then (if x14 < (x12.length : Int) then ((address_group.f k (rdOf ByteArray.empty x12 x14)).bind fun bt204 => (if bt204.2 = true then (if x4.length < 17592186044416 then (address_groups.l0 k (x4 ++ [bt204.1]) x12 x13 (wrap64 (x14 + 1))) else (none)) else (some (([] : List Int), false)))) else (none)) else (none)) else (some (x4, true))
def address_groups.f (k : Nat) (a0 : ByteArray) : Option (List Int × Bool) := if a0.toList = ([] : List UInt8) then (some (([] : List Int), true)) else ((strings_Split.f a0 (⟨#[58]⟩ : ByteArray)).bind fun t200 => (address_groups.l0 k ([] : List Int) t200 (t200.length : Int) 0))
theorem address_groups.mono_l : ∀ k, (∀ y0 y1 y2 y3, LeO (address_groups.l0 k y0 y1 y2 y3) (address_groups.l0 (k + 1) y0 y1 y2 y3))
  | 0 => fun _ _ _ _ r h => by simp [address_groups.l0] at h
  | k + 1 => by
    have ih0 := address_groups.mono_l k
    · intro y0 y1 y2 y3
      unfold address_groups.l0
      repeat' first
      | (with_reducible exact ih0 _ _ _ _)
      | (with_reducible exact address_group.mono _ _)
      | (with_reducible exact LeO.refl _)
      | (with_reducible exact LeO.none _)
      | (with_reducible refine LeO.ite ?_ ?_)
      | (with_reducible refine LeO.bind ?_ (fun _ => ?_))
theorem address_groups.mono : ∀ a0 k, LeO (address_groups.f k a0) (address_groups.f (k + 1) a0) := by
  intro a0 k
  have ih0 := address_groups.mono_l k
  unfold address_groups.f
  repeat' first
      | (with_reducible exact ih0 _ _ _ _)
      | (with_reducible exact address_group.mono _ _)
      | (with_reducible exact LeO.refl _)
      | (with_reducible exact LeO.none _)
      | (with_reducible refine LeO.ite ?_ ?_)
      | (with_reducible refine LeO.bind ?_ (fun _ => ?_))
theorem address_groups.calls (k : Nat) (a0 : ByteArray) (r1 : List Int) (r2 : Bool) (w : World) (h : address_groups.f k a0 = some (r1, r2)) (hW_ : WOK w) :
 Calls Tryz.prog 153 #[.string a0] w fun e w' => ∃ v0_ : Value, e = .returned (.tuple #[v0_, .bool r2]) ∧ Kd.R (Kd.int .u64) 29 w' w.heap.size (fun _ => True) v0_ r1 ∧ Below w.heap.size w w' := by
 have HB := Aside0.mk (Below.refl w.heap.size w)
 unfold address_groups.f at h; have H := h
 clear h
 by_cases c2 : a0.toList = ([] : List UInt8)
 · rw [if_pos c2] at H
   have c2b0 : (a0.toList == ([] : List UInt8)) = true := beq_iff_eq.mpr c2; have c2b1 : (a0.toList != ([] : List UInt8)) = false := bne_eq_false_iff_eq.mpr c2; clear c2
   simp only [Option.some.injEq, Prod.mk.injEq] at H
   obtain ⟨rfl, rfl⟩ := H
   go_enter Tryz.func153, Tryz.ntmps153
   go_wp2
   go_ret2
   exact ⟨_, by first | rfl | (simp [errW_none, errW_some] <;> rfl) | (simp [*, errW_none, errW_some] <;> rfl), by first | exact Kd.R_nil _ _ _ _ _ | exact Kd.N_nil _ _ _ _ _ | exact Kd.V_nil _ _ _ _ _ | exact Kd.Q_nil _ _ _ _ _ | exact Kd.S_nil _ _ _ _ _, by repeat (first | (with_reducible first | exact HB.out | apply below_alloc | apply pw_below_drewN | apply below_drew1) | exact HB.out)⟩
 rw [if_neg c2] at H
 have c2b0 : (a0.toList == ([] : List UInt8)) = false := beq_eq_false_iff_ne.mpr c2
 have c2b1 : (a0.toList != ([] : List UInt8)) = true := bne_iff_ne.mpr c2
 replace H := Option.bind_eq_some_iff.mp H
 obtain ⟨t200, A30, H⟩ := H
 replace H : (address_groups.l0 k ([] : List Int) t200 (t200.length : Int) 0) = some (r1, r2) := H
 have A3 := Aside0.mk A30; clear A30
 have H' := Aside0.mk H
 clear H
 go_enter Tryz.func153, Tryz.ntmps153
 go_wp2_with (first | ((with_reducible refine gate_callee (f := 151) rfl ?_); refine zgl 12 Tryz.func151 #[.string a0, .string (⟨#[58]⟩ : ByteArray)] ?_; (with_reducible refine (strings_Split.calls a0 (⟨#[58]⟩ : ByteArray) t200 _ A3.out (WOK.below hW_ (zB HB))).mono ?_); rintro e w4 ⟨v201, rfl, ho0, hb⟩; refine ⟨_, rfl, ?_⟩; have HO202 := Aside0.mk (Kd.R_lower ho0 (below_size (zB HB))); replace HB := Aside0.mk (below_step (zB HB) hb); (try clear hb); (try clear ho0); obtain ⟨Ao5, co5, eo5⟩ := Kd.R_slice HO202.out; subst eo5))
 go_loopg [4, 14] k (fun kq v4 v14 w' => ∃ (x4_1 : List Int) (x14_1 : Int), v14 = .int .i64 x14_1 ∧ Aside0 (address_groups.l0 kq x4_1 t200 (t200.length : Int) x14_1 = some (r1, r2)) ∧ Aside0 (kq ≤ k) ∧ Aside0 (Kd.R (Kd.int .u64) 29 w' w.heap.size (fun _ => True) v4 x4_1) ∧ Aside0 (Kd.R Kd.string 9 w' w.heap.size (fun _ => True) (.slice Ao5 t200.length co5) t200) ∧ Aside0 (Below w.heap.size w w'))
 case atStart => exact ⟨(([] : List Int)), (0), zI, H', ⟨Nat.le_refl _⟩, ⟨by first | exact Kd.R_nil _ _ _ _ _ | exact Kd.N_nil _ _ _ _ _ | exact Kd.V_nil _ _ _ _ _ | exact Kd.Q_nil _ _ _ _ _ | exact Kd.S_nil _ _ _ _ _⟩, ⟨zR HO202⟩, ⟨zB HB⟩⟩
 case round =>
  clear H'
  (try clear c2); (try clear c2b0); (try clear c2b1)
  obtain ⟨x4_1, x14_1, rfl, HA, HK1, HO_4, HO_12, HB⟩ := hrel
  rcases gk with _ | k1
  · exact absurd HA.out (by simp [address_groups.l0])
  have H := HA.out
  clear HA
  simp only [address_groups.l0] at H
  by_cases c6 : x14_1 < (t200.length : Int)
  rotate_left
  · rw [if_neg c6] at H
    have c6b0 : decide (x14_1 < (t200.length : Int)) = false := decide_eq_false c6; clear c6
    simp only [Option.some.injEq, Prod.mk.injEq] at H
    obtain ⟨rfl, rfl⟩ := H
    go_wp2
    go_ret2
    exact ⟨_, by first | rfl | (simp [errW_none, errW_some] <;> rfl) | (simp [*, errW_none, errW_some] <;> rfl), by (with_reducible repeat (first | apply Kd.R_alloc | apply Kd.R_drewN | apply Kd.R_drew)); exact HO_4.out, by repeat (first | (with_reducible first | exact HB.out | apply below_alloc | apply pw_below_drewN | apply below_drew1) | exact HB.out)⟩
  rw [if_pos c6] at H
  have c6b0 : decide (x14_1 < (t200.length : Int)) = true := decide_eq_true c6; clear c6
  by_cases c7 : 0 ≤ x14_1
  rotate_left
  · rw [if_neg c7] at H
    exact absurd H (by simp)
  rw [if_pos c7] at H
  have c7b0 : decide (0 ≤ x14_1) = true := decide_eq_true c7; clear c7
  by_cases c8 : x14_1 < (t200.length : Int)
  rotate_left
  · rw [if_neg c8] at H
    exact absurd H (by simp)
  rw [if_pos c8] at H
  have c8b0 : decide (x14_1 < (t200.length : Int)) = true := decide_eq_true c8; clear c8
  replace H := Option.bind_eq_some_iff.mp H
  obtain ⟨⟨t204, t205⟩, A90, H⟩ := H
  replace H : (if t205 = true then (if x4_1.length < 17592186044416 then (address_groups.l0 k1 (x4_1 ++ [t204]) t200 (t200.length : Int) (wrap64 (x14_1 + 1))) else (none)) else (some (([] : List Int), false))) = some (r1, r2) := H
  have A9 := Aside0.mk A90; clear A90
  by_cases c10 : t205 = true
  · subst c10
    rw [if_pos rfl] at H
    by_cases c11 : x4_1.length < 17592186044416
    rotate_left
    · rw [if_neg c11] at H
      exact absurd H (by simp)
    rw [if_pos c11] at H; have LMc11 := Aside0.mk c11; clear c11
    obtain ⟨y206, hy206⟩ : ∃ y_ : List Int, y_ = (x4_1 ++ [t204]) := ⟨_, rfl⟩
    rw [← hy206] at H; try dsimp only [Option.bind_some] at H
    have Ny206 := Aside0.mk hy206; clear hy206
    have H' := Aside0.mk H
    clear H
    have p203 : 0 ≤ (x14_1 : Int) := za
    have q203 : x14_1 < (t200.length : Int) := za
    obtain ⟨ad203, e203, hx203_0⟩ := Kd.at_string (Kd.R_reads' HO_12.out).2.2 x14_1 p203 q203
    cases e203
    replace p203 := eq_true p203
    replace q203 := eq_true q203
    go_wp2_with (first | ((with_reducible refine gate_callee (f := 166) rfl ?_); refine zgl 20 Tryz.func166 #[.string (rdOf ByteArray.empty t200 x14_1)] ?_; (with_reducible refine (address_group.calls k1 (rdOf ByteArray.empty t200 x14_1) t204 true _ A9.out).mono ?_); rintro e w' ⟨rfl, ⟨nd, rfl⟩⟩; refine ⟨_, rfl, ?_⟩) | ((with_reducible refine gate_builtin (b := .append) (xs := #[.tmp 25, .tmp 27]) rfl ?_); at_builtin; refine Kd.R_append (Kd.int .u64) (w0 := w) w.heap.size rfl (.tmp 25) (.tmp 27) 174 29 (.int .u64 0) 8 rfl Tryz.underlying174 info29 rfl (by decide) (by omega) u4 x4_1 t204 [.int .u64 t204] (fun _ => True) (fun _ => False) rfl rfl ?aP (fun _ hk => hk.elim) ?aF ?aO ?aB ?aS ?aL ?_; (case aP => exact rfl); (case aB => exact (zB HB)); (case aF => exact (fun _ _ => trivial)); (case aO => exact (zR HO_4)); (case aS => exact (below_size (zB HB))); (case aL => have := LMc11.out; omega); intro v207 w12 ho hb hg hat; rw [← Ny206.out] at ho; replace HO_12 := Aside0.mk (Kd.R_over' (zR HO_12) (Kd.R_typed (zR HO_4)) (by decide) hg); replace HB := Aside0.mk (hb); have HO208 := Aside0.mk (ho); clear HO_4; clear ho hb hg hat))
    go_roundg k1
    case measure => have := HK1.out; omega
    case rel => exact ⟨(y206), (wrap64 (x14_1 + 1)), zI, H', ⟨by have := HK1.out; omega⟩, ⟨zR HO208⟩, ⟨zR HO_12⟩, ⟨zB HB⟩⟩
  replace c10 := Bool.eq_false_iff.mpr c10
  subst c10; rw [if_neg zF] at H
  simp only [Option.some.injEq, Prod.mk.injEq] at H
  obtain ⟨rfl, rfl⟩ := H
  have p203 : 0 ≤ (x14_1 : Int) := za
  have q203 : x14_1 < (t200.length : Int) := za
  obtain ⟨ad203, e203, hx203_0⟩ := Kd.at_string (Kd.R_reads' HO_12.out).2.2 x14_1 p203 q203
  cases e203
  replace p203 := eq_true p203
  replace q203 := eq_true q203
  go_wp2_with (first | ((with_reducible refine gate_callee (f := 166) rfl ?_); refine zgl 20 Tryz.func166 #[.string (rdOf ByteArray.empty t200 x14_1)] ?_; (with_reducible refine (address_group.calls k1 (rdOf ByteArray.empty t200 x14_1) t204 false _ A9.out).mono ?_); rintro e w' ⟨rfl, ⟨nd, rfl⟩⟩; refine ⟨_, rfl, ?_⟩))
  go_ret2
  exact ⟨_, by first | rfl | (simp [errW_none, errW_some] <;> rfl) | (simp [*, errW_none, errW_some] <;> rfl), by first | exact Kd.R_nil _ _ _ _ _ | exact Kd.N_nil _ _ _ _ _ | exact Kd.V_nil _ _ _ _ _ | exact Kd.Q_nil _ _ _ _ _ | exact Kd.S_nil _ _ _ _ _, by repeat (first | (with_reducible first | exact HB.out | apply below_alloc | apply pw_below_drewN | apply below_drew1) | exact HB.out)⟩
end Go.Proofs.YtnphnhkinjppjaaGreatDoor.Q
end

section
set_option maxHeartbeats 8000000
set_option maxRecDepth 100000
namespace Go.Proofs.YtnphnhkinjppjaaGreatDoor.Q
open Go.RowKit Go.Proofs.YtnphnhkinjppjaaGreatDoorW.PrintWords Go.Proofs.YtnphnhkinjppjaaGreatDoorW.PrintLast Go.Proofs.YtnphnhkinjppjaaGreatDoorW.PrintMore
attribute [local go_sem] max2_int min2_int max_two min_two max_three min_three max_four min_four
mutual
def address_parse6.j2 : Nat → List Int → List Int → Option (Bool × Int × Int × Bool)
  | 0, _, _ => none
  | k + 1, x7, x9 => address_parse6.l0 k x7 x9
def address_parse6.l0 : Nat → List Int → List Int → Option (Bool × Int × Int × Bool)
  | 0, _, _ => none
  | k + 1, x7, x9 => if (wrap64 ((x7.length : Int) + (x9.length : Int))) < 8 then (if x7.length < 17592186044416 then (address_parse6.l0 k (x7 ++ [0]) x9) else (none)) else (if x7.length + x9.length < 17592186044416 then ((some (x7 ++ x9 : List Int)).bind fun y225 => (address_parse6.l1 k y225 (y225.length : Int) 0 true 0 0)) else (none))
def address_parse6.l1 : Nat → List Int → Int → Int → Bool → Int → Int → Option (Bool × Int × Int × Bool)
  | 0, _, _, _, _, _, _ => none
  | k + 1, x70, x71, x72, x225000, x225001, x225002 => if x72 < x71 then (if 0 ≤ x72 then (if x72 < (x70.length : Int) then (if x72 < 4 then (address_parse6.l1 k x70 x71 (wrap64 (x72 + 1)) x225000 (Go.bits .or .u64 (IntKind.u64.wrap (x225001 * 65536)) (rd x70 x72)) x225002) else (address_parse6.l1 k x70 x71 (wrap64 (x72 + 1)) x225000 x225001 (Go.bits .or .u64 (IntKind.u64.wrap (x225002 * 65536)) (rd x70 x72)))) else (none)) else (none)) else (some (x225000, x225001, x225002, true))
def address_parse6.j0 : Nat → Bool → List Int → List Int → Bool → Option (Bool × Int × Int × Bool)
  | 0, _, _, _, _ => none
  | k + 1, x6, x7, x9, x30 => if x30 = true then (some (false, 0, 0, false)) else (if x6 = true then (address_parse6.j1 k x6 x7 x9 false) else (address_parse6.j1 k x6 x7 x9 ((x7.length : Int) != 8)))
def address_parse6.j1 : Nat → Bool → List Int → List Int → Bool → Option (Bool × Int × Int × Bool)
  | 0, _, _, _, _ => none
  | k + 1, x6, x7, x9, x38 => if x38 = true then (some (false, 0, 0, false)) else (if x6 = true then (if (wrap64 ((x7.length : Int) + (x9.length : Int))) > 7 then (some (false, 0, 0, false)) else (address_parse6.j2 k x7 x9)) else (address_parse6.j2 k x7 x9))
end
def address_parse6.f (k : Nat) (a0 : ByteArray) : Option (Bool × Int × Int × Bool) := (strings_Cut.f a0 (⟨#[58, 58]⟩ : ByteArray)).bind fun bt210 => ((address_groups.f k bt210.1).bind fun bt213 => ((address_groups.f k bt210.2.1).bind fun bt217 => (if bt213.2 = true then (address_parse6.j0 k bt210.2.2 bt213.1 bt217.1 (!bt217.2)) else (address_parse6.j0 k bt210.2.2 bt213.1 bt217.1 true))))
theorem address_parse6.mono_l : ∀ k, (∀ y0 y1, LeO (address_parse6.j2 k y0 y1) (address_parse6.j2 (k + 1) y0 y1)) ∧ (∀ y0 y1, LeO (address_parse6.l0 k y0 y1) (address_parse6.l0 (k + 1) y0 y1)) ∧ (∀ y0 y1 y2 y3 y4 y5, LeO (address_parse6.l1 k y0 y1 y2 y3 y4 y5) (address_parse6.l1 (k + 1) y0 y1 y2 y3 y4 y5)) ∧ (∀ y0 y1 y2 y3, LeO (address_parse6.j0 k y0 y1 y2 y3) (address_parse6.j0 (k + 1) y0 y1 y2 y3)) ∧ (∀ y0 y1 y2 y3, LeO (address_parse6.j1 k y0 y1 y2 y3) (address_parse6.j1 (k + 1) y0 y1 y2 y3))
  | 0 => ⟨fun _ _ r h => by simp [address_parse6.j2] at h, fun _ _ r h => by simp [address_parse6.l0] at h, fun _ _ _ _ _ _ r h => by simp [address_parse6.l1] at h, fun _ _ _ _ r h => by simp [address_parse6.j0] at h, fun _ _ _ _ r h => by simp [address_parse6.j1] at h⟩
  | k + 1 => by
    obtain ⟨ih0, ih1, ih2, ih3, ih4⟩ := address_parse6.mono_l k
    refine ⟨?_, ?_, ?_, ?_, ?_⟩
    · intro y0 y1
      unfold address_parse6.j2
      repeat' first
      | (with_reducible exact ih0 _ _)
      | (with_reducible exact ih1 _ _)
      | (with_reducible exact ih2 _ _ _ _ _ _)
      | (with_reducible exact ih3 _ _ _ _)
      | (with_reducible exact ih4 _ _ _ _)
      | (with_reducible exact address_groups.mono _ _)
      | (with_reducible exact LeO.refl _)
      | (with_reducible exact LeO.none _)
      | (with_reducible refine LeO.ite ?_ ?_)
      | (with_reducible refine LeO.bind ?_ (fun _ => ?_))
    · intro y0 y1
      unfold address_parse6.l0
      repeat' first
      | (with_reducible exact ih0 _ _)
      | (with_reducible exact ih1 _ _)
      | (with_reducible exact ih2 _ _ _ _ _ _)
      | (with_reducible exact ih3 _ _ _ _)
      | (with_reducible exact ih4 _ _ _ _)
      | (with_reducible exact address_groups.mono _ _)
      | (with_reducible exact LeO.refl _)
      | (with_reducible exact LeO.none _)
      | (with_reducible refine LeO.ite ?_ ?_)
      | (with_reducible refine LeO.bind ?_ (fun _ => ?_))
    · intro y0 y1 y2 y3 y4 y5
      unfold address_parse6.l1
      repeat' first
      | (with_reducible exact ih0 _ _)
      | (with_reducible exact ih1 _ _)
      | (with_reducible exact ih2 _ _ _ _ _ _)
      | (with_reducible exact ih3 _ _ _ _)
      | (with_reducible exact ih4 _ _ _ _)
      | (with_reducible exact address_groups.mono _ _)
      | (with_reducible exact LeO.refl _)
      | (with_reducible exact LeO.none _)
      | (with_reducible refine LeO.ite ?_ ?_)
      | (with_reducible refine LeO.bind ?_ (fun _ => ?_))
    · intro y0 y1 y2 y3
      unfold address_parse6.j0
      repeat' first
      | (with_reducible exact ih0 _ _)
      | (with_reducible exact ih1 _ _)
      | (with_reducible exact ih2 _ _ _ _ _ _)
      | (with_reducible exact ih3 _ _ _ _)
      | (with_reducible exact ih4 _ _ _ _)
      | (with_reducible exact address_groups.mono _ _)
      | (with_reducible exact LeO.refl _)
      | (with_reducible exact LeO.none _)
      | (with_reducible refine LeO.ite ?_ ?_)
      | (with_reducible refine LeO.bind ?_ (fun _ => ?_))
    · intro y0 y1 y2 y3
      unfold address_parse6.j1
      repeat' first
      | (with_reducible exact ih0 _ _)
      | (with_reducible exact ih1 _ _)
      | (with_reducible exact ih2 _ _ _ _ _ _)
      | (with_reducible exact ih3 _ _ _ _)
      | (with_reducible exact ih4 _ _ _ _)
      | (with_reducible exact address_groups.mono _ _)
      | (with_reducible exact LeO.refl _)
      | (with_reducible exact LeO.none _)
      | (with_reducible refine LeO.ite ?_ ?_)
      | (with_reducible refine LeO.bind ?_ (fun _ => ?_))
theorem address_parse6.mono : ∀ a0 k, LeO (address_parse6.f k a0) (address_parse6.f (k + 1) a0) := by
  intro a0 k
  obtain ⟨ih0, ih1, ih2, ih3, ih4⟩ := address_parse6.mono_l k
  unfold address_parse6.f
  repeat' first
      | (with_reducible exact ih0 _ _)
      | (with_reducible exact ih1 _ _)
      | (with_reducible exact ih2 _ _ _ _ _ _)
      | (with_reducible exact ih3 _ _ _ _)
      | (with_reducible exact ih4 _ _ _ _)
      | (with_reducible exact address_groups.mono _ _)
      | (with_reducible exact LeO.refl _)
      | (with_reducible exact LeO.none _)
      | (with_reducible refine LeO.ite ?_ ?_)
      | (with_reducible refine LeO.bind ?_ (fun _ => ?_))
theorem address_parse6.calls (k : Nat) (a0 : ByteArray) (r1 : Bool) (r2 : Int) (r3 : Int) (r4 : Bool) (w : World) (h : address_parse6.f k a0 = some (r1, r2, r3, r4)) (hW_ : WOK w) :
 Calls Tryz.prog 134 #[.string a0] w fun e w' => e = .returned (.tuple #[.agg #[.bool r1, .int .u64 r2, .int .u64 r3], .bool r4]) ∧ Below w.heap.size w w' := by
 have hu31 := Tryz.underlying31
 have HB := Aside0.mk (Below.refl w.heap.size w)
 unfold address_parse6.f at h; have H := h
 clear h
 replace H := Option.bind_eq_some_iff.mp H
 obtain ⟨⟨t210, t211, t212⟩, A20, H⟩ := H
 replace H : ((address_groups.f k t210).bind fun bt213 => ((address_groups.f k t211).bind fun bt217 => (if bt213.2 = true then (address_parse6.j0 k t212 bt213.1 bt217.1 (!bt217.2)) else (address_parse6.j0 k t212 bt213.1 bt217.1 true)))) = some (r1, r2, r3, r4) := H
 have A2 := Aside0.mk A20; clear A20
 replace H := Option.bind_eq_some_iff.mp H
 obtain ⟨⟨t213, t214⟩, A30, H⟩ := H
 replace H : ((address_groups.f k t211).bind fun bt217 => (if t214 = true then (address_parse6.j0 k t212 t213 bt217.1 (!bt217.2)) else (address_parse6.j0 k t212 t213 bt217.1 true))) = some (r1, r2, r3, r4) := H
 have A3 := Aside0.mk A30; clear A30
 replace H := Option.bind_eq_some_iff.mp H
 obtain ⟨⟨t217, t218⟩, A40, H⟩ := H
 replace H : (if t214 = true then (address_parse6.j0 k t212 t213 t217 (!t218)) else (address_parse6.j0 k t212 t213 t217 true)) = some (r1, r2, r3, r4) := H
 have A4 := Aside0.mk A40; clear A40; have HC5 := Aside0.mk H; clear H
 go_enter Tryz.func134, Tryz.ntmps134
 go_upto_block 0 with (first | ((with_reducible refine gate_dst (N := 2) rfl ?_); (try (refine gate_guard (by rfl) ?_; dsimp only)); refine zx 2 #[.bool false, .int .u64 0, .int .u64 0] 31 ?_; intro gb209 hg w6 hbox hb; have BK209 := Aside0.mk (hbox); have GW209 := zG HB hg; have GE209 := zG HB hg; replace HB := Aside0.mk (below_step (zB HB) hb); clear hb hbox hg) | ((with_reducible refine gate_callee (f := 104) rfl ?_); refine zgl 16 Tryz.func104 #[.string a0, .string (⟨#[58, 58]⟩ : ByteArray)] ?_; (with_reducible refine (strings_Cut.calls a0 (⟨#[58, 58]⟩ : ByteArray) t210 t211 t212 _ A2.out (WOK.below hW_ (zB HB))).mono ?_); rintro e w7 ⟨rfl, hb⟩; refine ⟨_, rfl, ?_⟩; replace BK209 := zkb BK209 hb; replace HB := Aside0.mk (below_step (zB HB) hb); (try clear hb)) | ((with_reducible refine gate_callee (f := 153) rfl ?_); refine zgl 22 Tryz.func153 #[.string t210] ?_; (with_reducible refine (address_groups.calls k t210 t213 t214 _ A3.out (WOK.below hW_ (zB HB))).mono ?_); rintro e w8 ⟨v215, rfl, ho0, hb⟩; refine ⟨_, rfl, ?_⟩; have HO216 := Aside0.mk (Kd.R_lower ho0 (below_size (zB HB))); replace BK209 := zkb BK209 hb; replace HB := Aside0.mk (below_step (zB HB) hb); (try clear hb); (try clear ho0)) | ((with_reducible refine gate_callee (f := 153) rfl ?_); refine zgl 27 Tryz.func153 #[.string t211] ?_; (with_reducible refine (address_groups.calls k t211 t217 t218 _ A4.out (WOK.below hW_ (zB HB))).mono ?_); rintro e w9 ⟨v219, rfl, ho0, hb⟩; refine ⟨_, rfl, ?_⟩; have HO220 := Aside0.mk (Kd.R_lower (Kd.R_new' ho0 (Kd.R_lt (zR HO216))) (below_size (zB HB))); replace HO216 := Aside0.mk (Kd.R_elder' (zR HO216) (Kd.R_base ho0) hb); replace BK209 := zkb BK209 hb; replace HB := Aside0.mk (below_step (zB HB) hb); (try clear hb); (try clear ho0)))
 (try simp only [Act.put, List.setIfInBounds_toArray, List.set_cons_zero, List.set_cons_succ])
 go_cut [] (fun wc => ∃ (kq : Nat) (x210000_4 : Bool) (x210001_4 : Int) (x210002_4 : Int), Aside0 (address_parse6.j2 kq t213 t217 = some (r1, r2, r3, r4)) ∧ Aside0 (kq ≤ k) ∧ Aside0 (Kd.R (Kd.int .u64) 29 wc w.heap.size (fun k_ => some k_ ≠ (v219 : Value).ownBlock) v215 t213) ∧ Aside0 (Kd.R (Kd.int .u64) 29 wc w.heap.size (fun k_ => some k_ ≠ (v215 : Value).ownBlock) v219 t217) ∧ Aside0 (wc.heap[gb209]? = some (.cells #[.bool x210000_4, .int .u64 x210001_4, .int .u64 x210002_4] 31 (0, 0))) ∧ Aside0 (Below w.heap.size w wc))
 case first =>
  have H := HC5.out
  clear HC5; have HC10 := Aside0.mk H; clear H
  go_upto_region 4 with (fail)
  go_cut [30] (fun v30 wc => ∃ (kq : Nat) (x30_9 : Bool), v30 = .bool x30_9 ∧ Aside0 (address_parse6.j0 kq t212 t213 t217 x30_9 = some (r1, r2, r3, r4)) ∧ Aside0 (kq ≤ k) ∧ Aside0 (Kd.R (Kd.int .u64) 29 wc w.heap.size (fun k_ => some k_ ≠ (v219 : Value).ownBlock) v215 t213) ∧ Aside0 (Kd.R (Kd.int .u64) 29 wc w.heap.size (fun k_ => some k_ ≠ (v215 : Value).ownBlock) v219 t217) ∧ Aside0 (wc.heap[gb209]? = some (.cells #[.bool false, .int .u64 0, .int .u64 0] 31 (0, 0))) ∧ Aside0 (Below w.heap.size w wc))
  case first =>
   have H := HC10.out
   clear HC10
   by_cases c11 : t214 = true
   · subst c11
     rw [if_pos rfl] at H
     have H' := Aside0.mk H
     clear H
     go_wp2
     go_meet
     case rel => exact ⟨_, (!t218), zI, H', ⟨by first | omega | exact Nat.le_refl _⟩, ⟨by (with_reducible repeat (first | apply Kd.R_alloc | apply Kd.R_drewN | apply Kd.R_drew)); exact Kd.R_mono HO216.out (fun _ hk => hk.2)⟩, ⟨by (with_reducible repeat (first | apply Kd.R_alloc | apply Kd.R_drewN | apply Kd.R_drew)); exact Kd.R_mono HO220.out (fun _ hk => hk.2)⟩, ⟨zK BK209⟩, ⟨zB HB⟩⟩
   replace c11 := Bool.eq_false_iff.mpr c11
   subst c11; rw [if_neg zF] at H
   have H' := Aside0.mk H
   clear H
   go_wp2
   go_meet
   case rel => exact ⟨_, (true), zI, H', ⟨by first | omega | exact Nat.le_refl _⟩, ⟨by (with_reducible repeat (first | apply Kd.R_alloc | apply Kd.R_drewN | apply Kd.R_drew)); exact Kd.R_mono HO216.out (fun _ hk => hk.2)⟩, ⟨by (with_reducible repeat (first | apply Kd.R_alloc | apply Kd.R_drewN | apply Kd.R_drew)); exact Kd.R_mono HO220.out (fun _ hk => hk.2)⟩, ⟨zK BK209⟩, ⟨zB HB⟩⟩
  case rest =>
   clear HC10
   obtain ⟨kq, x30_9, rfl, HA, HJ9, HO_7, HO_9, BK209, HB⟩ := hcut
   rcases kq with _ | kj9
   · exact absurd HA.out (by simp [address_parse6.j0])
   have H := HA.out
   clear HA
   simp only [address_parse6.j0] at H
   by_cases c12 : x30_9 = true
   · subst c12
     rw [if_pos rfl] at H
     simp only [Option.some.injEq, Prod.mk.injEq] at H
     obtain ⟨rfl, rfl, rfl, rfl⟩ := H
     obtain ⟨hcz13_0, hcz13_1, hcz13_2⟩ := zc3 BK209; obtain ⟨hfz13_0, hfz13_1, hfz13_2⟩ := zf3 BK209
     go_wp2
     refine bodyPost_ret (results_ct rfl _ _ gb209 31 #[.bool false, .int .u64 0, .int .u64 0] (0, 0) _ rfl (by refine zL ?_; refine blk_put (cs := #[.bool false, .int .u64 0, .int .u64 0]) ?_ 2 _ rfl; refine zL ?_; refine blk_put (cs := #[.bool false, .int .u64 0, .int .u64 0]) ?_ 1 _ rfl; refine zL ?_; refine blk_put (cs := #[.bool false, .int .u64 0, .int .u64 0]) ?_ 0 _ rfl; refine zL ?_; exact BK209.out) Tryz.underlying31 rfl (by kernel_rfl)) rfl ?_
     exact ⟨zr, zB HB⟩
   replace c12 := Bool.eq_false_iff.mpr c12
   subst c12; rw [if_neg zF] at H; have HC14 := Aside0.mk H; clear H
   go_upto_region 6 with (fail)
   go_cut [38] (fun v38 wc => ∃ (kq : Nat) (x38_13 : Bool), v38 = .bool x38_13 ∧ Aside0 (address_parse6.j1 kq t212 t213 t217 x38_13 = some (r1, r2, r3, r4)) ∧ Aside0 (kq ≤ kj9) ∧ Aside0 (Kd.R (Kd.int .u64) 29 wc w.heap.size (fun k_ => some k_ ≠ (v219 : Value).ownBlock) v215 t213) ∧ Aside0 (Kd.R (Kd.int .u64) 29 wc w.heap.size (fun k_ => some k_ ≠ (v215 : Value).ownBlock) v219 t217) ∧ Aside0 (wc.heap[gb209]? = some (.cells #[.bool false, .int .u64 0, .int .u64 0] 31 (0, 0))) ∧ Aside0 (Below w.heap.size w wc))
   case first =>
    have H := HC14.out
    clear HC14
    by_cases c15 : t212 = true
    · subst c15
      rw [if_pos rfl] at H
      have H' := Aside0.mk H
      clear H
      go_wp2
      go_meet
      case rel => exact ⟨_, (false), zI, H', ⟨by have := HJ9.out; first | omega | exact Nat.le_refl _⟩, ⟨zR HO_7⟩, ⟨zR HO_9⟩, ⟨zK BK209⟩, ⟨zB HB⟩⟩
    replace c15 := Bool.eq_false_iff.mpr c15
    subst c15; rw [if_neg zF] at H
    have H' := Aside0.mk H
    clear H
    obtain ⟨Ao16, co16, eo16⟩ := Kd.R_slice HO_7.out
    subst eo16
    go_wp2
    go_meet
    case rel => exact ⟨_, (((t213.length : Int) != 8)), zI, H', ⟨by have := HJ9.out; first | omega | exact Nat.le_refl _⟩, ⟨zR HO_7⟩, ⟨zR HO_9⟩, ⟨zK BK209⟩, ⟨zB HB⟩⟩
   case rest =>
    clear HC14
    try clear c12
    obtain ⟨kq, x38_13, rfl, HA, HJ13, HO_7, HO_9, BK209, HB⟩ := hcut
    rcases kq with _ | kj13
    · exact absurd HA.out (by simp [address_parse6.j1])
    have H := HA.out
    clear HA
    simp only [address_parse6.j1] at H
    by_cases c17 : x38_13 = true
    · subst c17
      rw [if_pos rfl] at H
      simp only [Option.some.injEq, Prod.mk.injEq] at H
      obtain ⟨rfl, rfl, rfl, rfl⟩ := H
      obtain ⟨hcz18_0, hcz18_1, hcz18_2⟩ := zc3 BK209; obtain ⟨hfz18_0, hfz18_1, hfz18_2⟩ := zf3 BK209
      go_wp2
      refine bodyPost_ret (results_ct rfl _ _ gb209 31 #[.bool false, .int .u64 0, .int .u64 0] (0, 0) _ rfl (by refine zL ?_; refine blk_put (cs := #[.bool false, .int .u64 0, .int .u64 0]) ?_ 2 _ rfl; refine zL ?_; refine blk_put (cs := #[.bool false, .int .u64 0, .int .u64 0]) ?_ 1 _ rfl; refine zL ?_; refine blk_put (cs := #[.bool false, .int .u64 0, .int .u64 0]) ?_ 0 _ rfl; refine zL ?_; exact BK209.out) Tryz.underlying31 rfl (by kernel_rfl)) rfl ?_
      exact ⟨zr, zB HB⟩
    replace c17 := Bool.eq_false_iff.mpr c17
    subst c17; rw [if_neg zF] at H
    by_cases c19 : t212 = true
    rotate_left
    · replace c19 := Bool.eq_false_iff.mpr c19
      subst c19; rw [if_neg zF] at H
      have H' := Aside0.mk H
      clear H
      go_wp2
      go_meet
      case rel => exact ⟨_, (false), (0), (0), H', ⟨by have := HJ9.out; have := HJ13.out; first | omega | exact Nat.le_refl _⟩, ⟨zR HO_7⟩, ⟨zR HO_9⟩, ⟨zK BK209⟩, ⟨zB HB⟩⟩
    subst c19; rw [if_pos rfl] at H
    by_cases c20 : (wrap64 ((t213.length : Int) + (t217.length : Int))) > 7
    · rw [if_pos c20] at H
      have c20b0 : decide (7 < (wrap64 ((t213.length : Int) + (t217.length : Int)))) = true := decide_eq_true c20; clear c20
      simp only [Option.some.injEq, Prod.mk.injEq] at H
      obtain ⟨rfl, rfl, rfl, rfl⟩ := H
      obtain ⟨Ao21, co21, eo21⟩ := Kd.R_slice HO_7.out
      subst eo21
      obtain ⟨Ao22, co22, eo22⟩ := Kd.R_slice HO_9.out
      subst eo22; obtain ⟨hcz23_0, hcz23_1, hcz23_2⟩ := zc3 BK209; obtain ⟨hfz23_0, hfz23_1, hfz23_2⟩ := zf3 BK209
      go_wp2
      refine bodyPost_ret (results_ct rfl _ _ gb209 31 #[.bool false, .int .u64 0, .int .u64 0] (0, 0) _ rfl (by refine zL ?_; refine blk_put (cs := #[.bool false, .int .u64 0, .int .u64 0]) ?_ 2 _ rfl; refine zL ?_; refine blk_put (cs := #[.bool false, .int .u64 0, .int .u64 0]) ?_ 1 _ rfl; refine zL ?_; refine blk_put (cs := #[.bool false, .int .u64 0, .int .u64 0]) ?_ 0 _ rfl; refine zL ?_; exact BK209.out) Tryz.underlying31 rfl (by kernel_rfl)) rfl ?_
      exact ⟨zr, zB HB⟩
    rw [if_neg c20] at H
    have c20b0 : decide (7 < (wrap64 ((t213.length : Int) + (t217.length : Int)))) = false := decide_eq_false c20; clear c20
    have H' := Aside0.mk H
    clear H
    obtain ⟨Ao24, co24, eo24⟩ := Kd.R_slice HO_7.out
    subst eo24
    obtain ⟨Ao25, co25, eo25⟩ := Kd.R_slice HO_9.out
    subst eo25
    go_wp2
    go_meet
    case rel => exact ⟨_, (false), (0), (0), H', ⟨by have := HJ9.out; have := HJ13.out; first | omega | exact Nat.le_refl _⟩, ⟨zR HO_7⟩, ⟨zR HO_9⟩, ⟨zK BK209⟩, ⟨zB HB⟩⟩
 case rest =>
  clear HC5
  obtain ⟨kq, x210000_4, x210001_4, x210002_4, HA, HJ4, HO_7, HO_9, BK209, HB⟩ := hcut
  rcases kq with _ | kj4
  · exact absurd HA.out (by simp [address_parse6.j2])
  have H := HA.out
  clear HA
  simp only [address_parse6.j2] at H
  have H' := Aside0.mk H
  clear H
  go_wp2
  go_loopg [7] kj4 (fun kq v7 w' => ∃ (x7_2 : List Int), Aside0 (address_parse6.l0 kq x7_2 t217 = some (r1, r2, r3, r4)) ∧ Aside0 (kq ≤ kj4) ∧ Aside0 (Kd.R (Kd.int .u64) 29 w' w.heap.size (fun k_ => some k_ ≠ (v219 : Value).ownBlock) v7 x7_2) ∧ Aside0 (Kd.R (Kd.int .u64) 29 w' w.heap.size (fun k_ => some k_ ≠ (v7 : Value).ownBlock) v219 t217) ∧ Aside0 (w'.heap[gb209]? = some (.cells #[.bool x210000_4, .int .u64 x210001_4, .int .u64 x210002_4] 31 (0, 0))) ∧ Aside0 (Below w.heap.size w w'))
  case atStart => exact ⟨(t213), H', ⟨Nat.le_refl _⟩, ⟨zR HO_7⟩, ⟨zR HO_9⟩, ⟨zK BK209⟩, ⟨zB HB⟩⟩
  case round =>
   clear H'
   obtain ⟨x7_2, HA, HK2, HO_7, HO_9, BK209, HB⟩ := hrel
   rcases gk with _ | k2
   · exact absurd HA.out (by simp [address_parse6.l0])
   have H := HA.out
   clear HA
   simp only [address_parse6.l0] at H
   by_cases c26 : (wrap64 ((x7_2.length : Int) + (t217.length : Int))) < 8
   · rw [if_pos c26] at H
     have c26b0 : decide ((wrap64 ((x7_2.length : Int) + (t217.length : Int))) < 8) = true := decide_eq_true c26; clear c26
     by_cases c27 : x7_2.length < 17592186044416
     rotate_left
     · rw [if_neg c27] at H
       exact absurd H (by simp)
     rw [if_pos c27] at H; have LMc27 := Aside0.mk c27; clear c27
     obtain ⟨y221, hy221⟩ : ∃ y_ : List Int, y_ = (x7_2 ++ [0]) := ⟨_, rfl⟩
     rw [← hy221] at H; try dsimp only [Option.bind_some] at H
     have Ny221 := Aside0.mk hy221; clear hy221
     have H' := Aside0.mk H
     clear H
     obtain ⟨Ao28, co28, eo28⟩ := Kd.R_slice HO_7.out
     subst eo28
     obtain ⟨Ao29, co29, eo29⟩ := Kd.R_slice HO_9.out
     subst eo29
     go_wp2_with (first | ((with_reducible refine gate_builtin (b := .append) (xs := #[.tmp 64, .tmp 65]) rfl ?_); (try (refine gate_guard (by rfl) ?_; dsimp only)); at_builtin; refine Kd.R_append (Kd.int .u64) (w0 := w) w.heap.size rfl (.tmp 64) (.tmp 65) 174 29 (.int .u64 0) 8 rfl Tryz.underlying174 info29 rfl (by decide) (by omega) (.slice Ao28 x7_2.length co28) x7_2 0 [.int .u64 0] (fun k_ => some k_ ≠ (.slice Ao29 t217.length co29 : Value).ownBlock) (fun _ => False) rfl rfl ?aP (fun _ hk => hk.elim) ?aF ?aO ?aB ?aS ?aL ?_; (case aP => exact rfl); (case aB => exact (zB HB)); (case aF => exact (fun k_ hk => Kd.fresh' (Kd.R_lt (zR HO_9)) k_ hk)); (case aO => exact (zR HO_7)); (case aS => exact (below_size (zB HB))); (case aL => have := LMc27.out; omega); intro v222 w30 ho hb hg hat; rw [← Ny221.out] at ho; replace HO_9 := Aside0.mk (Kd.R_after (ok := (fun _ => True)) (by (with_reducible repeat (first | apply Kd.R_alloc | apply Kd.R_drewN | apply Kd.R_drew)); exact Kd.R_mono HO_9.out (fun _ hk => ⟨trivial, hk⟩)) hg hat); replace BK209 := Aside0.mk (blk_grown (g := gb209) (o := .cells #[.bool x210000_4, .int .u64 x210001_4, .int .u64 x210002_4] 31 (0, 0)) (zK BK209) hg (Kd.R_ne HO_7.out BK209.out (by decide))); replace HB := Aside0.mk (hb); have HO223 := Aside0.mk (ho); clear HO_7; clear ho hb hg hat))
     go_roundg k2
     case measure => have := HJ4.out; have := HK2.out; omega
     case rel => exact ⟨(y221), H', ⟨by have := HJ4.out; have := HK2.out; omega⟩, ⟨zR HO223⟩, ⟨by (with_reducible repeat (first | apply Kd.R_alloc | apply Kd.R_drewN | apply Kd.R_drew)); exact Kd.R_mono HO_9.out (fun _ hk => hk.2)⟩, ⟨zK BK209⟩, ⟨zB HB⟩⟩
   rw [if_neg c26] at H
   have c26b0 : decide ((wrap64 ((x7_2.length : Int) + (t217.length : Int))) < 8) = false := decide_eq_false c26; clear c26
   by_cases c31 : x7_2.length + t217.length < 17592186044416
   rotate_left
   · rw [if_neg c31] at H
     exact absurd H (by simp)
   rw [if_pos c31] at H; have LMc31 := Aside0.mk c31; clear c31
   obtain ⟨y225, hy225⟩ : ∃ y_ : List Int, y_ = (x7_2 ++ t217) := ⟨_, rfl⟩
   rw [← hy225] at H; try dsimp only [Option.bind_some] at H
   have Ny225 := Aside0.mk hy225; clear hy225
   have H' := Aside0.mk H
   clear H
   obtain ⟨Ao32, co32, eo32⟩ := Kd.R_slice HO_7.out
   subst eo32
   obtain ⟨Ao33, co33, eo33⟩ := Kd.R_slice HO_9.out
   subst eo33
   go_wp2_with (first | ((with_reducible refine gate_dst (N := 11) rfl ?_); (try (refine gate_guard (by rfl) ?_; dsimp only)); refine zx 11 #[.bool false, .int .u64 0, .int .u64 0] 31 ?_; intro gb224 hg w34 hbox hb; replace HO_7 := Aside0.mk (Kd.R_below (zR HO_7) hb); replace HO_9 := Aside0.mk (Kd.R_below (zR HO_9) hb); have BK224 := Aside0.mk (hbox); have GW224 := zG HB hg; have GE224 := zG HB hg; replace HB := Aside0.mk (below_step (zB HB) hb); have NB209_224 := Aside0.mk ((by rw [hg]; exact Nat.ne_of_lt (blk_lt (g := gb209) (o := .cells #[.bool x210000_4, .int .u64 x210001_4, .int .u64 x210002_4] 31 (0, 0)) (zK BK209)) : gb209 ≠ gb224)); have NB224_209 := Aside0.mk ((by rw [hg]; exact Nat.ne_of_gt (blk_lt (g := gb209) (o := .cells #[.bool x210000_4, .int .u64 x210001_4, .int .u64 x210002_4] 31 (0, 0)) (zK BK209)) : gb224 ≠ gb209)); replace BK209 := zkb BK209 hb; clear hb hbox hg; have hnb35 := NB224_209.out; have hnc35 := NB209_224.out; obtain ⟨hcz36_0, hcz36_1, hcz36_2⟩ := zc3 BK224; obtain ⟨hfz36_0, hfz36_1, hfz36_2⟩ := zf3 BK224) | ((with_reducible refine gate_builtin (b := .append) (xs := #[.tmp 68, .tmp 69]) rfl ?_); (try (refine gate_guard (by rfl) ?_; dsimp only)); at_builtin; refine Kd.R_append_rows (Kd.int .u64) (w0 := w) w.heap.size rfl (.tmp 68) (.tmp 69) 174 29 (.int .u64 0) 8 rfl Tryz.underlying174 info29 rfl (by decide) (by omega) (.slice Ao32 x7_2.length co32) x7_2 t217 _ _ _ (fun k_ => some k_ ≠ (.slice Ao33 t217.length co33 : Value).ownBlock) (fun _ => False) rfl rfl ?aO ?aR (fun _ _ h => h) (fun _ h => h.elim) ?aF ?aB ?aS ?aL ?_; (case aR => refine (Kd.R_reads' (e := 29) (base := w.heap.size) (ok := fun k_ => some k_ ≠ (.slice Ao32 x7_2.length co32 : Value).ownBlock) (n := t217.length) (c := co33) ?_).2.2; exact (zQ (Kd.R_mono (Kd.R_far (p := ⟨gb224, 2, none⟩) (Kd.R_far (p := ⟨gb224, 1, none⟩) (Kd.R_far (p := ⟨gb224, 0, none⟩) (Kd.R_types HO_9.out BK224.out (by decide)) (fun _ hk => hk.2) (.bool true)) (fun _ hk => hk.2) (.int .u64 0)) (fun _ hk => hk.2) (.int .u64 0)) (fun _ h_ => h_.1)))); (case aB => exact (zB HB)); (case aF => exact (fun k_ hk => Kd.fresh' (Kd.R_lt (zQ (Kd.R_mono (Kd.R_far (p := ⟨gb224, 2, none⟩) (Kd.R_far (p := ⟨gb224, 1, none⟩) (Kd.R_far (p := ⟨gb224, 0, none⟩) (Kd.R_types HO_9.out BK224.out (by decide)) (fun _ hk => hk.2) (.bool true)) (fun _ hk => hk.2) (.int .u64 0)) (fun _ hk => hk.2) (.int .u64 0)) (fun _ h_ => h_.1)))) k_ hk)); (case aO => exact (by (with_reducible repeat (first | apply Kd.R_alloc | apply Kd.R_drewN | apply Kd.R_drew)); exact Kd.R_mono (Kd.R_far (p := ⟨gb224, 2, none⟩) (Kd.R_far (p := ⟨gb224, 1, none⟩) (Kd.R_far (p := ⟨gb224, 0, none⟩) (Kd.R_types HO_7.out BK224.out (by decide)) (fun _ hk => hk.2) (.bool true)) (fun _ hk => hk.2) (.int .u64 0)) (fun _ hk => hk.2) (.int .u64 0)) (fun _ hk => hk.1))); (case aS => exact (below_size (zB HB))); (case aL => have := LMc31.out; omega); intro v226 w37 ho hb hg hat; rw [← Ny225.out] at ho; replace HO_9 := Aside0.mk (Kd.R_after (ok := (fun _ => True)) (by (with_reducible repeat (first | apply Kd.R_alloc | apply Kd.R_drewN | apply Kd.R_drew)); exact Kd.R_mono (Kd.R_far (p := ⟨gb224, 2, none⟩) (Kd.R_far (p := ⟨gb224, 1, none⟩) (Kd.R_far (p := ⟨gb224, 0, none⟩) (Kd.R_types HO_9.out BK224.out (by decide)) (fun _ hk => hk.2) (.bool true)) (fun _ hk => hk.2) (.int .u64 0)) (fun _ hk => hk.2) (.int .u64 0)) (fun _ hk => ⟨trivial, hk.1⟩)) hg hat); replace BK209 := Aside0.mk (blk_grown (g := gb209) (o := .cells #[.bool x210000_4, .int .u64 x210001_4, .int .u64 x210002_4] 31 (0, 0)) (by refine zL ?_; refine blk_far ?_ NB209_224.out _; refine zL ?_; refine blk_far ?_ NB209_224.out _; refine zL ?_; refine blk_far ?_ NB209_224.out _; refine zL ?_; exact BK209.out) hg (Kd.R_ne HO_7.out BK209.out (by decide))); replace BK224 := Aside0.mk (blk_grown (g := gb224) (o := .cells #[.bool true, .int .u64 0, .int .u64 0] 31 (0, 0)) (by refine zL ?_; refine blk_put (cs := #[.bool true, .int .u64 0, .int .u64 0]) ?_ 2 _ rfl; refine zL ?_; refine blk_put (cs := #[.bool true, .int .u64 0, .int .u64 0]) ?_ 1 _ rfl; refine zL ?_; refine blk_put (cs := #[.bool false, .int .u64 0, .int .u64 0]) ?_ 0 _ rfl; refine zL ?_; exact BK224.out) hg (Kd.R_ne HO_7.out BK224.out (by decide))); replace HB := Aside0.mk (hb); have HO227 := Aside0.mk (ho); clear HO_7; clear ho hb hg hat; obtain ⟨Ao38, co38, eo38⟩ := Kd.R_slice HO227.out; subst eo38))
   go_loopg [72] k2 (fun kq v72 w' => ∃ (x72_3 : Int) (x225001_3 : Int) (x225002_3 : Int), v72 = .int .i64 x72_3 ∧ Aside0 (address_parse6.l1 kq y225 (y225.length : Int) x72_3 true x225001_3 x225002_3 = some (r1, r2, r3, r4)) ∧ Aside0 (kq ≤ k2) ∧ Aside0 (Kd.R (Kd.int .u64) 29 w' w.heap.size (fun _ => True) (.slice Ao38 y225.length co38) y225) ∧ Aside0 (w'.heap[gb209]? = some (.cells #[.bool x210000_4, .int .u64 x210001_4, .int .u64 x210002_4] 31 (0, 0))) ∧ Aside0 (w'.heap[gb224]? = some (.cells #[.bool true, .int .u64 x225001_3, .int .u64 x225002_3] 31 (0, 0))) ∧ Aside0 (Below w.heap.size w w'))
   case atStart => exact ⟨(0), (0), (0), zI, H', ⟨Nat.le_refl _⟩, ⟨by (with_reducible repeat (first | apply Kd.R_alloc | apply Kd.R_drewN | apply Kd.R_drew)); exact Kd.R_mono HO227.out (fun _ hk => trivial)⟩, ⟨zK BK209⟩, ⟨zK BK224⟩, ⟨zB HB⟩⟩
   case round =>
    clear H'
    (try clear c26); (try clear c26b0); (try clear c31); (try clear hcz36_0 hcz36_1 hcz36_2); (try clear hfz36_0 hfz36_1 hfz36_2)
    obtain ⟨x72_3, x225001_3, x225002_3, rfl, HA, HK3, HO_70, BK209, BK224, HB⟩ := hrel
    rcases gk with _ | k3
    · exact absurd HA.out (by simp [address_parse6.l1])
    have H := HA.out
    clear HA
    simp only [address_parse6.l1] at H
    by_cases c39 : x72_3 < (y225.length : Int)
    rotate_left
    · rw [if_neg c39] at H
      have c39b0 : decide (x72_3 < (y225.length : Int)) = false := decide_eq_false c39; clear c39
      simp only [Option.some.injEq, Prod.mk.injEq] at H
      obtain ⟨rfl, rfl, rfl, rfl⟩ := H
      have hnb47 := NB224_209.out
      have hnc47 := NB209_224.out
      obtain ⟨hcz48_0, hcz48_1, hcz48_2⟩ := zc3 BK224; obtain ⟨hfz48_0, hfz48_1, hfz48_2⟩ := zf3 BK224; obtain ⟨hcz49_0, hcz49_1, hcz49_2⟩ := zc3 BK209; obtain ⟨hfz49_0, hfz49_1, hfz49_2⟩ := zf3 BK209
      go_wp2
      refine bodyPost_ret (results_ct rfl _ _ gb209 31 #[.bool true, .int .u64 x225001_3, .int .u64 x225002_3] (0, 0) _ rfl (by refine zL ?_; refine blk_put (cs := #[.bool true, .int .u64 x225001_3, .int .u64 x210002_4]) ?_ 2 _ rfl; refine zL ?_; refine blk_put (cs := #[.bool true, .int .u64 x210001_4, .int .u64 x210002_4]) ?_ 1 _ rfl; refine zL ?_; refine blk_put (cs := #[.bool x210000_4, .int .u64 x210001_4, .int .u64 x210002_4]) ?_ 0 _ rfl; refine zL ?_; exact BK209.out) Tryz.underlying31 rfl (by kernel_rfl)) rfl ?_
      exact ⟨zr, zB HB⟩
    rw [if_pos c39] at H
    have c39b0 : decide (x72_3 < (y225.length : Int)) = true := decide_eq_true c39; clear c39
    by_cases c40 : 0 ≤ x72_3
    rotate_left
    · rw [if_neg c40] at H
      exact absurd H (by simp)
    rw [if_pos c40] at H
    have c40b0 : decide (0 ≤ x72_3) = true := decide_eq_true c40; clear c40
    by_cases c41 : x72_3 < (y225.length : Int)
    rotate_left
    · rw [if_neg c41] at H
      exact absurd H (by simp)
    rw [if_pos c41] at H
    have c41b0 : decide (x72_3 < (y225.length : Int)) = true := decide_eq_true c41; clear c41
    by_cases c42 : x72_3 < 4
    · rw [if_pos c42] at H
      have c42b0 : decide (x72_3 < 4) = true := decide_eq_true c42; clear c42
      have H' := Aside0.mk H
      clear H
      have p228 : 0 ≤ (x72_3 : Int) := za
      have q228 : x72_3 < (y225.length : Int) := za
      obtain ⟨ad228, e228, hx228_0⟩ := Kd.at_int (Kd.R_reads' HO_70.out).2.2 x72_3 p228 q228
      cases e228
      replace p228 := eq_true p228
      replace q228 := eq_true q228
      have hnb43 := NB224_209.out
      have hnc43 := NB209_224.out
      obtain ⟨hcz44_0, hcz44_1, hcz44_2⟩ := zc3 BK224; obtain ⟨hfz44_0, hfz44_1, hfz44_2⟩ := zf3 BK224
      go_wp2
      go_roundg k3
      case measure => have := HJ4.out; have := HK2.out; have := HK3.out; omega
      case rel => exact ⟨(wrap64 (x72_3 + 1)), (Go.bits .or .u64 (IntKind.u64.wrap (x225001_3 * 65536)) (rd y225 x72_3)), (x225002_3), zI, H', ⟨by have := HJ4.out; have := HK2.out; have := HK3.out; omega⟩, ⟨by (with_reducible repeat (first | apply Kd.R_alloc | apply Kd.R_drewN | apply Kd.R_drew)); exact Kd.R_mono (Kd.R_far (p := ⟨gb224, 1, none⟩) (Kd.R_types HO_70.out BK224.out (by decide)) (fun _ hk => hk.2) (.int .u64 (Go.bits .or .u64 (IntKind.u64.wrap (x225001_3 * 65536)) (rd y225 x72_3)))) (fun _ hk => trivial)⟩, ⟨by refine zL ?_; refine blk_far ?_ NB209_224.out _; refine zL ?_; exact BK209.out⟩, ⟨by refine zL ?_; refine blk_put (cs := #[.bool true, .int .u64 x225001_3, .int .u64 x225002_3]) ?_ 1 _ rfl; refine zL ?_; exact BK224.out⟩, ⟨zB HB⟩⟩
    rw [if_neg c42] at H
    have c42b0 : decide (x72_3 < 4) = false := decide_eq_false c42; clear c42
    have H' := Aside0.mk H
    clear H
    have p228 : 0 ≤ (x72_3 : Int) := za
    have q228 : x72_3 < (y225.length : Int) := za
    obtain ⟨ad228, e228, hx228_0⟩ := Kd.at_int (Kd.R_reads' HO_70.out).2.2 x72_3 p228 q228
    cases e228
    replace p228 := eq_true p228
    replace q228 := eq_true q228
    have hnb45 := NB224_209.out
    have hnc45 := NB209_224.out
    obtain ⟨hcz46_0, hcz46_1, hcz46_2⟩ := zc3 BK224; obtain ⟨hfz46_0, hfz46_1, hfz46_2⟩ := zf3 BK224
    go_wp2
    go_roundg k3
    case measure => have := HJ4.out; have := HK2.out; have := HK3.out; omega
    case rel => exact ⟨(wrap64 (x72_3 + 1)), (x225001_3), (Go.bits .or .u64 (IntKind.u64.wrap (x225002_3 * 65536)) (rd y225 x72_3)), zI, H', ⟨by have := HJ4.out; have := HK2.out; have := HK3.out; omega⟩, ⟨by (with_reducible repeat (first | apply Kd.R_alloc | apply Kd.R_drewN | apply Kd.R_drew)); exact Kd.R_mono (Kd.R_far (p := ⟨gb224, 2, none⟩) (Kd.R_types HO_70.out BK224.out (by decide)) (fun _ hk => hk.2) (.int .u64 (Go.bits .or .u64 (IntKind.u64.wrap (x225002_3 * 65536)) (rd y225 x72_3)))) (fun _ hk => trivial)⟩, ⟨by refine zL ?_; refine blk_far ?_ NB209_224.out _; refine zL ?_; exact BK209.out⟩, ⟨by refine zL ?_; refine blk_put (cs := #[.bool true, .int .u64 x225001_3, .int .u64 x225002_3]) ?_ 2 _ rfl; refine zL ?_; exact BK224.out⟩, ⟨zB HB⟩⟩
def address_Parse.f (k : Nat) (a0 : ByteArray) : Option (Bool × Int × Int × Int) := if (a0.size : Int) > 64 then (some (false, 0, 0, 3)) else ((address_parse4.f k a0).bind fun bt230 => (if bt230.2.2.2 = true then (some (bt230.1, bt230.2.1, bt230.2.2.1, 0)) else ((address_parse6.f k a0).bind fun bt235 => (if bt235.2.2.2 = true then (some (bt235.1, bt235.2.1, bt235.2.2.1, 0)) else (some (false, 0, 0, 2))))))
theorem address_Parse.mono : ∀ a0 k, LeO (address_Parse.f k a0) (address_Parse.f (k + 1) a0) := by
  intro a0 k
  unfold address_Parse.f
  repeat' first
      | (with_reducible exact address_parse4.mono _ _)
      | (with_reducible exact address_parse6.mono _ _)
      | (with_reducible exact LeO.refl _)
      | (with_reducible exact LeO.none _)
      | (with_reducible refine LeO.ite ?_ ?_)
      | (with_reducible refine LeO.bind ?_ (fun _ => ?_))
theorem address_Parse.calls (k : Nat) (a0 : ByteArray) (r1 : Bool) (r2 : Int) (r3 : Int) (r4 : Int) (w : World) (h : address_Parse.f k a0 = some (r1, r2, r3, r4)) (hW_ : WOK w) :
 Calls Tryz.prog 105 #[.string a0] w fun e w' => e = .returned (.tuple #[.agg #[.bool r1, .int .u64 r2, .int .u64 r3], .int .i64 r4]) ∧ Below w.heap.size w w' := by
 have hu31 := Tryz.underlying31
 have HB := Aside0.mk (Below.refl w.heap.size w)
 unfold address_Parse.f at h; have H := h
 clear h
 by_cases c2 : (a0.size : Int) > 64
 · rw [if_pos c2] at H
   have c2b0 : decide (64 < (a0.size : Int)) = true := decide_eq_true c2
   have c2b1 : decide (64 < a0.size) = true := decide_eq_true (by omega)
   clear c2
   simp only [Option.some.injEq, Prod.mk.injEq] at H
   obtain ⟨rfl, rfl, rfl, rfl⟩ := H
   go_enter Tryz.func105, Tryz.ntmps105
   go_wp2_with (first | ((with_reducible refine gate_dst (N := 2) rfl ?_); refine zx 2 #[.bool false, .int .u64 0, .int .u64 0] 31 ?_; intro gb229 hg w3 hbox hb; have BK229 := Aside0.mk (hbox); have GW229 := zG HB hg; have GE229 := zG HB hg; replace HB := Aside0.mk (below_step (zB HB) hb); clear hb hbox hg; obtain ⟨hcz4_0, hcz4_1, hcz4_2⟩ := zc3 BK229; obtain ⟨hfz4_0, hfz4_1, hfz4_2⟩ := zf3 BK229))
   refine bodyPost_ret (results_ct rfl _ _ gb229 31 #[.bool false, .int .u64 0, .int .u64 0] (0, 0) _ rfl (by refine zL ?_; refine blk_put (cs := #[.bool false, .int .u64 0, .int .u64 0]) ?_ 2 _ rfl; refine zL ?_; refine blk_put (cs := #[.bool false, .int .u64 0, .int .u64 0]) ?_ 1 _ rfl; refine zL ?_; refine blk_put (cs := #[.bool false, .int .u64 0, .int .u64 0]) ?_ 0 _ rfl; refine zL ?_; exact BK229.out) Tryz.underlying31 rfl (by kernel_rfl)) rfl ?_
   exact ⟨zr, zB HB⟩
 rw [if_neg c2] at H; have c2b0 : decide (64 < (a0.size : Int)) = false := decide_eq_false c2
 have c2b1 : decide (64 < a0.size) = false := decide_eq_false (by omega)
 clear c2
 replace H := Option.bind_eq_some_iff.mp H
 obtain ⟨⟨t230, t231, t232, t233⟩, A50, H⟩ := H
 replace H : (if t233 = true then (some (t230, t231, t232, 0)) else ((address_parse6.f k a0).bind fun bt235 => (if bt235.2.2.2 = true then (some (bt235.1, bt235.2.1, bt235.2.2.1, 0)) else (some (false, 0, 0, 2))))) = some (r1, r2, r3, r4) := H
 have A5 := Aside0.mk A50; clear A50
 by_cases c6 : t233 = true
 · subst c6
   rw [if_pos rfl] at H
   simp only [Option.some.injEq, Prod.mk.injEq] at H
   obtain ⟨rfl, rfl, rfl, rfl⟩ := H
   go_enter Tryz.func105, Tryz.ntmps105
   go_wp2_with (first | ((with_reducible refine gate_dst (N := 2) rfl ?_); refine zx 2 #[.bool false, .int .u64 0, .int .u64 0] 31 ?_; intro gb229 hg w7 hbox hb; have BK229 := Aside0.mk (hbox); have GW229 := zG HB hg; have GE229 := zG HB hg; replace HB := Aside0.mk (below_step (zB HB) hb); clear hb hbox hg) | ((with_reducible refine gate_callee (f := 133) rfl ?_); refine zgl 14 Tryz.func133 #[.string a0] ?_; (with_reducible refine (address_parse4.calls k a0 t230 t231 t232 true _ A5.out (WOK.below hW_ (zB HB))).mono ?_); rintro e w8 ⟨rfl, hb⟩; refine ⟨_, rfl, ?_⟩; replace BK229 := zkb BK229 hb; replace HB := Aside0.mk (below_step (zB HB) hb); (try clear hb)) | ((with_reducible refine gate_dst (N := 4) rfl ?_); refine zx 4 #[.bool false, .int .u64 0, .int .u64 0] 31 ?_; intro gb234 hg w9 hbox hb; have BK234 := Aside0.mk (hbox); have GW234 := zG HB hg; have GE234 := zG HB hg; replace HB := Aside0.mk (below_step (zB HB) hb); have NB229_234 := Aside0.mk ((by rw [hg]; exact Nat.ne_of_lt (blk_lt (g := gb229) (o := .cells #[.bool false, .int .u64 0, .int .u64 0] 31 (0, 0)) (zK BK229)) : gb229 ≠ gb234)); have NB234_229 := Aside0.mk ((by rw [hg]; exact Nat.ne_of_gt (blk_lt (g := gb229) (o := .cells #[.bool false, .int .u64 0, .int .u64 0] 31 (0, 0)) (zK BK229)) : gb234 ≠ gb229)); replace BK229 := zkb BK229 hb; clear hb hbox hg; have hnb10 := NB234_229.out; have hnc10 := NB229_234.out; obtain ⟨hcz11_0, hcz11_1, hcz11_2⟩ := zc3 BK234; obtain ⟨hfz11_0, hfz11_1, hfz11_2⟩ := zf3 BK234; obtain ⟨hcz12_0, hcz12_1, hcz12_2⟩ := zc3 BK229; obtain ⟨hfz12_0, hfz12_1, hfz12_2⟩ := zf3 BK229))
   refine bodyPost_ret (results_ct rfl _ _ gb229 31 #[.bool t230, .int .u64 t231, .int .u64 t232] (0, 0) _ rfl (by refine zL ?_; refine blk_put (cs := #[.bool t230, .int .u64 t231, .int .u64 0]) ?_ 2 _ rfl; refine zL ?_; refine blk_put (cs := #[.bool t230, .int .u64 0, .int .u64 0]) ?_ 1 _ rfl; refine zL ?_; refine blk_put (cs := #[.bool false, .int .u64 0, .int .u64 0]) ?_ 0 _ rfl; refine zL ?_; refine blk_far ?_ NB229_234.out _; refine zL ?_; refine blk_far ?_ NB229_234.out _; refine zL ?_; refine blk_far ?_ NB229_234.out _; refine zL ?_; exact BK229.out) Tryz.underlying31 rfl (by kernel_rfl)) rfl ?_
   exact ⟨zr, zB HB⟩
 replace c6 := Bool.eq_false_iff.mpr c6
 subst c6; rw [if_neg zF] at H
 replace H := Option.bind_eq_some_iff.mp H
 obtain ⟨⟨t235, t236, t237, t238⟩, A130, H⟩ := H
 replace H : (if t238 = true then (some (t235, t236, t237, 0)) else (some (false, 0, 0, 2))) = some (r1, r2, r3, r4) := H
 have A13 := Aside0.mk A130; clear A130
 by_cases c14 : t238 = true
 · subst c14
   rw [if_pos rfl] at H
   simp only [Option.some.injEq, Prod.mk.injEq] at H
   obtain ⟨rfl, rfl, rfl, rfl⟩ := H
   go_enter Tryz.func105, Tryz.ntmps105
   go_wp2_with (first | ((with_reducible refine gate_dst (N := 2) rfl ?_); refine zx 2 #[.bool false, .int .u64 0, .int .u64 0] 31 ?_; intro gb229 hg w15 hbox hb; have BK229 := Aside0.mk (hbox); have GW229 := zG HB hg; have GE229 := zG HB hg; replace HB := Aside0.mk (below_step (zB HB) hb); clear hb hbox hg) | ((with_reducible refine gate_callee (f := 133) rfl ?_); refine zgl 14 Tryz.func133 #[.string a0] ?_; (with_reducible refine (address_parse4.calls k a0 t230 t231 t232 false _ A5.out (WOK.below hW_ (zB HB))).mono ?_); rintro e w16 ⟨rfl, hb⟩; refine ⟨_, rfl, ?_⟩; replace BK229 := zkb BK229 hb; replace HB := Aside0.mk (below_step (zB HB) hb); (try clear hb)) | ((with_reducible refine gate_dst (N := 4) rfl ?_); refine zx 4 #[.bool false, .int .u64 0, .int .u64 0] 31 ?_; intro gb234 hg w17 hbox hb; have BK234 := Aside0.mk (hbox); have GW234 := zG HB hg; have GE234 := zG HB hg; replace HB := Aside0.mk (below_step (zB HB) hb); have NB229_234 := Aside0.mk ((by rw [hg]; exact Nat.ne_of_lt (blk_lt (g := gb229) (o := .cells #[.bool false, .int .u64 0, .int .u64 0] 31 (0, 0)) (zK BK229)) : gb229 ≠ gb234)); have NB234_229 := Aside0.mk ((by rw [hg]; exact Nat.ne_of_gt (blk_lt (g := gb229) (o := .cells #[.bool false, .int .u64 0, .int .u64 0] 31 (0, 0)) (zK BK229)) : gb234 ≠ gb229)); replace BK229 := zkb BK229 hb; clear hb hbox hg; have hnb18 := NB234_229.out; have hnc18 := NB229_234.out; obtain ⟨hcz19_0, hcz19_1, hcz19_2⟩ := zc3 BK234; obtain ⟨hfz19_0, hfz19_1, hfz19_2⟩ := zf3 BK234) | ((with_reducible refine gate_callee (f := 134) rfl ?_); refine zgl 21 Tryz.func134 #[.string a0] ?_; (with_reducible refine (address_parse6.calls k a0 t235 t236 t237 true _ A13.out (WOK.below hW_ (zB HB))).mono ?_); rintro e w20 ⟨rfl, hb⟩; refine ⟨_, rfl, ?_⟩; replace BK229 := Aside0.mk (blk_below (g := gb229) (o := .cells #[.bool false, .int .u64 0, .int .u64 0] 31 (0, 0)) (by refine zL ?_; refine blk_far ?_ NB229_234.out _; refine zL ?_; refine blk_far ?_ NB229_234.out _; refine zL ?_; refine blk_far ?_ NB229_234.out _; refine zL ?_; exact BK229.out) hb); replace BK234 := Aside0.mk (blk_below (g := gb234) (o := .cells #[.bool t230, .int .u64 t231, .int .u64 t232] 31 (0, 0)) (by refine zL ?_; refine blk_put (cs := #[.bool t230, .int .u64 t231, .int .u64 0]) ?_ 2 _ rfl; refine zL ?_; refine blk_put (cs := #[.bool t230, .int .u64 0, .int .u64 0]) ?_ 1 _ rfl; refine zL ?_; refine blk_put (cs := #[.bool false, .int .u64 0, .int .u64 0]) ?_ 0 _ rfl; refine zL ?_; exact BK234.out) hb); replace HB := Aside0.mk (below_step (zB HB) hb); (try clear hb)) | ((with_reducible refine gate_dst (N := 6) rfl ?_); refine zx 6 #[.bool false, .int .u64 0, .int .u64 0] 31 ?_; intro gb239 hg w21 hbox hb; have BK239 := Aside0.mk (hbox); have GW239 := zG HB hg; have GE239 := zG HB hg; replace HB := Aside0.mk (below_step (zB HB) hb); have NB229_239 := Aside0.mk ((by rw [hg]; exact Nat.ne_of_lt (blk_lt (g := gb229) (o := .cells #[.bool false, .int .u64 0, .int .u64 0] 31 (0, 0)) (zK BK229)) : gb229 ≠ gb239)); have NB239_229 := Aside0.mk ((by rw [hg]; exact Nat.ne_of_gt (blk_lt (g := gb229) (o := .cells #[.bool false, .int .u64 0, .int .u64 0] 31 (0, 0)) (zK BK229)) : gb239 ≠ gb229)); replace BK229 := zkb BK229 hb; have NB234_239 := Aside0.mk ((by rw [hg]; exact Nat.ne_of_lt (blk_lt (g := gb234) (o := .cells #[.bool t230, .int .u64 t231, .int .u64 t232] 31 (0, 0)) (zK BK234)) : gb234 ≠ gb239)); have NB239_234 := Aside0.mk ((by rw [hg]; exact Nat.ne_of_gt (blk_lt (g := gb234) (o := .cells #[.bool t230, .int .u64 t231, .int .u64 t232] 31 (0, 0)) (zK BK234)) : gb239 ≠ gb234)); replace BK234 := zkb BK234 hb; clear hb hbox hg; have hnb22 := NB239_229.out; have hnc22 := NB229_239.out; have hnb23 := NB239_234.out; have hnc23 := NB234_239.out; obtain ⟨hcz24_0, hcz24_1, hcz24_2⟩ := zc3 BK239; obtain ⟨hfz24_0, hfz24_1, hfz24_2⟩ := zf3 BK239; obtain ⟨hcz25_0, hcz25_1, hcz25_2⟩ := zc3 BK229; obtain ⟨hfz25_0, hfz25_1, hfz25_2⟩ := zf3 BK229))
   refine bodyPost_ret (results_ct rfl _ _ gb229 31 #[.bool t235, .int .u64 t236, .int .u64 t237] (0, 0) _ rfl (by refine zL ?_; refine blk_put (cs := #[.bool t235, .int .u64 t236, .int .u64 0]) ?_ 2 _ rfl; refine zL ?_; refine blk_put (cs := #[.bool t235, .int .u64 0, .int .u64 0]) ?_ 1 _ rfl; refine zL ?_; refine blk_put (cs := #[.bool false, .int .u64 0, .int .u64 0]) ?_ 0 _ rfl; refine zL ?_; refine blk_far ?_ NB229_239.out _; refine zL ?_; refine blk_far ?_ NB229_239.out _; refine zL ?_; refine blk_far ?_ NB229_239.out _; refine zL ?_; exact BK229.out) Tryz.underlying31 rfl (by kernel_rfl)) rfl ?_
   exact ⟨zr, zB HB⟩
 replace c14 := Bool.eq_false_iff.mpr c14
 subst c14; rw [if_neg zF] at H
 simp only [Option.some.injEq, Prod.mk.injEq] at H
 obtain ⟨rfl, rfl, rfl, rfl⟩ := H
 go_enter Tryz.func105, Tryz.ntmps105
 go_wp2_with (first | ((with_reducible refine gate_dst (N := 2) rfl ?_); refine zx 2 #[.bool false, .int .u64 0, .int .u64 0] 31 ?_; intro gb229 hg w26 hbox hb; have BK229 := Aside0.mk (hbox); have GW229 := zG HB hg; have GE229 := zG HB hg; replace HB := Aside0.mk (below_step (zB HB) hb); clear hb hbox hg) | ((with_reducible refine gate_callee (f := 133) rfl ?_); refine zgl 14 Tryz.func133 #[.string a0] ?_; (with_reducible refine (address_parse4.calls k a0 t230 t231 t232 false _ A5.out (WOK.below hW_ (zB HB))).mono ?_); rintro e w27 ⟨rfl, hb⟩; refine ⟨_, rfl, ?_⟩; replace BK229 := zkb BK229 hb; replace HB := Aside0.mk (below_step (zB HB) hb); (try clear hb)) | ((with_reducible refine gate_dst (N := 4) rfl ?_); refine zx 4 #[.bool false, .int .u64 0, .int .u64 0] 31 ?_; intro gb234 hg w28 hbox hb; have BK234 := Aside0.mk (hbox); have GW234 := zG HB hg; have GE234 := zG HB hg; replace HB := Aside0.mk (below_step (zB HB) hb); have NB229_234 := Aside0.mk ((by rw [hg]; exact Nat.ne_of_lt (blk_lt (g := gb229) (o := .cells #[.bool false, .int .u64 0, .int .u64 0] 31 (0, 0)) (zK BK229)) : gb229 ≠ gb234)); have NB234_229 := Aside0.mk ((by rw [hg]; exact Nat.ne_of_gt (blk_lt (g := gb229) (o := .cells #[.bool false, .int .u64 0, .int .u64 0] 31 (0, 0)) (zK BK229)) : gb234 ≠ gb229)); replace BK229 := zkb BK229 hb; clear hb hbox hg; have hnb29 := NB234_229.out; have hnc29 := NB229_234.out; obtain ⟨hcz30_0, hcz30_1, hcz30_2⟩ := zc3 BK234; obtain ⟨hfz30_0, hfz30_1, hfz30_2⟩ := zf3 BK234) | ((with_reducible refine gate_callee (f := 134) rfl ?_); refine zgl 21 Tryz.func134 #[.string a0] ?_; (with_reducible refine (address_parse6.calls k a0 t235 t236 t237 false _ A13.out (WOK.below hW_ (zB HB))).mono ?_); rintro e w31 ⟨rfl, hb⟩; refine ⟨_, rfl, ?_⟩; replace BK229 := Aside0.mk (blk_below (g := gb229) (o := .cells #[.bool false, .int .u64 0, .int .u64 0] 31 (0, 0)) (by refine zL ?_; refine blk_far ?_ NB229_234.out _; refine zL ?_; refine blk_far ?_ NB229_234.out _; refine zL ?_; refine blk_far ?_ NB229_234.out _; refine zL ?_; exact BK229.out) hb); replace BK234 := Aside0.mk (blk_below (g := gb234) (o := .cells #[.bool t230, .int .u64 t231, .int .u64 t232] 31 (0, 0)) (by refine zL ?_; refine blk_put (cs := #[.bool t230, .int .u64 t231, .int .u64 0]) ?_ 2 _ rfl; refine zL ?_; refine blk_put (cs := #[.bool t230, .int .u64 0, .int .u64 0]) ?_ 1 _ rfl; refine zL ?_; refine blk_put (cs := #[.bool false, .int .u64 0, .int .u64 0]) ?_ 0 _ rfl; refine zL ?_; exact BK234.out) hb); replace HB := Aside0.mk (below_step (zB HB) hb); (try clear hb)) | ((with_reducible refine gate_dst (N := 6) rfl ?_); refine zx 6 #[.bool false, .int .u64 0, .int .u64 0] 31 ?_; intro gb239 hg w32 hbox hb; have BK239 := Aside0.mk (hbox); have GW239 := zG HB hg; have GE239 := zG HB hg; replace HB := Aside0.mk (below_step (zB HB) hb); have NB229_239 := Aside0.mk ((by rw [hg]; exact Nat.ne_of_lt (blk_lt (g := gb229) (o := .cells #[.bool false, .int .u64 0, .int .u64 0] 31 (0, 0)) (zK BK229)) : gb229 ≠ gb239)); have NB239_229 := Aside0.mk ((by rw [hg]; exact Nat.ne_of_gt (blk_lt (g := gb229) (o := .cells #[.bool false, .int .u64 0, .int .u64 0] 31 (0, 0)) (zK BK229)) : gb239 ≠ gb229)); replace BK229 := zkb BK229 hb; have NB234_239 := Aside0.mk ((by rw [hg]; exact Nat.ne_of_lt (blk_lt (g := gb234) (o := .cells #[.bool t230, .int .u64 t231, .int .u64 t232] 31 (0, 0)) (zK BK234)) : gb234 ≠ gb239)); have NB239_234 := Aside0.mk ((by rw [hg]; exact Nat.ne_of_gt (blk_lt (g := gb234) (o := .cells #[.bool t230, .int .u64 t231, .int .u64 t232] 31 (0, 0)) (zK BK234)) : gb239 ≠ gb234)); replace BK234 := zkb BK234 hb; clear hb hbox hg; have hnb33 := NB239_229.out; have hnc33 := NB229_239.out; have hnb34 := NB239_234.out; have hnc34 := NB234_239.out; obtain ⟨hcz35_0, hcz35_1, hcz35_2⟩ := zc3 BK239; obtain ⟨hfz35_0, hfz35_1, hfz35_2⟩ := zf3 BK239; obtain ⟨hcz36_0, hcz36_1, hcz36_2⟩ := zc3 BK229; obtain ⟨hfz36_0, hfz36_1, hfz36_2⟩ := zf3 BK229))
 refine bodyPost_ret (results_ct rfl _ _ gb229 31 #[.bool false, .int .u64 0, .int .u64 0] (0, 0) _ rfl (by refine zL ?_; refine blk_put (cs := #[.bool false, .int .u64 0, .int .u64 0]) ?_ 2 _ rfl; refine zL ?_; refine blk_put (cs := #[.bool false, .int .u64 0, .int .u64 0]) ?_ 1 _ rfl; refine zL ?_; refine blk_put (cs := #[.bool false, .int .u64 0, .int .u64 0]) ?_ 0 _ rfl; refine zL ?_; refine blk_far ?_ NB229_239.out _; refine zL ?_; refine blk_far ?_ NB229_239.out _; refine zL ?_; refine blk_far ?_ NB229_239.out _; refine zL ?_; exact BK229.out) Tryz.underlying31 rfl (by kernel_rfl)) rfl ?_
 exact ⟨zr, zB HB⟩
end Go.Proofs.YtnphnhkinjppjaaGreatDoor.Q
end

section
set_option maxHeartbeats 8000000
set_option maxRecDepth 100000
namespace Go.Proofs.YtnphnhkinjppjaaGreatDoor.Q
open Go.RowKit Go.Proofs.YtnphnhkinjppjaaGreatDoorW.PrintWords Go.Proofs.YtnphnhkinjppjaaGreatDoorW.PrintLast Go.Proofs.YtnphnhkinjppjaaGreatDoorW.PrintMore
attribute [local go_sem] max2_int min2_int max_two min_two max_three min_three max_four min_four
mutual
def address_digits.j0 : Nat → ByteArray → Bool → Option (Int × Bool)
  | 0, _, _ => none
  | k + 1, x0, x17 => if x17 = true then (some (0, false)) else (address_digits.l0 k x0 0 (x0.size : Int) 0)
def address_digits.l0 : Nat → ByteArray → Int → Int → Int → Option (Int × Bool)
  | 0, _, _, _, _ => none
  | k + 1, x0, x4, x19, x20 => if x20 < x19 then (if 0 ≤ x20 then (if x20 < (x0.size : Int) then (if (bt x0 x20) < 48 then (some (0, false)) else (if (bt x0 x20) > 57 then (some (0, false)) else (address_digits.l0 k x0 (mn 1000 (wrap64 ((wrap64 (x4 * 10)) + (((bt x0 x20) - 48) % 256)))) x19 (wrap64 (x20 + 1))))) else (none)) else (none)) else (some (x4, true))
end
def address_digits.f (k : Nat) (a0 : ByteArray) : Option (Int × Bool) := if a0.toList = ([] : List UInt8) then (address_digits.j0 k a0 true) else (if 0 < (a0.size : Int) then (if (bt a0 0) = 48 then (address_digits.j0 k a0 (decide ((a0.size : Int) > 1))) else (address_digits.j0 k a0 false)) else (none))
theorem address_digits.mono_l : ∀ k, (∀ y0 y1, LeO (address_digits.j0 k y0 y1) (address_digits.j0 (k + 1) y0 y1)) ∧ (∀ y0 y1 y2 y3, LeO (address_digits.l0 k y0 y1 y2 y3) (address_digits.l0 (k + 1) y0 y1 y2 y3))
  | 0 => ⟨fun _ _ r h => by simp [address_digits.j0] at h, fun _ _ _ _ r h => by simp [address_digits.l0] at h⟩
  | k + 1 => by
    obtain ⟨ih0, ih1⟩ := address_digits.mono_l k
    refine ⟨?_, ?_⟩
    · intro y0 y1
      unfold address_digits.j0
      repeat' first
      | (with_reducible exact ih0 _ _)
      | (with_reducible exact ih1 _ _ _ _)
      | (with_reducible exact LeO.refl _)
      | (with_reducible exact LeO.none _)
      | (with_reducible refine LeO.ite ?_ ?_)
      | (with_reducible refine LeO.bind ?_ (fun _ => ?_))
    · intro y0 y1 y2 y3
      unfold address_digits.l0
      repeat' first
      | (with_reducible exact ih0 _ _)
      | (with_reducible exact ih1 _ _ _ _)
      | (with_reducible exact LeO.refl _)
      | (with_reducible exact LeO.none _)
      | (with_reducible refine LeO.ite ?_ ?_)
      | (with_reducible refine LeO.bind ?_ (fun _ => ?_))
theorem address_digits.mono : ∀ a0 k, LeO (address_digits.f k a0) (address_digits.f (k + 1) a0) := by
  intro a0 k
  obtain ⟨ih0, ih1⟩ := address_digits.mono_l k
  unfold address_digits.f
  repeat' first
      | (with_reducible exact ih0 _ _)
      | (with_reducible exact ih1 _ _ _ _)
      | (with_reducible exact LeO.refl _)
      | (with_reducible exact LeO.none _)
      | (with_reducible refine LeO.ite ?_ ?_)
      | (with_reducible refine LeO.bind ?_ (fun _ => ?_))
theorem address_digits.calls (k : Nat) (a0 : ByteArray) (r1 : Int) (r2 : Bool) (w : World) (h : address_digits.f k a0 = some (r1, r2)) :
 Calls Tryz.prog 106 #[.string a0] w fun e w' => e = .returned (.tuple #[.int .i64 r1, .bool r2]) ∧ Below w.heap.size w w' := by
 have HB := Aside0.mk (Below.refl w.heap.size w)
 unfold address_digits.f at h; have H := h
 clear h; have HC2 := Aside0.mk H; clear H
 go_enter Tryz.func106, Tryz.ntmps106
 go_upto_region 1 with (fail)
 go_cut [17] (fun v17 wc => ∃ (kq : Nat) (x17_1 : Bool), v17 = .bool x17_1 ∧ Aside0 (address_digits.j0 kq a0 x17_1 = some (r1, r2)) ∧ Aside0 (kq ≤ k) ∧ Aside0 (Below w.heap.size w wc))
 case first =>
  have H := HC2.out
  clear HC2
  by_cases c3 : a0.toList = ([] : List UInt8)
  · rw [if_pos c3] at H
    have c3b0 : (a0.toList == ([] : List UInt8)) = true := beq_iff_eq.mpr c3; have c3b1 : (a0.toList != ([] : List UInt8)) = false := bne_eq_false_iff_eq.mpr c3; clear c3
    (first | rw [c3b0] | (simp only [i64_w, i32_w]; rw [c3b0]) | skip)
    have H' := Aside0.mk H
    clear H
    go_wp2
    go_meet
    case rel => exact ⟨_, (true), zI, H', ⟨by first | omega | exact Nat.le_refl _⟩, ⟨zB HB⟩⟩
  rw [if_neg c3] at H
  have c3b0 : (a0.toList == ([] : List UInt8)) = false := beq_eq_false_iff_ne.mpr c3
  have c3b1 : (a0.toList != ([] : List UInt8)) = true := bne_iff_ne.mpr c3
  (first | rw [c3b0] | (simp only [i64_w, i32_w]; rw [c3b0]) | skip)
  by_cases c4 : 0 < (a0.size : Int)
  rotate_left
  · rw [if_neg c4] at H
    exact absurd H (by simp)
  rw [if_pos c4] at H; have c4b0 : decide (0 < (a0.size : Int)) = true := decide_eq_true c4
  have c4b1 : decide (0 < a0.size) = true := decide_eq_true (by omega)
  clear c4
  by_cases c6 : (bt a0 0) = 48
  · rw [if_pos c6] at H
    have c6b0 : ((bt a0 0) == 48) = true := beq_iff_eq.mpr c6; have c6b1 : ((bt a0 0) != 48) = false := bne_eq_false_iff_eq.mpr c6; clear c6
    have H' := Aside0.mk H
    clear H
    have p5 : 0 ≤ (0 : Int) := (by omega)
    have q5 : 0 < a0.size := (by have : (0 : Int) < (a0.size : Int) := za; omega)
    have hx5 : ∀ h : 0 < a0.size, ((a0[0]'h).toNat : Int) = bt a0 0 := bt_at a0 0
    clear p5
    have qi5 : (0 < (a0.size : Int)) = True := eq_true (of_decide_eq_true (by first | (with_reducible assumption) | assumption))
    replace q5 := eq_true q5
    go_wp2
    go_meet
    case rel => exact ⟨_, (decide ((a0.size : Int) > 1)), zI, H', ⟨by first | omega | exact Nat.le_refl _⟩, ⟨zB HB⟩⟩
  rw [if_neg c6] at H
  have c6b0 : ((bt a0 0) == 48) = false := beq_eq_false_iff_ne.mpr c6
  have c6b1 : ((bt a0 0) != 48) = true := bne_iff_ne.mpr c6
  have H' := Aside0.mk H
  clear H
  have p5 : 0 ≤ (0 : Int) := (by omega)
  have q5 : 0 < a0.size := (by have : (0 : Int) < (a0.size : Int) := za; omega)
  have hx5 : ∀ h : 0 < a0.size, ((a0[0]'h).toNat : Int) = bt a0 0 := bt_at a0 0
  clear p5
  have qi5 : (0 < (a0.size : Int)) = True := eq_true (of_decide_eq_true (by first | (with_reducible assumption) | assumption))
  replace q5 := eq_true q5
  go_wp2
  go_meet
  case rel => exact ⟨_, (false), zI, H', ⟨by first | omega | exact Nat.le_refl _⟩, ⟨zB HB⟩⟩
 case rest =>
  clear HC2
  obtain ⟨kq, x17_1, rfl, HA, HJ1, HB⟩ := hcut
  rcases kq with _ | kj1
  · exact absurd HA.out (by simp [address_digits.j0])
  have H := HA.out
  clear HA
  simp only [address_digits.j0] at H
  by_cases c7 : x17_1 = true
  · subst c7
    rw [if_pos rfl] at H
    simp only [Option.some.injEq, Prod.mk.injEq] at H
    obtain ⟨rfl, rfl⟩ := H
    go_wp2
    go_ret2
    exact ⟨zr, zB HB⟩
  replace c7 := Bool.eq_false_iff.mpr c7
  subst c7; rw [if_neg zF] at H
  have H' := Aside0.mk H
  clear H
  go_wp2
  go_loopg [4, 20] kj1 (fun kq v4 v20 w' => ∃ (x4_2 : Int) (x20_2 : Int), v4 = .int .i64 x4_2 ∧ v20 = .int .i64 x20_2 ∧ Aside0 (address_digits.l0 kq a0 x4_2 (a0.size : Int) x20_2 = some (r1, r2)) ∧ Aside0 (kq ≤ kj1) ∧ Aside0 (Below w.heap.size w w'))
  case atStart => exact ⟨(0), (0), zI, zI, H', ⟨Nat.le_refl _⟩, ⟨zB HB⟩⟩
  case round =>
   clear H'
   try clear c7
   obtain ⟨x4_2, x20_2, rfl, rfl, HA, HK2, HB⟩ := hrel
   rcases gk with _ | k2
   · exact absurd HA.out (by simp [address_digits.l0])
   have H := HA.out
   clear HA
   simp only [address_digits.l0] at H
   by_cases c8 : x20_2 < (a0.size : Int)
   rotate_left
   · rw [if_neg c8] at H
     have c8b0 : decide (x20_2 < (a0.size : Int)) = false := decide_eq_false c8; clear c8
     simp only [Option.some.injEq, Prod.mk.injEq] at H
     obtain ⟨rfl, rfl⟩ := H
     go_wp2
     go_ret2
     exact ⟨zr, zB HB⟩
   rw [if_pos c8] at H
   have c8b0 : decide (x20_2 < (a0.size : Int)) = true := decide_eq_true c8; clear c8
   by_cases c9 : 0 ≤ x20_2
   rotate_left
   · rw [if_neg c9] at H
     exact absurd H (by simp)
   rw [if_pos c9] at H
   have c9b0 : decide (0 ≤ x20_2) = true := decide_eq_true c9; clear c9
   by_cases c10 : x20_2 < (a0.size : Int)
   rotate_left
   · rw [if_neg c10] at H
     exact absurd H (by simp)
   rw [if_pos c10] at H
   have c10b0 : decide (x20_2 < (a0.size : Int)) = true := decide_eq_true c10; clear c10
   by_cases c12 : (bt a0 x20_2) < 48
   · rw [if_pos c12] at H
     have c12b0 : decide ((bt a0 x20_2) < 48) = true := decide_eq_true c12; clear c12
     simp only [Option.some.injEq, Prod.mk.injEq] at H
     obtain ⟨rfl, rfl⟩ := H
     have p11 : 0 ≤ (x20_2 : Int) := za
     have q11 : x20_2 < (a0.size : Int) := za
     have hx11 := bt_at a0 x20_2
     replace p11 := eq_true p11
     replace q11 := eq_true q11
     go_wp2
     go_ret2
     exact ⟨zr, zB HB⟩
   rw [if_neg c12] at H
   have c12b0 : decide ((bt a0 x20_2) < 48) = false := decide_eq_false c12; clear c12
   by_cases c14 : (bt a0 x20_2) > 57
   · rw [if_pos c14] at H
     have c14b0 : decide (57 < (bt a0 x20_2)) = true := decide_eq_true c14; clear c14
     simp only [Option.some.injEq, Prod.mk.injEq] at H
     obtain ⟨rfl, rfl⟩ := H
     have p11 : 0 ≤ (x20_2 : Int) := za
     have q11 : x20_2 < (a0.size : Int) := za
     have hx11 := bt_at a0 x20_2
     replace p11 := eq_true p11
     replace q11 := eq_true q11
     have p13 : 0 ≤ (x20_2 : Int) := za
     have q13 : x20_2 < (a0.size : Int) := za
     have hx13 := bt_at a0 x20_2
     replace p13 := eq_true p13
     replace q13 := eq_true q13
     go_wp2
     go_ret2
     exact ⟨zr, zB HB⟩
   rw [if_neg c14] at H
   have c14b0 : decide (57 < (bt a0 x20_2)) = false := decide_eq_false c14; clear c14
   obtain ⟨ji16, hji16⟩ : ∃ j_ : Int, (mn 1000 (wrap64 ((wrap64 (x4_2 * 10)) + (((bt a0 x20_2) - 48) % 256)))) = j_ := ⟨_, rfl⟩
   replace H : (address_digits.l0 k2 a0 ji16 (a0.size : Int) (wrap64 (x20_2 + 1))) = some (r1, r2) := by first | (rw [hji16] at H; exact H) | (simp only [hji16] at H ⊢; exact H)
   have hji16_ : (if (wrap64 ((wrap64 (x4_2 * 10)) + (((bt a0 x20_2) - 48) % 256))) < 1000 then (wrap64 ((wrap64 (x4_2 * 10)) + (((bt a0 x20_2) - 48) % 256))) else 1000) = ji16 := hji16
   have H' := Aside0.mk H
   clear H
   have p11 : 0 ≤ (x20_2 : Int) := za
   have q11 : x20_2 < (a0.size : Int) := za
   have hx11 := bt_at a0 x20_2
   replace p11 := eq_true p11
   replace q11 := eq_true q11
   have p13 : 0 ≤ (x20_2 : Int) := za
   have q13 : x20_2 < (a0.size : Int) := za
   have hx13 := bt_at a0 x20_2
   replace p13 := eq_true p13
   replace q13 := eq_true q13
   have p15 : 0 ≤ (x20_2 : Int) := za
   have q15 : x20_2 < (a0.size : Int) := za
   have hx15 := bt_at a0 x20_2
   replace p15 := eq_true p15
   replace q15 := eq_true q15
   go_wp2
   go_roundg k2
   case measure => have := HJ1.out; have := HK2.out; omega
   case rel => exact ⟨(ji16), (wrap64 (x20_2 + 1)), (by first | rfl | (simp; done) | (simp only [← hji16] <;> (first | rfl | simp)) | (simp [*]; done)), zI, (by first | exact H' | (rw [hji16]; exact H') | (rw [← hji16]; exact H') | (simp only [hji16] at H' ⊢; exact H') | (simp only [← hji16] at H' ⊢; exact H')), ⟨by have := HJ1.out; have := HK2.out; omega⟩, ⟨zB HB⟩⟩
def address_ParsePrefix.f (k : Nat) (a0 : ByteArray) : Option (Bool × Int × Int × Int × Int) := if (a0.size : Int) > 64 then (some (false, 0, 0, 0, 3)) else ((strings_Cut.f a0 (⟨#[47]⟩ : ByteArray)).bind fun bt241 => ((address_Parse.f k bt241.1).bind fun bt244 => (if bt244.2.2.2 = 0 then ((address_size.f bt244.1 bt244.2.1 bt244.2.2.1).bind fun t249 => (if bt241.2.2 = true then ((address_digits.f k bt241.2.1).bind fun bt251 => (if bt251.2 = true then ((address_size.f bt244.1 bt244.2.1 bt244.2.2.1).bind fun t253 => (if bt251.1 > t253 then (some (false, 0, 0, 0, 4)) else ((address_ValidPrefix.f bt244.1 bt244.2.1 bt244.2.2.1 bt251.1).bind fun t254 => (if t254 = true then (some (bt244.1, bt244.2.1, bt244.2.2.1, bt251.1, 0)) else (some (false, 0, 0, 0, 2)))))) else (some (false, 0, 0, 0, 2)))) else ((address_ValidPrefix.f bt244.1 bt244.2.1 bt244.2.2.1 t249).bind fun t255 => (if t255 = true then (some (bt244.1, bt244.2.1, bt244.2.2.1, t249, 0)) else (some (false, 0, 0, 0, 2)))))) else (some (false, 0, 0, 0, 2)))))
theorem address_ParsePrefix.mono : ∀ a0 k, LeO (address_ParsePrefix.f k a0) (address_ParsePrefix.f (k + 1) a0) := by
  intro a0 k
  unfold address_ParsePrefix.f
  repeat' first
      | (with_reducible exact address_Parse.mono _ _)
      | (with_reducible exact address_digits.mono _ _)
      | (with_reducible exact LeO.refl _)
      | (with_reducible exact LeO.none _)
      | (with_reducible refine LeO.ite ?_ ?_)
      | (with_reducible refine LeO.bind ?_ (fun _ => ?_))
theorem put4 {w : World} {g : Nat} {t : TypeId} {u0 u1 u2 u3 v0 v1 v2 v3 : Value} (h : w.heap[g]? = some (.cells #[u0, u1, u2, u3] t (0, 0))) : ((((w.setCell ⟨g, 0, none⟩ v0).setCell ⟨g, 1, none⟩ v1).setCell ⟨g, 2, none⟩ v2).setCell ⟨g, 3, none⟩ v3).heap[g]? = some (.cells #[v0, v1, v2, v3] t (0, 0)) := by
  refine blk_put (cs := #[v0, v1, v2, u3]) ?_ 3 _ rfl
  refine blk_put (cs := #[v0, v1, u2, u3]) ?_ 2 _ rfl
  refine blk_put (cs := #[v0, u1, u2, u3]) ?_ 1 _ rfl
  refine blk_put (cs := #[u0, u1, u2, u3]) ?_ 0 _ rfl
  exact h
theorem far4 {w : World} {g h : Nat} {o : Obj} {v0 v1 v2 v3 : Value} (hh : w.heap[h]? = some o) (hne : h ≠ g) : ((((w.setCell ⟨g, 0, none⟩ v0).setCell ⟨g, 1, none⟩ v1).setCell ⟨g, 2, none⟩ v2).setCell ⟨g, 3, none⟩ v3).heap[h]? = some o := by
  repeat (refine (Below.heap_setCell _ _ _ _ hne).trans ?_)
  exact hh
theorem below4 {w W : World} {g : Nat} {v0 v1 v2 v3 : Value} (h : Below w.heap.size w W) (hg : w.heap.size ≤ g) : Below w.heap.size w ((((W.setCell ⟨g, 0, none⟩ v0).setCell ⟨g, 1, none⟩ v1).setCell ⟨g, 2, none⟩ v2).setCell ⟨g, 3, none⟩ v3) := by
  repeat (refine below_set ?_ hg)
  exact h
theorem address_ParsePrefix.calls (k : Nat) (a0 : ByteArray) (r1 : Bool) (r2 : Int) (r3 : Int) (r4 : Int) (r5 : Int) (w : World) (h : address_ParsePrefix.f k a0 = some (r1, r2, r3, r4, r5)) (hW_ : WOK w) :
 Calls Tryz.prog 72 #[.string a0] w fun e w' => e = .returned (.tuple #[.agg #[.bool r1, .int .u64 r2, .int .u64 r3, .int .i64 r4], .int .i64 r5]) ∧ Below w.heap.size w w' := by
  have hu33 := Tryz.underlying33
  have hu31 := Tryz.underlying31
  have HW := Aside0.mk hW_; clear hW_; have HB := Aside0.mk (Below.refl w.heap.size w)
  unfold address_ParsePrefix.f at h
  have HH := Aside0.mk h; clear h
  go_enter Tryz.func72, Tryz.ntmps72
  go_upto_region 1 with (fail)
  have HY : Aside0 ((w.alloc (.cells #[.bool false, .int .u64 0, .int .u64 0, .int .i64 0] 33)).heap[w.heap.size]? = some (.cells #[.bool false, .int .u64 0, .int .u64 0, .int .i64 0] 33 (0, 0))) := ⟨heap_alloc_new _ _⟩
  replace HB := Aside0.mk (below_alloc HB.out (.cells #[.bool false, .int .u64 0, .int .u64 0, .int .i64 0] 33))
  obtain ⟨gr, hg⟩ : ∃ x, w.heap.size = x := ⟨_, rfl⟩
  have HYE := Aside0.mk hg
  rw [hg] at HY
  simp only [hg]
  clear hg
  change Code.wp _ _ _ _ (w.alloc (.cells #[.bool false, .int .u64 0, .int .u64 0, .int .i64 0] 33))
  generalize w.alloc (.cells #[.bool false, .int .u64 0, .int .u64 0, .int .i64 0] 33) = W1 at HY HB ⊢
  have HG : Aside0 (w.heap.size ≤ gr) := ⟨by rw [HYE.out]; exact Nat.le_refl _⟩
  have h := HH.out
  clear HH HYE
  by_cases c2 : (a0.size : Int) > 64
  · rw [if_pos c2] at h
    have c2a : decide (64 < (a0.size : Int)) = true := decide_eq_true c2
    have c2b : decide (64 < a0.size) = true := decide_eq_true (by omega)
    clear c2
    simp only [Option.some.injEq, Prod.mk.injEq] at h
    obtain ⟨rfl, rfl, rfl, rfl, rfl⟩ := h
    obtain ⟨x0, x1, x2, x3⟩ := zc4 HY; obtain ⟨f0, f1, f2, f3⟩ := zf4 HY
    go_wp2
    exact bodyPost_ret (results_ct rfl _ _ gr 33 #[.bool false, .int .u64 0, .int .u64 0, .int .i64 0] (0, 0) _ rfl (put4 HY.out) hu33 rfl (by kernel_rfl)) rfl ⟨rfl, below4 HB.out HG.out⟩
  rw [if_neg c2] at h
  have c2a : decide (64 < (a0.size : Int)) = false := decide_eq_false c2
  have c2b : decide (64 < a0.size) = false := decide_eq_false (by omega)
  clear c2
  replace h := Option.bind_eq_some_iff.mp h
  obtain ⟨⟨t1, t2, t3⟩, e1, h⟩ := h
  replace h := Option.bind_eq_some_iff.mp h
  obtain ⟨⟨b0, b1, b2, er⟩, e2, h⟩ := h
  try dsimp only at e1 e2 h
  have HH := Aside0.mk h; have E1 := Aside0.mk e1; have E2 := Aside0.mk e2; clear h e1 e2
  go_wp2_with fail
  refine (strings_Cut.calls a0 _ t1 t2 t3 W1 E1.out (HW.out.below HB.out)).mono ?_
  rintro e w2 ⟨rfl, hb⟩
  replace HY := Aside0.mk (blk_below HY.out hb); replace HB := Aside0.mk (below_then HB.out HB.out.size hb); clear hb; clear c2a c2b
  go_wp2_with fail
  refine (address_Parse.calls k t1 b0 b1 b2 er w2 E2.out (HW.out.below HB.out)).mono ?_
  rintro e w3 ⟨rfl, hb⟩
  replace HY := Aside0.mk (blk_below HY.out hb); replace HB := Aside0.mk (below_then HB.out HB.out.size hb); clear hb
  go_upto_region 5 with (fail)
  have HA : Aside0 ((w3.alloc (.cells #[.bool b0, .int .u64 b1, .int .u64 b2] 31)).heap[w3.heap.size]? = some (.cells #[.bool b0, .int .u64 b1, .int .u64 b2] 31 (0, 0))) := ⟨heap_alloc_new _ _⟩
  replace HY := Aside0.mk (blk_alloc HY.out (.cells #[.bool b0, .int .u64 b1, .int .u64 b2] 31)); replace HB := Aside0.mk (below_alloc HB.out (.cells #[.bool b0, .int .u64 b1, .int .u64 b2] 31))
  obtain ⟨ga, hg⟩ : ∃ x, w3.heap.size = x := ⟨_, rfl⟩
  have HAE := Aside0.mk hg
  rw [hg] at HA
  simp only [hg]
  clear hg
  change Code.wp _ _ _ _ (w3.alloc (.cells #[.bool b0, .int .u64 b1, .int .u64 b2] 31))
  generalize w3.alloc (.cells #[.bool b0, .int .u64 b1, .int .u64 b2] 31) = W4 at HA HY HB ⊢
  clear HAE
  have h := HH.out
  clear HH
  by_cases c3 : er = 0
  rotate_left
  · rw [if_neg c3] at h
    have c3a : (er != 0) = true := bne_iff_ne.mpr c3; clear c3
    simp only [Option.some.injEq, Prod.mk.injEq] at h
    obtain ⟨rfl, rfl, rfl, rfl, rfl⟩ := h
    obtain ⟨x0, x1, x2, x3⟩ := zc4 HY; obtain ⟨f0, f1, f2, f3⟩ := zf4 HY
    go_wp2
    exact bodyPost_ret (results_ct rfl _ _ gr 33 #[.bool false, .int .u64 0, .int .u64 0, .int .i64 0] (0, 0) _ rfl (put4 HY.out) hu33 rfl (by kernel_rfl)) rfl ⟨rfl, below4 HB.out HG.out⟩
  rw [if_pos c3] at h
  have c3a : (er != 0) = false := bne_eq_false_iff_eq.mpr c3; clear c3
  replace h := Option.bind_eq_some_iff.mp h
  obtain ⟨sz, e3, h⟩ := h
  have E3 := Aside0.mk e3; have HH := Aside0.mk h; clear h e3
  go_upto_region 7 with (fail)
  refine start_ (n := 6) (S := fun w' => w'.cell? ⟨ga, 0, none⟩ = some (.bool b0) ∧ w'.cell? ⟨ga, 1, none⟩ = some (.int .u64 b1) ∧ w'.cell? ⟨ga, 2, none⟩ = some (.int .u64 b2)) (ds := [5]) #[false, false, false, false, false, false] (by kernel_rfl) rfl rfl ⟨zc HA 0, zc HA 1, zc HA 2⟩ (fun hHeld => ?_)
  replace HY := Aside0.mk (blk_below HY.out (below_drew (Below.refl _ _))); replace HA := Aside0.mk (blk_below HA.out (below_drew (Below.refl _ _))); replace HB := Aside0.mk (below_drew HB.out)
  generalize W4.drew = V4 at HY HA HB hHeld ⊢
  refine zt0 0 30 hHeld ?_
  refine zt0 1 31 hHeld ?_
  refine join_ (σ := Nat) 1 #[true, true, true, true, true, false] (fun s_ => [(32, .int .i64 sz), (9, .pointer (some ⟨s_, 0, none⟩)), (33, .agg #[.bool b0, .int .u64 b1, .int .u64 b2, .int .i64 sz])]) (fun s_ w' => (w'.cell? ⟨ga, 0, none⟩ = some (.bool b0) ∧ w'.cell? ⟨ga, 1, none⟩ = some (.int .u64 b1) ∧ w'.cell? ⟨ga, 2, none⟩ = some (.int .u64 b2)) ∧ (w'.heap[gr]? = some (.cells #[.bool false, .int .u64 0, .int .u64 0, .int .i64 0] 33 (0, 0))) ∧ (w'.heap[ga]? = some (.cells #[.bool b0, .int .u64 b1, .int .u64 b2] 31 (0, 0))) ∧ (w'.heap[s_]? = some (.cells #[.bool false, .int .u64 0, .int .u64 0, .int .i64 0] 33 (0, 0))) ∧ (s_ ≠ gr ∧ w.heap.size ≤ s_ ∧ gr ≠ s_ ∧ ga ≠ s_) ∧ (Below w.heap.size w w')) ?_ ?_
  rotate_left
  · intro hCont
    refine two_ (i := 2) (j := 4) (Ni := some 32) (Nj := some 9) #[true, true, true, false, false, false] #[true, true, false, false, true, false] rfl rfl rfl rfl (by kernel_rfl) (by decide) (by decide) (fun K hK => ?_) (fun K hK => ?_)
    · skip
      refine zg Tryz.func92 #[.agg #[.bool b0, .int .u64 b1, .int .u64 b2]] ?_
      refine (address_size.calls b0 b1 b2 sz V4 E3.out).mono ?_
      rintro e w5 ⟨rfl, hb⟩
      refine ⟨_, rfl, ?_⟩
      replace HY := Aside0.mk (blk_below HY.out hb); replace HA := Aside0.mk (blk_below HA.out hb); replace HB := Aside0.mk (below_then HB.out HB.out.size hb)
      refine hK.out _ _ ⟨zc HA 0, zc HA 1, zc HA 2⟩ (fun hHeld => ?_)
      clear hK K
      refine zn 32 ?_
      refine zp0 3 33 ?_
      refine zo0 4 9 (fun K hK => ?_)
      refine value_ (w1 := ?_) (v := ?_) (by rfl) rfl ?_ ?_
      rotate_left 2
      · go_simp
        constructor
        · rfl
        rfl
      have HP : Aside0 ((w5.alloc (.cells #[.bool false, .int .u64 0, .int .u64 0, .int .i64 0] 33)).heap[w5.heap.size]? = some (.cells #[.bool false, .int .u64 0, .int .u64 0, .int .i64 0] 33 (0, 0))) := ⟨heap_alloc_new _ _⟩
      have HPN : Aside0 (w5.heap.size ≠ gr ∧ w.heap.size ≤ w5.heap.size ∧ gr ≠ w5.heap.size ∧ ga ≠ w5.heap.size) := ⟨by have h1 := blk_lt HY.out; omega, HB.out.size, by have h1 := blk_lt HY.out; omega, by have h1 := blk_lt HA.out; omega⟩
      replace HY := Aside0.mk (blk_alloc HY.out (.cells #[.bool false, .int .u64 0, .int .u64 0, .int .i64 0] 33)); replace HA := Aside0.mk (blk_alloc HA.out (.cells #[.bool false, .int .u64 0, .int .u64 0, .int .i64 0] 33)); replace HB := Aside0.mk (below_alloc HB.out (.cells #[.bool false, .int .u64 0, .int .u64 0, .int .i64 0] 33))
      refine hK.out _ _ ⟨zc HA 0, zc HA 1, zc HA 2⟩ (fun hHeld => ?_)
      clear hK K
      refine zn 9 ?_
      exact norm_ (by simp only [putAll, Act.put, List.setIfInBounds_toArray, List.set_cons_zero, List.set_cons_succ]) (hCont w5.heap.size _ ⟨hHeld, HY.out, HA.out, HP.out, HPN.out, HB.out⟩)
    skip
    refine value_ (w1 := ?_) (v := ?_) (by rfl) rfl ?_ ?_
    rotate_left 2
    · go_simp
      constructor
      · rfl
      rfl
    have HP : Aside0 ((V4.alloc (.cells #[.bool false, .int .u64 0, .int .u64 0, .int .i64 0] 33)).heap[V4.heap.size]? = some (.cells #[.bool false, .int .u64 0, .int .u64 0, .int .i64 0] 33 (0, 0))) := ⟨heap_alloc_new _ _⟩
    have HPN : Aside0 (V4.heap.size ≠ gr ∧ w.heap.size ≤ V4.heap.size ∧ gr ≠ V4.heap.size ∧ ga ≠ V4.heap.size) := ⟨by have h1 := blk_lt HY.out; omega, HB.out.size, by have h1 := blk_lt HY.out; omega, by have h1 := blk_lt HA.out; omega⟩
    replace HY := Aside0.mk (blk_alloc HY.out (.cells #[.bool false, .int .u64 0, .int .u64 0, .int .i64 0] 33)); replace HA := Aside0.mk (blk_alloc HA.out (.cells #[.bool false, .int .u64 0, .int .u64 0, .int .i64 0] 33)); replace HB := Aside0.mk (below_alloc HB.out (.cells #[.bool false, .int .u64 0, .int .u64 0, .int .i64 0] 33))
    refine hK.out _ _ ⟨zc HA 0, zc HA 1, zc HA 2⟩ (fun hHeld => ?_)
    clear hK K
    refine zn 9 ?_
    refine zo0 2 32 (fun K hK => ?_)
    refine zg Tryz.func92 #[.agg #[.bool b0, .int .u64 b1, .int .u64 b2]] ?_
    refine (address_size.calls b0 b1 b2 sz (V4.alloc (.cells #[.bool false, .int .u64 0, .int .u64 0, .int .i64 0] 33)) E3.out).mono ?_
    rintro e w5 ⟨rfl, hb⟩
    refine ⟨_, rfl, ?_⟩
    replace HY := Aside0.mk (blk_below HY.out hb); replace HA := Aside0.mk (blk_below HA.out hb); replace HB := Aside0.mk (below_then HB.out HB.out.size hb)
    refine hK.out _ _ ⟨zc HA 0, zc HA 1, zc HA 2⟩ (fun hHeld => ?_)
    clear hK K
    refine zn 32 ?_
    refine zp0 3 33 ?_
    replace HP := Aside0.mk (blk_below HP.out hb)
    exact norm_ (by simp only [putAll, Act.put, List.setIfInBounds_toArray, List.set_cons_zero, List.set_cons_succ]) (hCont V4.heap.size _ ⟨hHeld, HY.out, HA.out, HP.out, HPN.out, HB.out⟩)
  rintro gp V5 ⟨hHeld, hy, ha, hp, hpn, hb⟩
  clear HY HA HB; have HY := Aside0.mk hy; have HA := Aside0.mk ha; have HP := Aside0.mk hp; have HPN := Aside0.mk hpn; have HB := Aside0.mk hb; clear hy ha hp hpn hb
  refine norm_ (a' := ?_) ?_ ?_
  rotate_left
  · simp only [putAll, Act.put, List.setIfInBounds_toArray, List.set_cons_zero, List.set_cons_succ]
    rfl
  obtain ⟨p0, p1, p2, p3⟩ := zc4 HP; obtain ⟨f0, f1, f2, f3⟩ := zf4 HP
  refine last_ (i := 5) (N := none) #[true, true, true, true, true, true] rfl rfl (by kernel_rfl) (by decide) (fun K hK => ?_)
  refine skip_ (w1 := ?_) (by rfl) rfl ?_ ?_
  rotate_left
  · go_simp
    rfl
  refine hK.out _ _ ?_
  clear hK K p0 p1 p2 p3 f0 f1 f2 f3 c3a
  refine zd0 ?_
  replace HP := Aside0.mk (put4 (v0 := .bool b0) (v1 := .int .u64 b1) (v2 := .int .u64 b2) (v3 := .int .i64 sz) HP.out); replace HY := Aside0.mk (far4 (v0 := .bool b0) (v1 := .int .u64 b1) (v2 := .int .u64 b2) (v3 := .int .i64 sz) HY.out HPN.out.2.2.1); replace HA := Aside0.mk (far4 (v0 := .bool b0) (v1 := .int .u64 b1) (v2 := .int .u64 b2) (v3 := .int .i64 sz) HA.out HPN.out.2.2.2); replace HB := Aside0.mk (below4 (v0 := .bool b0) (v1 := .int .u64 b1) (v2 := .int .u64 b2) (v3 := .int .i64 sz) HB.out HPN.out.2.1)
  generalize (((V5.setCell ⟨gp, 0, none⟩ (.bool b0)).setCell ⟨gp, 1, none⟩ (.int .u64 b1)).setCell ⟨gp, 2, none⟩ (.int .u64 b2)).setCell ⟨gp, 3, none⟩ (.int .i64 sz) = W6 at HP HY HA HB ⊢
  have h := HH.out
  clear HH
  by_cases c4 : t3 = true
  rotate_left
  · rw [if_neg c4] at h
    rw [Bool.not_eq_true] at c4
    subst c4; clear HA
    replace h := Option.bind_eq_some_iff.mp h
    obtain ⟨ok, e7, h⟩ := h
    obtain ⟨p0, p1, p2, p3⟩ := zc4 HP
    go_wp2_with fail
    refine (address_ValidPrefix.calls b0 b1 b2 sz ok W6 e7).mono ?_
    rintro e w9 ⟨rfl, hb⟩
    clear p0 p1 p2 p3; replace HY := Aside0.mk (blk_below HY.out hb); replace HP := Aside0.mk (blk_below HP.out hb); replace HB := Aside0.mk (below_then HB.out HB.out.size hb); clear hb
    cases ok
    · rw [if_neg Bool.false_ne_true] at h
      simp only [Option.some.injEq, Prod.mk.injEq] at h
      obtain ⟨rfl, rfl, rfl, rfl, rfl⟩ := h
      obtain ⟨x0, x1, x2, x3⟩ := zc4 HY; obtain ⟨f0, f1, f2, f3⟩ := zf4 HY
      go_wp2
      exact bodyPost_ret (results_ct rfl _ _ gr 33 #[.bool false, .int .u64 0, .int .u64 0, .int .i64 0] (0, 0) _ rfl (put4 HY.out) hu33 rfl (by kernel_rfl)) rfl ⟨rfl, below4 HB.out HG.out⟩
    rw [if_pos rfl] at h
    simp only [Option.some.injEq, Prod.mk.injEq] at h
    obtain ⟨rfl, rfl, rfl, rfl, rfl⟩ := h
    obtain ⟨p0, p1, p2, p3⟩ := zc4 HP; obtain ⟨x0, x1, x2, x3⟩ := zc4 HY; obtain ⟨f0, f1, f2, f3⟩ := zf4 HY
    go_wp2
    exact bodyPost_ret (results_ct rfl _ _ gr 33 #[.bool b0, .int .u64 b1, .int .u64 b2, .int .i64 sz] (0, 0) _ rfl (put4 HY.out) hu33 rfl (by kernel_rfl)) rfl ⟨rfl, below4 HB.out HG.out⟩
  rw [if_pos c4] at h
  subst c4
  replace h := Option.bind_eq_some_iff.mp h
  obtain ⟨⟨n, okd⟩, e4, h⟩ := h
  try dsimp only at e4 h
  have E4 := Aside0.mk e4; have HH := Aside0.mk h; clear h e4
  go_wp2_with fail
  refine (address_digits.calls k t2 n okd W6 E4.out).mono ?_
  rintro e w7 ⟨rfl, hb⟩
  replace HY := Aside0.mk (blk_below HY.out hb); replace HA := Aside0.mk (blk_below HA.out hb); replace HP := Aside0.mk (blk_below HP.out hb); replace HB := Aside0.mk (below_then HB.out HB.out.size hb); clear hb
  have h := HH.out
  clear HH
  by_cases c5 : okd = true
  rotate_left
  · rw [if_neg c5] at h
    rw [Bool.not_eq_true] at c5
    subst c5
    simp only [Option.some.injEq, Prod.mk.injEq] at h
    obtain ⟨rfl, rfl, rfl, rfl, rfl⟩ := h
    obtain ⟨x0, x1, x2, x3⟩ := zc4 HY; obtain ⟨f0, f1, f2, f3⟩ := zf4 HY
    go_wp2
    exact bodyPost_ret (results_ct rfl _ _ gr 33 #[.bool false, .int .u64 0, .int .u64 0, .int .i64 0] (0, 0) _ rfl (put4 HY.out) hu33 rfl (by kernel_rfl)) rfl ⟨rfl, below4 HB.out HG.out⟩
  rw [if_pos c5] at h
  subst c5
  replace h := Option.bind_eq_some_iff.mp h
  obtain ⟨s2, e5, h⟩ := h
  have E5 := Aside0.mk e5; have HH := Aside0.mk h; clear h e5; obtain ⟨y0, y1, y2⟩ := zc3 HA
  go_wp2_with fail
  refine (address_size.calls b0 b1 b2 s2 w7 E5.out).mono ?_
  rintro e w8 ⟨rfl, hb⟩
  clear y0 y1 y2; replace HY := Aside0.mk (blk_below HY.out hb); replace HA := Aside0.mk (blk_below HA.out hb); replace HP := Aside0.mk (blk_below HP.out hb); replace HB := Aside0.mk (below_then HB.out HB.out.size hb); clear hb
  have h := HH.out
  clear HH
  by_cases c6 : n > s2
  · rw [if_pos c6] at h
    have c6a : decide (s2 < n) = true := decide_eq_true c6; clear c6
    simp only [Option.some.injEq, Prod.mk.injEq] at h
    obtain ⟨rfl, rfl, rfl, rfl, rfl⟩ := h
    obtain ⟨x0, x1, x2, x3⟩ := zc4 HY; obtain ⟨f0, f1, f2, f3⟩ := zf4 HY
    go_wp2
    exact bodyPost_ret (results_ct rfl _ _ gr 33 #[.bool false, .int .u64 0, .int .u64 0, .int .i64 0] (0, 0) _ rfl (put4 HY.out) hu33 rfl (by kernel_rfl)) rfl ⟨rfl, below4 HB.out HG.out⟩
  rw [if_neg c6] at h
  have c6a : decide (s2 < n) = false := decide_eq_false c6; clear c6; have HH := Aside0.mk h; clear h; obtain ⟨p0, p1, p2, p3⟩ := zc4 HP; obtain ⟨f0, f1, f2, f3⟩ := zf4 HP
  go_upto_region 15 with (fail)
  clear p0 p1 p2 p3 f0 f1 f2 f3
  replace HP : Aside0 ((w8.setCell ⟨gp, 3, none⟩ (.int .i64 n)).heap[gp]? = some (.cells #[.bool b0, .int .u64 b1, .int .u64 b2, .int .i64 n] 33 (0, 0))) := ⟨blk_put HP.out 3 _ rfl⟩
  replace HY : Aside0 ((w8.setCell ⟨gp, 3, none⟩ (.int .i64 n)).heap[gr]? = some (.cells #[.bool false, .int .u64 0, .int .u64 0, .int .i64 0] 33 (0, 0))) := ⟨blk_far HY.out (Ne.symm HPN.out.1) _⟩
  replace HB : Aside0 (Below w.heap.size w (w8.setCell ⟨gp, 3, none⟩ (.int .i64 n))) := ⟨below_set HB.out HPN.out.2.1⟩
  clear HA c6a
  generalize w8.setCell ⟨gp, 3, none⟩ (.int .i64 n) = W9 at HP HY HB ⊢
  have h := HH.out
  clear HH
  replace h := Option.bind_eq_some_iff.mp h
  obtain ⟨ok, e7, h⟩ := h
  obtain ⟨p0, p1, p2, p3⟩ := zc4 HP
  go_wp2_with fail
  refine (address_ValidPrefix.calls b0 b1 b2 n ok W9 e7).mono ?_
  rintro e w9 ⟨rfl, hb⟩
  clear p0 p1 p2 p3; replace HY := Aside0.mk (blk_below HY.out hb); replace HP := Aside0.mk (blk_below HP.out hb); replace HB := Aside0.mk (below_then HB.out HB.out.size hb); clear hb
  cases ok
  · rw [if_neg Bool.false_ne_true] at h
    simp only [Option.some.injEq, Prod.mk.injEq] at h
    obtain ⟨rfl, rfl, rfl, rfl, rfl⟩ := h
    obtain ⟨x0, x1, x2, x3⟩ := zc4 HY; obtain ⟨f0, f1, f2, f3⟩ := zf4 HY
    go_wp2
    exact bodyPost_ret (results_ct rfl _ _ gr 33 #[.bool false, .int .u64 0, .int .u64 0, .int .i64 0] (0, 0) _ rfl (put4 HY.out) hu33 rfl (by kernel_rfl)) rfl ⟨rfl, below4 HB.out HG.out⟩
  rw [if_pos rfl] at h
  simp only [Option.some.injEq, Prod.mk.injEq] at h
  obtain ⟨rfl, rfl, rfl, rfl, rfl⟩ := h
  obtain ⟨p0, p1, p2, p3⟩ := zc4 HP; obtain ⟨x0, x1, x2, x3⟩ := zc4 HY; obtain ⟨f0, f1, f2, f3⟩ := zf4 HY
  go_wp2
  exact bodyPost_ret (results_ct rfl _ _ gr 33 #[.bool b0, .int .u64 b1, .int .u64 b2, .int .i64 n] (0, 0) _ rfl (put4 HY.out) hu33 rfl (by kernel_rfl)) rfl ⟨rfl, below4 HB.out HG.out⟩
end Go.Proofs.YtnphnhkinjppjaaGreatDoor.Q
end

section
set_option maxHeartbeats 8000000
set_option maxRecDepth 100000
namespace Go.Proofs.YtnphnhkinjppjaaGreatDoor.Q
open Go.RowKit Go.Proofs.YtnphnhkinjppjaaGreatDoorW.PrintWords Go.Proofs.YtnphnhkinjppjaaGreatDoorW.PrintLast Go.Proofs.YtnphnhkinjppjaaGreatDoorW.PrintMore
def optL : List ByteArray := [⟨#[112, 111, 108, 105, 99, 121]⟩, ⟨#[102, 114, 97, 103]⟩, ⟨#[104, 111, 112, 115]⟩, ⟨#[119, 105, 110, 100, 111, 119]⟩, ⟨#[115, 116, 97, 109, 112, 115]⟩, ⟨#[118, 97, 108, 117, 101]⟩, ⟨#[115, 101, 114, 118, 105, 99, 101]⟩]
def polL : List ByteArray := [⟨#[102, 105, 114, 115, 116]⟩, ⟨#[108, 97, 115, 116]⟩, ⟨#[98, 115, 100]⟩, ⟨#[108, 105, 110, 117, 120]⟩, ⟨#[100, 114, 111, 112]⟩]
def appL : List ByteArray := [⟨#[114, 97, 119]⟩, ⟨#[104, 116, 116, 112]⟩, ⟨#[115, 109, 116, 112]⟩, ⟨#[116, 108, 115]⟩, ⟨#[100, 110, 115]⟩]
def proL : List ByteArray := [⟨#[116, 99, 112]⟩, ⟨#[117, 100, 112]⟩]
def aDef : S36 := ⟨⟨#[100, 101, 102, 97, 117, 108, 116]⟩, ⟨⟨false, 0, 0⟩, 0⟩, 1, 1, 0, 8192, false, 1, []⟩
def optOne (k : Nat) (L : List (S84)) (A : S36) (n i e a : Int) : Option (S36 × Int × Int × Int) :=
  if n = 0 then (asset_parser_choice.f k L i e a (polL.take 4)).bind fun r => some ({ A with f2 := wrap64 (1 + r.1) }, r.2)
  else if n = 1 then (asset_parser_choice.f k L i e a polL).bind fun r => some ({ A with f3 := wrap64 (1 + r.1) }, r.2)
  else if n = 2 then (asset_parser_number.f k L i e a).bind fun r => some ({ A with f4 := r.1 }, r.2)
  else if n = 3 then (asset_parser_number.f k L i e a).bind fun r => some ({ A with f5 := r.1 }, r.2)
  else if n = 4 then some ({ A with f6 := true }, i, e, a)
  else if n = 5 then (asset_parser_number.f k L i e a).bind fun r => some ({ A with f7 := r.1 }, r.2)
  else (asset_parser_choice.f k L i e a proL).bind fun r1 => (asset_parser_number.f k L r1.2.1 r1.2.2.1 r1.2.2.2).bind fun r2 => (asset_parser_choice.f k L r2.2.1 r2.2.2.1 r2.2.2.2 appL).bind fun r3 =>
    if A.f8.length < 1000000 then some ({ A with f8 := A.f8 ++ [⟨if r1.1 = 1 then 17 else 6, r2.1, r3.1⟩] }, r3.2) else none
def optLoop : Nat → List (S84) → Int → S36 → Int → Int → Int → Option (S36 × Int × Int × Int)
  | 0, _, _, _, _, _, _ => none
  | k + 1, L, least, A, i, e, a =>
    if e = 0 then
      if isTok L i 4 ⟨#[59]⟩ = true then some (A, isNx L i 4 ⟨#[59]⟩, e, a)
      else (slices_Index_string.f k optL (pword L i e a).1.f1).bind fun n =>
        if (pword L i e a).2.2.1 = 0 then
          if n < 0 then some (A, (pword L i e a).2.1, 15, (pword L i e a).1.f2)
          else if n < least then some (A, (pword L i e a).2.1, 14, (pword L i e a).1.f2)
          else if n < 7 then (optOne k L A n (pword L i e a).2.1 (pword L i e a).2.2.1 (pword L i e a).2.2.2).bind fun r => optLoop k L (if n = 6 then n else n + 1) r.1 r.2.1 r.2.2.1 r.2.2.2
          else none
        else some (A, (pword L i e a).2.1, (pword L i e a).2.2.1, (pword L i e a).2.2.2)
    else some (A, i, e, a)
def preOne (k : Nat) (t : S84) (e a : Int) : Option (S33 × Int × Int) :=
  if e = 0 then (address_ParsePrefix.f k t.f1).bind fun r => if r.2.2.2.2 = 0 then some (⟨⟨r.1, r.2.1, r.2.2.1⟩, r.2.2.2.1⟩, e, a) else some (⟨⟨r.1, r.2.1, r.2.2.1⟩, r.2.2.2.1⟩, failE e r.2.2.2.2, failA e a t.f2) else some (⟨⟨false, 0, 0⟩, 0⟩, e, a)
def hostOne (L : List (S84)) (i e a : Int) : Int × Int × Int :=
  if (pword L i e a).1.f1.toList = ([104, 111, 115, 116] : List UInt8) then ((pword L i e a).2.1, (pword L i e a).2.2.1, (pword L i e a).2.2.2) else ((pword L i e a).2.1, failE (pword L i e a).2.2.1 15, failA (pword L i e a).2.2.1 (pword L i e a).2.2.2 (pword L i e a).1.f2)
def asset_statement.f (k : Nat) (L : List (S84)) (i e a : Int) : Option (S36 × Int × Int × Int) :=
  let h := hostOne L i e a
  let q := pword L h.1 h.2.1 h.2.2
  let t := pword L q.2.1 q.2.2.1 q.2.2.2
  (preOne k t.1 t.2.2.1 t.2.2.2).bind fun x => optLoop k L 0 { aDef with f0 := q.1.f1, f1 := x.1 } t.2.1 x.2.1 x.2.2
abbrev assetCells (A : S36) (v : Value) : Array Value := #[.string A.f0, .bool A.f1.f0.f0, .int .u64 A.f1.f0.f1, .int .u64 A.f1.f0.f2, .int .i64 A.f1.f1, .int .i64 A.f2, .int .i64 A.f3, .int .i64 A.f4, .int .i64 A.f5, .bool A.f6, .int .i64 A.f7, v]
structure StI (w0 w W : World) (p c g B : Nat) (L : List (S84)) (A : S36) (v : Value) (i e a : Int) : Prop where
  par : IsPar w0 W p c L i e a
  blk : W.heap[B]? = some (.cells (assetCells A v) 36 (0, 0))
  row : Kd.R k74 74 W w.heap.size (fun _ => True) v A.f8
  res : W.heap[g]? = some (.cells (assetCells z36 (.slice none 0 0)) 36 (0, 0))
  ne : g ≠ B
  geB : w.heap.size ≤ B
  geg : w.heap.size ≤ g
  old : p < w.heap.size ∧ c < w.heap.size ∧ w0.heap.size ≤ w.heap.size
  bel : Below w0.heap.size w0 W
  kept : KeepPC w W p c
section
variable {w0 w W W1 : World} {p c g B : Nat} {L : List (S84)} {A : S36} {v : Value} {i e a : Int}
theorem StI.keep (h : StI w0 w W p c g B L A v i e a) {i' e' a' : Int} (hp : IsPar w0 W1 p c L i' e' a') (hb : Below w0.heap.size w0 W1) (hk : KeepPC W W1 p c) : StI w0 w W1 p c g B L A v i' e' a' where
  par := hp
  blk := blk_kept h.blk hk (by have := h.geB; have := h.old; omega)
  row := Kd.R_mono (Kd.R_kept (Kd.R_bound h.row) hk (fun k hk' => by have := hk'.2.1; have := h.old; omega)) (fun _ _ => trivial)
  res := blk_kept h.res hk (by have := h.geg; have := h.old; omega)
  ne := h.ne
  geB := h.geB
  geg := h.geg
  old := h.old
  bel := hb
  kept := h.kept.then_ hk (fun _ x => .inl x)
theorem StI.below (h : StI w0 w W p c g B L A v i e a) (hb : Below W.heap.size W W1) : StI w0 w W1 p c g B L A v i e a :=
  h.keep (h.par.below hb) (below_then h.bel h.bel.size hb) (Kept.of_below hb _)
theorem StI.alloc (h : StI w0 w W p c g B L A v i e a) (o : Obj) : StI w0 w (W.alloc o) p c g B L A v i e a := h.below (below_alloc (Below.refl _ _) o)
theorem StI.put (h : StI w0 w W p c g B L A v i e a) (j : Nat) (x : Value) {A' : S36} (hA : (assetCells A v).setIfInBounds j x = assetCells A' v) (h8 : A'.f8 = A.f8) : StI w0 w (W.setCell ⟨B, j, none⟩ x) p c g B L A' v i e a where
  par := h.par.far (by have := h.geB; have := h.old; show B ≠ p; omega) (by have := h.geB; have := h.old; show B ≠ c; omega) _
  blk := by rw [← hA]; exact blk_set h.blk j x
  row := by rw [h8]; exact Kd.R_set h.row h.blk (by decide) j _
  res := (Below.heap_setCell W ⟨B, j, none⟩ x g h.ne).trans h.res
  ne := h.ne
  geB := h.geB
  geg := h.geg
  old := h.old
  bel := h.bel.setCell (by have := h.geB; have := h.old; show w0.heap.size ≤ B; omega) _
  kept := h.kept.setCell (.inr h.geB) _
end
structure StO (w0 w W : World) (p c g B : Nat) (L : List (S84)) (A : S36) (v vo : Value) (i e a : Int) : Prop where
  st : StI w0 w W p c g B L A v i e a
  opt : Kd.R Kd.string 9 W w.heap.size (fun _ => True) vo optL
section
variable {w0 w W W1 : World} {p c g B : Nat} {L : List (S84)} {A : S36} {v vo : Value} {i e a : Int}
theorem StO.keep (h : StO w0 w W p c g B L A v vo i e a) {i' e' a' : Int} (hp : IsPar w0 W1 p c L i' e' a') (hb : Below w0.heap.size w0 W1) (hk : KeepPC W W1 p c) : StO w0 w W1 p c g B L A v vo i' e' a' :=
  ⟨h.st.keep hp hb hk, Kd.R_mono (Kd.R_kept (Kd.R_bound h.opt) hk (fun k hk' => by have := hk'.2.1; have := h.st.old; omega)) (fun _ _ => trivial)⟩
theorem StO.below (h : StO w0 w W p c g B L A v vo i e a) (hb : Below W.heap.size W W1) : StO w0 w W1 p c g B L A v vo i e a :=
  h.keep (h.st.par.below hb) (below_then h.st.bel h.st.bel.size hb) (Kept.of_below hb _)
theorem StO.alloc (h : StO w0 w W p c g B L A v vo i e a) (o : Obj) : StO w0 w (W.alloc o) p c g B L A v vo i e a := h.below (below_alloc (Below.refl _ _) o)
theorem StO.put (h : StO w0 w W p c g B L A v vo i e a) (j : Nat) (x : Value) {A' : S36} (hA : (assetCells A v).setIfInBounds j x = assetCells A' v) (h8 : A'.f8 = A.f8) : StO w0 w (W.setCell ⟨B, j, none⟩ x) p c g B L A' v vo i e a :=
  ⟨h.st.put j x hA h8, Kd.R_set h.opt h.st.blk (by decide) j _⟩
theorem StO.old_ne (h : StO w0 w W p c g B L A v vo i e a) {x : Nat} (hx : x = W.heap.size) : x ≠ p ∧ x ≠ c ∧ x ≠ B ∧ x ≠ g := ⟨by have := h.st.par.lt; omega, by have := h.st.par.cur.lt; omega, by have := blk_lt h.st.blk; omega, by have := blk_lt h.st.res; omega⟩
end
structure FinI (w0 w W : World) (p c g : Nat) (L : List (S84)) (A : S36) (v : Value) (i e a : Int) : Prop where
  par : IsPar w0 W p c L i e a
  row : Kd.R k74 74 W w.heap.size (fun _ => True) v A.f8
  blk : ∃ cs, W.heap[g]? = some (.cells cs 36 (0, 0))
  geg : w.heap.size ≤ g
  old : p < w.heap.size ∧ c < w.heap.size ∧ w0.heap.size ≤ w.heap.size
  bel : Below w0.heap.size w0 W
  kept : KeepPC w W p c
theorem StI.fin {w0 w W : World} {p c g B : Nat} {L : List (S84)} {A : S36} {v : Value} {i e a : Int} (h : StI w0 w W p c g B L A v i e a) : FinI w0 w W p c g L A v i e a := ⟨h.par, h.row, ⟨_, h.res⟩, h.geg, h.old, h.bel, h.kept⟩
theorem FinI.put {w0 w W : World} {p c g : Nat} {L : List (S84)} {A : S36} {v : Value} {i e a : Int} (h : FinI w0 w W p c g L A v i e a) (j : Nat) (x : Value) : FinI w0 w (W.setCell ⟨g, j, none⟩ x) p c g L A v i e a := by
  obtain ⟨cs, hb⟩ := h.blk
  exact ⟨h.par.far (by have := h.geg; have := h.old; show g ≠ p; omega) (by have := h.geg; have := h.old; show g ≠ c; omega) _, Kd.R_set h.row hb (by decide) j _, ⟨_, blk_set hb j x⟩, h.geg, h.old, h.bel.setCell (by have := h.geg; have := h.old; show w0.heap.size ≤ g; omega) _, h.kept.setCell (.inr h.geg) _⟩
theorem FinI.all {w0 w W : World} {p c g : Nat} {L : List (S84)} {A A' : S36} {v : Value} {i e a i' e' a' : Int} (h : FinI w0 w W p c g L A v i e a) (hr : (A, i, e, a) = (A', i', e', a')) {b0 b1 b2 b3 b4 b5 b6 b7 b8 b9 b10 b11 : Value} :
    ∃ v', Ending.returned (.agg (assetCells A v)) = .returned (.agg (assetCells A' v')) ∧ Kd.R k74 74 ((((((((((((W.setCell ⟨g, 0, none⟩ b0).setCell ⟨g, 1, none⟩ b1).setCell ⟨g, 2, none⟩ b2).setCell ⟨g, 3, none⟩ b3).setCell ⟨g, 4, none⟩ b4).setCell ⟨g, 5, none⟩ b5).setCell ⟨g, 6, none⟩ b6).setCell ⟨g, 7, none⟩ b7).setCell ⟨g, 8, none⟩ b8).setCell ⟨g, 9, none⟩ b9).setCell ⟨g, 10, none⟩ b10).setCell ⟨g, 11, none⟩ b11) w.heap.size (fun _ => True) v' A'.f8 ∧ IsPar w0 ((((((((((((W.setCell ⟨g, 0, none⟩ b0).setCell ⟨g, 1, none⟩ b1).setCell ⟨g, 2, none⟩ b2).setCell ⟨g, 3, none⟩ b3).setCell ⟨g, 4, none⟩ b4).setCell ⟨g, 5, none⟩ b5).setCell ⟨g, 6, none⟩ b6).setCell ⟨g, 7, none⟩ b7).setCell ⟨g, 8, none⟩ b8).setCell ⟨g, 9, none⟩ b9).setCell ⟨g, 10, none⟩ b10).setCell ⟨g, 11, none⟩ b11) p c L i' e' a' ∧ Below w0.heap.size w0 ((((((((((((W.setCell ⟨g, 0, none⟩ b0).setCell ⟨g, 1, none⟩ b1).setCell ⟨g, 2, none⟩ b2).setCell ⟨g, 3, none⟩ b3).setCell ⟨g, 4, none⟩ b4).setCell ⟨g, 5, none⟩ b5).setCell ⟨g, 6, none⟩ b6).setCell ⟨g, 7, none⟩ b7).setCell ⟨g, 8, none⟩ b8).setCell ⟨g, 9, none⟩ b9).setCell ⟨g, 10, none⟩ b10).setCell ⟨g, 11, none⟩ b11) ∧ KeepPC w ((((((((((((W.setCell ⟨g, 0, none⟩ b0).setCell ⟨g, 1, none⟩ b1).setCell ⟨g, 2, none⟩ b2).setCell ⟨g, 3, none⟩ b3).setCell ⟨g, 4, none⟩ b4).setCell ⟨g, 5, none⟩ b5).setCell ⟨g, 6, none⟩ b6).setCell ⟨g, 7, none⟩ b7).setCell ⟨g, 8, none⟩ b8).setCell ⟨g, 9, none⟩ b9).setCell ⟨g, 10, none⟩ b10).setCell ⟨g, 11, none⟩ b11) p c := by
  simp only [Prod.mk.injEq] at hr
  obtain ⟨rfl, rfl, rfl, rfl⟩ := hr
  have hf := (((((((((((h.put 0 b0).put 1 b1).put 2 b2).put 3 b3).put 4 b4).put 5 b5).put 6 b6).put 7 b7).put 8 b8).put 9 b9).put 10 b10).put 11 b11
  exact ⟨v, rfl, hf.row, hf.par, hf.bel, hf.kept⟩
structure LoopI (k gg : Nat) (L : List (S84)) (least : Int) (A : S36) (i e a : Int) (r : S36 × Int × Int × Int) : Prop where
  val : optLoop gg L least A i e a = some r
  pos : PosIn L i
  l0 : 0 ≤ least
  l7 : least ≤ 7
section
variable {k gg : Nat} {L : List (S84)} {least : Int} {A : S36} {i e a : Int} {r : S36 × Int × Int × Int}
theorem LoopI.suc (h : LoopI k gg L least A i e a r) : ∃ g, gg = g + 1 := by
  cases gg with
  | zero => have := h.val; simp [optLoop] at this
  | succ g => exact ⟨g, rfl⟩
theorem LoopI.bad (h : LoopI k (gg + 1) L least A i e a r) (he : ¬ e = 0) : (A, i, e, a) = r := by
  have := h.val
  rw [optLoop, if_neg he] at this
  exact Option.some.inj this
theorem LoopI.fin (h : LoopI k (gg + 1) L least A i e a r) (he : e = 0) (hm : isTok L i 4 ⟨#[59]⟩ = true) : (A, isNx L i 4 ⟨#[59]⟩, e, a) = r := by
  have := h.val
  rw [optLoop, if_pos he, if_pos hm] at this
  exact Option.some.inj this
theorem LoopI.on (h : LoopI k (gg + 1) L least A i e a r) (he : e = 0) (hm : ¬ isTok L i 4 ⟨#[59]⟩ = true) : ∃ n, slices_Index_string.f gg optL (pword L i e a).1.f1 = some n ∧
    ((¬ (pword L i e a).2.2.1 = 0 ∧ (A, (pword L i e a).2.1, (pword L i e a).2.2.1, (pword L i e a).2.2.2) = r) ∨ ((pword L i e a).2.2.1 = 0 ∧ ((n < 0 ∧ (A, (pword L i e a).2.1, (15 : Int), (pword L i e a).1.f2) = r) ∨ (¬ n < 0 ∧ n < least ∧ (A, (pword L i e a).2.1, (14 : Int), (pword L i e a).1.f2) = r) ∨
      (¬ n < 0 ∧ ¬ n < least ∧ n < 7 ∧ ∃ q, optOne gg L A n (pword L i e a).2.1 (pword L i e a).2.2.1 (pword L i e a).2.2.2 = some q ∧ optLoop gg L (if n = 6 then n else n + 1) q.1 q.2.1 q.2.2.1 q.2.2.2 = some r)))) := by
  have := h.val
  rw [optLoop, if_pos he, if_neg hm] at this
  obtain ⟨n, hn, h2⟩ := Option.bind_eq_some_iff.1 this
  refine ⟨n, hn, ?_⟩
  split at h2
  · rename_i h3
    refine .inr ⟨h3, ?_⟩
    split at h2
    · rename_i h4
      exact .inl ⟨h4, Option.some.inj h2⟩
    · rename_i h4
      split at h2
      · rename_i h5
        exact .inr (.inl ⟨h4, h5, Option.some.inj h2⟩)
      · rename_i h5
        split at h2
        · rename_i h6
          obtain ⟨q, hq, h7⟩ := Option.bind_eq_some_iff.1 h2
          exact .inr (.inr ⟨h4, h5, h6, q, hq, h7⟩)
        · cases h2
  · rename_i h3
    exact .inl ⟨h3, Option.some.inj h2⟩
end
theorem strs_kept {W : World} {base p c n cp : Nat} {A : Option Addr} {l : List ByteArray} (h : Kd.R Kd.string 9 W base (fun _ => True) (.slice A n cp) l) (hp : p < base) (hc : c < base) : ∀ W', KeepPC W W' p c → Kd.C Kd.string W' A l.length l := fun W' hk => by
  have h2 := Kd.C_kept_own (Kd.R_bound h) (S := fun k => k = p ∨ k = c) (fun k hk => by have := hk.2.1; omega) W' hk
  rw [(Kd.R_reads' h).1] at h2
  exact h2
theorem opt_cell {W : World} {base go : Nat} (h : Kd.R Kd.string 9 W base (fun _ => True) (.slice (some ⟨go, 0, none⟩) 7 7) optL) (j : Nat) (hj : j < 7) : W.cell? ⟨go, j, none⟩ = some (.string (rdOf ByteArray.empty optL (j : Int))) := by
  obtain ⟨ad, e, hx⟩ := Kd.at_string (Kd.R_reads' h).2.2 (j : Int) (by omega) (by show (j : Int) < (7 : Nat); omega)
  injection e with e
  subst e
  rw [add_plain] at hx
  simpa using hx
theorem StO.append {w0 w W w1 : World} {p c g B : Nat} {L : List (S84)} {A : S36} {v vo v1 : Value} {i e a : Int} (h : StO w0 w W p c g B L A v vo i e a) (x : S74) (ho : Kd.R k74 74 w1 w.heap.size (fun _ => True) v1 (A.f8 ++ [x])) (hg : W.grownBy w1 v.ownBlock) :
    StO w0 w (w1.setCell ⟨B, 11, none⟩ v1) p c g B L { A with f8 := A.f8 ++ [x] } v1 vo i e a := by
  have hown : ∀ k, v.ownBlock = some k → w.heap.size ≤ k := fun k hk => ((Kd.R_bound h.st.row).1 k hk).2.1
  have hty := Kd.R_typed h.st.row
  have hne : ∀ (b : Nat) (cs : Array Value) (t : TypeId), W.heap[b]? = some (.cells cs t (0, 0)) → 74 ≠ t → some b ≠ v.ownBlock := fun b cs t hb ht => Kd.R_ne h.st.row hb ht
  have hp : IsPar w0 w1 p c L i e a := by
    obtain ⟨h1, h2, h3⟩ := h.st.par
    obtain ⟨A0, c0, h4, h5, h6⟩ := h3
    exact ⟨blk_grown h1 hg (hne _ _ _ h1 (by decide)), h2, A0, c0, blk_grown h4 hg (hne _ _ _ h4 (by decide)), h5, h6⟩
  have hb1 : w1.heap[B]? = some (.cells (assetCells A v) 36 (0, 0)) := blk_grown h.st.blk hg (hne _ _ _ h.st.blk (by decide))
  have hr1 : w1.heap[g]? = some (.cells (assetCells z36 (.slice none 0 0)) 36 (0, 0)) := blk_grown h.st.res hg (hne _ _ _ h.st.res (by decide))
  have hopt : Kd.R Kd.string 9 w1 w.heap.size (fun _ => True) vo optL := Kd.R_over' h.opt hty (by decide) hg
  refine ⟨{ par := hp.far (by have := h.st.geB; have := h.st.old; show B ≠ p; omega) (by have := h.st.geB; have := h.st.old; show B ≠ c; omega) _, blk := blk_set hb1 11 v1, row := Kd.R_set ho hb1 (by decide) 11 _, res := (Below.heap_setCell w1 ⟨B, 11, none⟩ v1 g h.st.ne).trans hr1, ne := h.st.ne, geB := h.st.geB, geg := h.st.geg, old := h.st.old, bel := ?_, kept := ?_ }, Kd.R_set hopt hb1 (by decide) 11 _⟩
  · exact (pw_below_grown h.st.bel v.ownBlock h.st.bel.size hg (fun k hk => by have := hown k hk; have := h.st.old; omega)).setCell (by have := h.st.geB; have := h.st.old; show w0.heap.size ≤ B; omega) _
  · exact (Kept.of_grown hg h.st.kept (fun k hk => .inr (hown k hk))).setCell (.inr h.st.geB) _
structure StV (w0 w W : World) (p c g B gs : Nat) (L : List (S84)) (A : S36) (v vo : Value) (i e a : Int) (cs : Array Value) : Prop where
  so : StO w0 w W p c g B L A v vo i e a
  row : Kd.R k74 74 W w.heap.size (fun k => k ≠ gs) v A.f8
  sv : W.heap[gs]? = some (.cells cs 74 (0, 0))
  ne : gs ≠ p ∧ gs ≠ c ∧ gs ≠ B ∧ gs ≠ g
  ge : w.heap.size ≤ gs
section
variable {w0 w W W1 : World} {p c g B gs : Nat} {L : List (S84)} {A : S36} {v vo : Value} {i e a : Int} {cs : Array Value}
theorem StV.new (h : StO w0 w W p c g B L A v vo i e a) (cs : Array Value) : StV w0 w (W.alloc (.cells cs 74)) p c g B W.heap.size L A v vo i e a cs :=
  ⟨h.alloc _, Kd.R_alloc (Kd.R_mono (Kd.R_bound h.st.row) (fun k hk => Nat.ne_of_lt hk.2.2.1)) _, heap_alloc_new _ _, h.old_ne rfl, by have := h.st.geB; have := blk_lt h.st.blk; omega⟩
theorem StV.keep (h : StV w0 w W p c g B gs L A v vo i e a cs) {i' e' a' : Int} (hp : IsPar w0 W1 p c L i' e' a') (hb : Below w0.heap.size w0 W1) (hk : KeepPC W W1 p c) : StV w0 w W1 p c g B gs L A v vo i' e' a' cs :=
  ⟨h.so.keep hp hb hk, Kd.R_mono (Kd.R_kept (Kd.R_bound h.row) hk (fun k hk' => by have := hk'.2.1; have := h.so.st.old; omega)) (fun _ hk => hk.1), blk_kept h.sv hk (by have := h.ne; omega), h.ne, h.ge⟩
theorem StV.below (h : StV w0 w W p c g B gs L A v vo i e a cs) (hb : Below W.heap.size W W1) : StV w0 w W1 p c g B gs L A v vo i e a cs :=
  h.keep (h.so.st.par.below hb) (below_then h.so.st.bel h.so.st.bel.size hb) (Kept.of_below hb _)
theorem StV.alloc (h : StV w0 w W p c g B gs L A v vo i e a cs) (o : Obj) : StV w0 w (W.alloc o) p c g B gs L A v vo i e a cs := h.below (below_alloc (Below.refl _ _) o)
theorem StV.put (h : StV w0 w W p c g B gs L A v vo i e a cs) (j : Nat) (x : Value) : StV w0 w (W.setCell ⟨gs, j, none⟩ x) p c g B gs L A v vo i e a (cs.setIfInBounds j x) := by
  have hr : Kd.R k74 74 (W.setCell ⟨gs, j, none⟩ x) w.heap.size (fun k => k ≠ gs) v A.f8 := Kd.R_far h.row (fun k hk => hk) x
  exact ⟨⟨{ par := h.so.st.par.far h.ne.1 h.ne.2.1 _, blk := (Below.heap_setCell W ⟨gs, j, none⟩ x B (Ne.symm h.ne.2.2.1)).trans h.so.st.blk, row := Kd.R_mono hr (fun _ _ => trivial), res := (Below.heap_setCell W ⟨gs, j, none⟩ x g (Ne.symm h.ne.2.2.2)).trans h.so.st.res, ne := h.so.st.ne, geB := h.so.st.geB, geg := h.so.st.geg, old := h.so.st.old, bel := h.so.st.bel.setCell (by have := h.so.st.old; have := h.ge; show w0.heap.size ≤ gs; omega) _, kept := h.so.st.kept.setCell (.inr h.ge) _ }, Kd.R_set h.so.opt h.sv (by decide) j _⟩, hr, blk_set h.sv j x, h.ne, h.ge⟩
end
theorem opt_eq (j : Nat) (l l' : List UInt8) {b : Bool} (h : (optL.getD j ByteArray.empty).data.toList = l ∧ (l == l') = b) : ((rdOf ByteArray.empty optL (j : Int)).toList == l') = b := by
  rw [ByteArray.toList_eq]
  unfold rdOf
  rw [Int.toNat_natCast, h.1, h.2]
theorem PosIn.number {k : Nat} {L : List (S84)} {i e a n i' e' a' : Int} (h : PosIn L i) (hf : asset_parser_number.f k L i e a = some (n, i', e', a')) : PosIn L i' := by
  unfold asset_parser_number.f at hf
  obtain ⟨r, _, h2⟩ := Option.bind_eq_some_iff.1 hf
  split at h2
  all_goals
    simp only [Option.some.injEq, Prod.mk.injEq] at h2
    obtain ⟨_, rfl, _, _⟩ := h2
    exact h.word
theorem PosIn.choice {k : Nat} {L : List (S84)} {i e a n i' e' a' : Int} {l : List ByteArray} (h : PosIn L i) (hf : asset_parser_choice.f k L i e a l = some (n, i', e', a')) : PosIn L i' := by
  unfold asset_parser_choice.f at hf
  obtain ⟨r, _, h2⟩ := Option.bind_eq_some_iff.1 hf
  split at h2
  all_goals
    simp only [Option.some.injEq, Prod.mk.injEq] at h2
    obtain ⟨_, rfl, _, _⟩ := h2
    exact h.word
theorem lit_strs (W : World) (base : Nat) (hb : base ≤ W.heap.size) (l : List ByteArray) (hm : l.length ≤ 1000) : Kd.R Kd.string 9 (W.alloc (.cells (l.map Value.string).toArray 9)) base (fun _ => True) (.slice (some ⟨W.heap.size, 0, none⟩) l.length l.length) l := by
  refine Kd.R_of_own ?_ (fun _ _ => trivial)
  exact ⟨by rw [encs_length, Nat.mul_one], .inr ⟨W.heap.size, _, _, rfl, hb, heap_alloc_new W _, Nat.le_refl _, by simp only [maxLen]; omega, by simp, by rw [Nat.mul_one, encs_str]; simp only [List.toList_toArray]; exact List.take_of_length_le (by simp)⟩⟩
theorem statement_walk (k : Nat) (w0 w : World) (p c : Nat) (L : List (S84)) (i e a : Int) (A' : S36) (i' e' a' : Int) (hI : IsPar w0 w p c L i e a) (hB : Below w0.heap.size w0 w) (hP : PosIn L i) (hW : WOK w0) (h : asset_statement.f k L i e a = some (A', i', e', a')) :
    Calls Tryz.prog 49 #[.pointer (some ⟨p, 0, none⟩)] w fun r w' => ∃ v, r = .returned (.agg (assetCells A' v)) ∧ Kd.R k74 74 w' w.heap.size (fun _ => True) v A'.f8 ∧ IsPar w0 w' p c L i' e' a' ∧ Below w0.heap.size w0 w' ∧ KeepPC w w' p c := by
  have hu := Tryz.underlying84
  have hu2 := Tryz.underlying36
  have hu3 := Tryz.underlying33
  have hfd : ∀ (t : S84) (w' : World), (Instr.field 84 (tokV t) 1).run Tryz.prog w' = .ok (.string t.f1) w' := fun _ _ => by kernel_rfl
  unfold asset_statement.f at h
  have H := Aside0.mk h
  have HP := Aside0.mk hP
  have HW := Aside0.mk hW
  have HO : Aside0 (p < w.heap.size ∧ c < w.heap.size ∧ w0.heap.size ≤ w.heap.size) := ⟨hI.lt, hI.cur.lt, hB.size⟩
  have HI := Aside0.mk (hI.alloc (.cells (assetCells z36 (.slice none 0 0)) 36))
  have HB := Aside0.mk (hB.alloc hB.size (.cells (assetCells z36 (.slice none 0 0)) 36))
  have HK := Aside0.mk ((Kept.refl w (fun k => k = p ∨ k = c)).alloc (.cells (assetCells z36 (.slice none 0 0)) 36))
  have HX : Aside0 ((w.alloc (.cells (assetCells z36 (.slice none 0 0)) 36)).heap[w.heap.size]? = some (.cells (assetCells z36 (.slice none 0 0)) 36 (0, 0))) := ⟨heap_alloc_new _ _⟩
  have HZ : Aside0 (w.heap.size < (w.alloc (.cells (assetCells z36 (.slice none 0 0)) 36)).heap.size) := ⟨by simp⟩
  clear hI hB hP hW h
  go_enter Tryz.func49, Tryz.ntmps49
  go_upto_region 1 with (fail)
  obtain ⟨g, hg⟩ : ∃ g, w.heap.size = g := ⟨_, rfl⟩
  rw [hg] at HX
  have HG : Aside0 (w.heap.size ≤ g) := ⟨Nat.le_of_eq hg⟩
  have HG2 : Aside0 (g < (w.alloc (.cells (assetCells z36 (.slice none 0 0)) 36)).heap.size) := ⟨by rw [← hg]; exact HZ.out⟩
  simp only [hg]
  clear hg HZ
  change Code.wp _ _ _ _ (w.alloc (.cells (assetCells z36 (.slice none 0 0)) 36))
  generalize w.alloc (.cells (assetCells z36 (.slice none 0 0)) 36) = W at HX HB HI HK HG2 ⊢
  go_wp2_with fail
  refine (asset_Default.calls _ _ _ _ _ _ _ _ _ _ _ _ W (show asset_Default.f = some (aDef.f0, aDef.f1.f0.f0, aDef.f1.f0.f1, aDef.f1.f0.f2, aDef.f1.f1, aDef.f2, aDef.f3, aDef.f4, aDef.f5, aDef.f6, aDef.f7, aDef.f8) from rfl)).mono ?_
  rintro r w2 ⟨v, rfl, ho, hb⟩
  obtain ⟨A1, c1, hv⟩ := Kd.R_slice ho
  subst hv
  replace HI := Aside0.mk (HI.out.below hb)
  replace HX := Aside0.mk (blk_below HX.out hb)
  replace HB := Aside0.mk (below_then HB.out HB.out.size hb)
  replace HK := Aside0.mk (HK.out.below hb)
  have HR := Aside0.mk (Kd.R_lower ho (show w.heap.size ≤ W.heap.size by have := HG.out; have := HG2.out; omega))
  have HG3 : Aside0 (g < w2.heap.size) := ⟨Nat.lt_of_lt_of_le HG2.out hb.size⟩
  clear hb ho
  go_upto_region 2 with (fail)
  have HS : Aside0 (StI w0 w (w2.alloc (.cells (assetCells aDef (.slice A1 aDef.f8.length c1)) 36)) p c g w2.heap.size L aDef (.slice A1 aDef.f8.length c1) i e a) := ⟨{
    par := HI.out.alloc _
    blk := heap_alloc_new _ _
    row := Kd.R_alloc HR.out _
    res := blk_alloc HX.out _
    ne := by have := HG3.out; omega
    geB := by have := HG.out; have := HG3.out; omega
    geg := HG.out
    old := HO.out
    bel := HB.out.alloc HB.out.size _
    kept := HK.out.alloc _ }⟩
  clear HI HX HB HK HR HG HG2
  obtain ⟨B, hBB⟩ : ∃ B, w2.heap.size = B := ⟨_, rfl⟩
  rw [hBB] at HS
  simp only [hBB]
  clear hBB HG3
  change Code.wp _ _ _ _ (w2.alloc (.cells (assetCells aDef (.slice A1 aDef.f8.length c1)) 36))
  generalize w2.alloc (.cells (assetCells aDef (.slice A1 aDef.f8.length c1)) 36) = W2 at HS ⊢
  go_wp2_with fail
  refine (word_walk w0 W2 p c L i e a HS.out.par HS.out.bel HP.out).mono ?_
  rintro r w3 ⟨rfl, hi, hb, hk⟩
  replace HS := Aside0.mk (HS.out.keep hi hb hk)
  replace HP := Aside0.mk (HP.out.word (e := e) (a := a))
  clear hi hb hk
  obtain ⟨⟨t, i2, e2, a2⟩, hq⟩ : ∃ q, pword L i e a = q := ⟨_, rfl⟩
  have HQ := Aside0.mk hq
  rw [hq] at HS HP ⊢
  clear hq
  go_upto_region 3 with (fail)
  obtain ⟨gt, hgt⟩ : ∃ gt, w3.heap.size = gt := ⟨_, rfl⟩
  have HT : Aside0 ((w3.alloc (.cells #[.int .i64 t.f0, .string t.f1, .int .i64 t.f2] 84)).heap[w3.heap.size]? = some (.cells #[.int .i64 t.f0, .string t.f1, .int .i64 t.f2] 84 (0, 0))) := ⟨heap_alloc_new _ _⟩
  rw [hgt] at HT
  simp only [hgt]
  clear hgt
  replace HS := Aside0.mk (HS.out.alloc (.cells #[.int .i64 t.f0, .string t.f1, .int .i64 t.f2] 84))
  generalize w3.alloc (.cells #[.int .i64 t.f0, .string t.f1, .int .i64 t.f2] 84) = W3 at HS HT ⊢
  obtain ⟨d0, d1, d2⟩ := zc3 HT
  have HF : Aside0 ((hostOne L i e a).1 = i2) := ⟨by unfold hostOne; rw [HQ.out]; split <;> rfl⟩
  go_upto_if 18 with (fail)
  go_cut [] (fun wc => Aside0 (StI w0 w wc p c g B L aDef (.slice A1 aDef.f8.length c1) i2 (hostOne L i e a).2.1 (hostOne L i e a).2.2))
  case first =>
    by_cases ht : t.f1.toList = ([104, 111, 115, 116] : List UInt8)
    · have b1 : (t.f1.toList == ([104, 111, 115, 116] : List UInt8)) = true := beq_iff_eq.mpr ht
      have b2 : (t.f1.toList != ([104, 111, 115, 116] : List UInt8)) = false := bne_eq_false_iff_eq.mpr ht
      simp only [b1, Bool.not_true]
      have HE : Aside0 (hostOne L i e a = (i2, e2, a2)) := ⟨by unfold hostOne; rw [HQ.out, if_pos ht]⟩
      clear ht
      go_wp2
      go_meet
      case rel => exact ⟨by rw [HE.out]; exact HS.out⟩
    · have b1 : (t.f1.toList == ([104, 111, 115, 116] : List UInt8)) = false := beq_eq_false_iff_ne.mpr ht
      have b2 : (t.f1.toList != ([104, 111, 115, 116] : List UInt8)) = true := bne_iff_ne.mpr ht
      simp only [b1, Bool.not_false]
      have HE : Aside0 (hostOne L i e a = (i2, failE e2 15, failA e2 a2 t.f2)) := ⟨by unfold hostOne; rw [HQ.out, if_neg ht]⟩
      clear ht
      go_wp2_with fail
      refine (fail_walk w0 W3 p c L i2 e2 a2 15 t HS.out.par HS.out.bel).mono ?_
      rintro r w4 ⟨rfl, hi, hb, hk⟩
      have HS4 := Aside0.mk (HS.out.keep hi hb hk)
      clear hi hb hk
      go_wp2
      go_meet
      case rel => exact ⟨by rw [HE.out]; exact HS4.out⟩
  case rest =>
    clear HS HT d0 d1 d2 HQ
    obtain ⟨HS⟩ := hcut
    replace HS := Aside0.mk HS
    obtain ⟨⟨iq, e3, a3⟩, hh⟩ : ∃ x, hostOne L i e a = x := ⟨_, rfl⟩
    rw [hh] at HF HS H
    have hf := HF.out
    simp only at hf
    subst hf
    clear HF hh
    simp only at H
    go_wp2_with fail
    refine (word_walk w0 wc p c L iq e3 a3 HS.out.par HS.out.bel HP.out).mono ?_
    rintro r w4 ⟨rfl, hi, hb, hk⟩
    replace HS := Aside0.mk (HS.out.keep hi hb hk)
    replace HP := Aside0.mk (HP.out.word (e := e3) (a := a3))
    clear hi hb hk
    obtain ⟨⟨tn, i4, e4, a4⟩, hq⟩ : ∃ q, pword L iq e3 a3 = q := ⟨_, rfl⟩
    rw [hq] at HS HP H ⊢
    clear hq
    simp only at H
    obtain ⟨d0, d1, d2, d3, d4, d5, d6, d7, d8, d9, d10, d11⟩ := zc12 ⟨HS.out.blk⟩
    obtain ⟨f0, f1, f2, f3, f4, f5, f6, f7, f8, f9, f10, f11⟩ := zf12 ⟨HS.out.blk⟩
    go_upto_region 6 with (fail)
    clear d0 d1 d2 d3 d4 d5 d6 d7 d8 d9 d10 d11 f0 f1 f2 f3 f4 f5 f6 f7 f8 f9 f10 f11
    replace HS := Aside0.mk (HS.out.put 0 (.string tn.f1) (A' := { aDef with f0 := tn.f1 }) rfl rfl)
    generalize w4.setCell ⟨B, 0, none⟩ (.string tn.f1) = W4 at HS ⊢
    go_wp2_with fail
    refine (word_walk w0 W4 p c L i4 e4 a4 HS.out.par HS.out.bel HP.out).mono ?_
    rintro r w5 ⟨rfl, hi, hb, hk⟩
    replace HS := Aside0.mk (HS.out.keep hi hb hk)
    replace HP := Aside0.mk (HP.out.word (e := e4) (a := a4))
    clear hi hb hk
    obtain ⟨⟨t5, i5, e5, a5⟩, hq⟩ : ∃ q, pword L i4 e4 a4 = q := ⟨_, rfl⟩
    rw [hq] at HS HP H ⊢
    clear hq
    simp only at H
    go_upto_region 7 with (fail)
    obtain ⟨g5, hgt⟩ : ∃ gt, w5.heap.size = gt := ⟨_, rfl⟩
    have HT : Aside0 ((w5.alloc (.cells #[.int .i64 t5.f0, .string t5.f1, .int .i64 t5.f2] 84)).heap[w5.heap.size]? = some (.cells #[.int .i64 t5.f0, .string t5.f1, .int .i64 t5.f2] 84 (0, 0))) := ⟨heap_alloc_new _ _⟩
    rw [hgt] at HT
    simp only [hgt]
    have HTN : Aside0 (g5 ≠ p ∧ g5 ≠ c) := ⟨by have := HS.out.par.lt; omega, by have := HS.out.par.cur.lt; omega⟩
    clear hgt
    replace HS := Aside0.mk (HS.out.alloc (.cells #[.int .i64 t5.f0, .string t5.f1, .int .i64 t5.f2] 84))
    generalize w5.alloc (.cells #[.int .i64 t5.f0, .string t5.f1, .int .i64 t5.f2] 84) = W5 at HS HT ⊢
    obtain ⟨⟨X, e6, a6⟩, hpre, hopt⟩ := Option.bind_eq_some_iff.1 H.out
    have HPRE := Aside0.mk hpre
    have HOPT := Aside0.mk hopt
    clear hpre hopt H
    obtain ⟨c0, c1', c2⟩ := HS.out.par.cells
    go_upto_if 32 with (fail)
    clear c0 c1' c2
    go_cut [] (fun wc => Aside0 (StI w0 w wc p c g B L { aDef with f0 := tn.f1, f1 := X } (.slice A1 aDef.f8.length c1) i5 e6 a6))
    case first =>
      by_cases he : e5 = 0
      · have b1 : (e5 == 0) = true := beq_iff_eq.mpr he
        have hpre := HPRE.out
        unfold preOne at hpre
        rw [if_pos he] at hpre
        obtain ⟨⟨p1, p2, p3, p4, p5⟩, hpp, hpre⟩ := Option.bind_eq_some_iff.1 hpre
        have HPP := Aside0.mk hpp
        have HE := Aside0.mk he
        have HPRE := Aside0.mk hpre
        clear hpp he hpre
        obtain ⟨d0, d1, d2⟩ := zc3 HT
        go_wp2_with fail
        refine (address_ParsePrefix.calls k t5.f1 p1 p2 p3 p4 p5 W5 HPP.out (HW.out.below HS.out.bel)).mono ?_
        rintro r w6 ⟨rfl, hb⟩
        clear d0 d1 d2
        replace HS := Aside0.mk (HS.out.below hb)
        replace HT := Aside0.mk (blk_below HT.out hb)
        clear hb
        go_upto_region 9 with (fail)
        obtain ⟨gx, hgx⟩ : ∃ gx, w6.heap.size = gx := ⟨_, rfl⟩
        have HX : Aside0 ((w6.alloc (.cells #[.bool p1, .int .u64 p2, .int .u64 p3, .int .i64 p4] 33)).heap[w6.heap.size]? = some (.cells #[.bool p1, .int .u64 p2, .int .u64 p3, .int .i64 p4] 33 (0, 0))) := ⟨heap_alloc_new _ _⟩
        rw [hgx] at HX
        simp only [hgx]
        have HXN : Aside0 (gx ≠ p ∧ gx ≠ c ∧ gx ≠ B) := ⟨by have := HS.out.par.lt; omega, by have := HS.out.par.cur.lt; omega, by have := blk_lt HS.out.blk; omega⟩
        clear hgx
        replace HS := Aside0.mk (HS.out.alloc (.cells #[.bool p1, .int .u64 p2, .int .u64 p3, .int .i64 p4] 33))
        replace HT := Aside0.mk (blk_alloc HT.out (.cells #[.bool p1, .int .u64 p2, .int .u64 p3, .int .i64 p4] 33))
        generalize w6.alloc (.cells #[.bool p1, .int .u64 p2, .int .u64 p3, .int .i64 p4] 33) = W6 at HS HT HX ⊢
        have hn1 : (gx = B) = False := eq_false HXN.out.2.2
        have hn2 : (B = gx) = False := eq_false (Ne.symm HXN.out.2.2)
        by_cases hp5 : p5 = 0
        · have b5 : (p5 != 0) = false := by rw [hp5]; rfl
          have HX5 : Aside0 ((⟨⟨p1, p2, p3⟩, p4⟩, e5, a5) = (X, e6, a6)) := ⟨Option.some.inj ((if_pos hp5).symm.trans HPRE.out)⟩
          clear hp5
          obtain ⟨x0, x1, x2, x3⟩ := zc4 HX
          obtain ⟨d0, d1, d2, d3, d4, d5, d6, d7, d8, d9, d10, d11⟩ := zc12 ⟨HS.out.blk⟩
          obtain ⟨f0, f1, f2, f3, f4, f5, f6, f7, f8, f9, f10, f11⟩ := zf12 ⟨HS.out.blk⟩
          go_wp2
          clear x0 x1 x2 x3 d0 d1 d2 d3 d4 d5 d6 d7 d8 d9 d10 d11 f0 f1 f2 f3 f4 f5 f6 f7 f8 f9 f10 f11
          go_meet
          case rel => exact ⟨by
            have h1 := HS.out.put 1 (.bool p1) (A' := { aDef with f0 := tn.f1, f1 := ⟨⟨p1, aDef.f1.f0.f1, aDef.f1.f0.f2⟩, aDef.f1.f1⟩ }) rfl rfl
            have h2 := h1.put 2 (.int .u64 p2) (A' := { aDef with f0 := tn.f1, f1 := ⟨⟨p1, p2, aDef.f1.f0.f2⟩, aDef.f1.f1⟩ }) rfl rfl
            have h3 := h2.put 3 (.int .u64 p3) (A' := { aDef with f0 := tn.f1, f1 := ⟨⟨p1, p2, p3⟩, aDef.f1.f1⟩ }) rfl rfl
            have h4 := h3.put 4 (.int .i64 p4) (A' := { aDef with f0 := tn.f1, f1 := ⟨⟨p1, p2, p3⟩, p4⟩ }) rfl rfl
            have hx := HX5.out
            simp only [Prod.mk.injEq] at hx
            obtain ⟨rfl, rfl, rfl⟩ := hx
            exact h4⟩
        · have b5 : (p5 != 0) = true := bne_iff_ne.mpr hp5
          have HX5 : Aside0 ((⟨⟨p1, p2, p3⟩, p4⟩, failE e5 p5, failA e5 a5 t5.f2) = (X, e6, a6)) := ⟨Option.some.inj ((if_neg hp5).symm.trans HPRE.out)⟩
          clear hp5
          obtain ⟨d0, d1, d2⟩ := zc3 HT
          go_wp2_with fail
          refine (fail_walk w0 W6 p c L i5 e5 a5 p5 t5 HS.out.par HS.out.bel).mono ?_
          rintro r w7 ⟨rfl, hi, hb, hk⟩
          clear d0 d1 d2
          replace HX := Aside0.mk (blk_kept HX.out hk (by rintro (h | h); exact HXN.out.1 h; exact HXN.out.2.1 h))
          replace HS := Aside0.mk (HS.out.keep hi hb hk)
          clear hi hb hk
          obtain ⟨x0, x1, x2, x3⟩ := zc4 HX
          obtain ⟨d0, d1, d2, d3, d4, d5, d6, d7, d8, d9, d10, d11⟩ := zc12 ⟨HS.out.blk⟩
          obtain ⟨f0, f1, f2, f3, f4, f5, f6, f7, f8, f9, f10, f11⟩ := zf12 ⟨HS.out.blk⟩
          go_wp2
          clear x0 x1 x2 x3 d0 d1 d2 d3 d4 d5 d6 d7 d8 d9 d10 d11 f0 f1 f2 f3 f4 f5 f6 f7 f8 f9 f10 f11
          go_meet
          case rel => exact ⟨by
            have h1 := HS.out.put 1 (.bool p1) (A' := { aDef with f0 := tn.f1, f1 := ⟨⟨p1, aDef.f1.f0.f1, aDef.f1.f0.f2⟩, aDef.f1.f1⟩ }) rfl rfl
            have h2 := h1.put 2 (.int .u64 p2) (A' := { aDef with f0 := tn.f1, f1 := ⟨⟨p1, p2, aDef.f1.f0.f2⟩, aDef.f1.f1⟩ }) rfl rfl
            have h3 := h2.put 3 (.int .u64 p3) (A' := { aDef with f0 := tn.f1, f1 := ⟨⟨p1, p2, p3⟩, aDef.f1.f1⟩ }) rfl rfl
            have h4 := h3.put 4 (.int .i64 p4) (A' := { aDef with f0 := tn.f1, f1 := ⟨⟨p1, p2, p3⟩, p4⟩ }) rfl rfl
            have hx := HX5.out
            simp only [Prod.mk.injEq] at hx
            obtain ⟨rfl, rfl, rfl⟩ := hx
            exact h4⟩
      · have b1 : (e5 == 0) = false := beq_eq_false_iff_ne.mpr he
        have HX5 : Aside0 ((⟨⟨false, 0, 0⟩, 0⟩, e5, a5) = (X, e6, a6)) := ⟨by have hpre := HPRE.out; unfold preOne at hpre; rw [if_neg he] at hpre; exact Option.some.inj hpre⟩
        clear he
        go_wp2
        go_meet
        case rel => exact ⟨by
          have hx := HX5.out
          simp only [Prod.mk.injEq] at hx
          obtain ⟨rfl, rfl, rfl⟩ := hx
          exact HS.out⟩
    case rest =>
      clear HS HT HPRE HTN
      obtain ⟨HS⟩ := hcut
      replace HS := Aside0.mk HS
      go_upto_region 13 with (fail)
      have HS2 : Aside0 (StO w0 w (wc.alloc (.cells (optL.map Value.string).toArray 9)) p c g B L { aDef with f0 := tn.f1, f1 := X } (.slice A1 aDef.f8.length c1) (.slice (some ⟨wc.heap.size, 0, none⟩) optL.length optL.length) i5 e6 a6) := ⟨⟨HS.out.alloc _, lit_strs wc w.heap.size (by have := HS.out.geB; have := blk_lt HS.out.blk; omega) optL (by decide)⟩⟩
      replace HS := HS2
      clear HS2
      obtain ⟨go, hgo⟩ : ∃ x, wc.heap.size = x := ⟨_, rfl⟩
      rw [hgo] at HS
      simp only [hgo]
      clear hgo
      change Code.wp _ _ _ _ (wc.alloc (.cells (optL.map Value.string).toArray 9))
      generalize wc.alloc (.cells (optL.map Value.string).toArray 9) = W8 at HS ⊢
      have HL : Aside0 (LoopI k k L 0 { aDef with f0 := tn.f1, f1 := X } i5 e6 a6 (A', i', e', a')) := ⟨⟨HOPT.out, HP.out, by omega, by omega⟩⟩
      clear HOPT HP
      go_wp2_with fail
      go_loopg [9] k (fun gg v9 wr => ∃ (least : Int) (A : S36) (Av : Option Addr) (cv : Nat) (i e a : Int), v9 = .int .i64 least ∧ Aside0 (LoopI k gg L least A i e a (A', i', e', a')) ∧ Aside0 (StO w0 w wr p c g B L A (.slice Av A.f8.length cv) (.slice (some ⟨go, 0, none⟩) 7 7) i e a))
      case atStart => exact ⟨0, _, A1, c1, i5, e6, a6, rfl, HL, HS⟩
      case round =>
        clear HL HS
        obtain ⟨least, A, Av, cv, iz, ez, az, rfl, HL, HS⟩ := hrel
        obtain ⟨gg, hgg⟩ := HL.out.suc
        subst hgg
        have hc := HS.out.st.par.cells
        obtain ⟨c0, c1', c2⟩ := hc
        by_cases he : ez = 0
        · have b1 : (ez == 0) = true := beq_iff_eq.mpr he
          have HE := Aside0.mk he
          clear he
          go_wp2_with fail
          refine (mark_walk w0 wr c L iz ⟨#[59]⟩ HS.out.st.par.cur HS.out.st.bel HL.out.pos.ge HL.out.pos.lt HL.out.pos.le).mono ?_
          rintro r w4 ⟨rfl, hi, hb, hk⟩
          clear c0 c1' c2
          replace HS := Aside0.mk (HS.out.keep (HS.out.st.par.keep hk hi) hb ((Kept.refl wr _).of_keep hk (.inl (.inr rfl))))
          clear hi hb hk
          cases hm : isTok L iz 4 ⟨#[59]⟩ with
          | true =>
            have HR := Aside0.mk (HL.out.fin HE.out hm)
            clear hm
            obtain ⟨d0, d1, d2, d3, d4, d5, d6, d7, d8, d9, d10, d11⟩ := zc12 ⟨HS.out.st.blk⟩
            obtain ⟨r0, r1, r2, r3, r4, r5, r6, r7, r8, r9, r10, r11⟩ := zc12 ⟨HS.out.st.res⟩
            obtain ⟨f0, f1, f2, f3, f4, f5, f6, f7, f8, f9, f10, f11⟩ := zf12 ⟨HS.out.st.res⟩
            have hgB : (g = B) = False := eq_false HS.out.st.ne
            have hBg : (B = g) = False := eq_false (Ne.symm HS.out.st.ne)
            have hzg := blk_lt HS.out.st.res
            go_wp2
            exact bodyPost_ret (v := .agg (assetCells A (.slice Av A.f8.length cv))) (by simp [results, Tryz.results49, go_sem, r0, r1, r2, r3, r4, r5, r6, r7, r8, r9, r10, r11, hzg]) rfl (HS.out.st.fin.all HR.out)
          | false =>
            have HN : Aside0 (isNx L iz 4 ⟨#[59]⟩ = iz) := ⟨by unfold isNx; rw [hm]; rfl⟩
            rw [HN.out] at HS
            obtain ⟨n, hn, hcase⟩ := HL.out.on HE.out (by rw [hm]; decide)
            have HIX := Aside0.mk hn
            have HCS := Aside0.mk hcase
            have HPW := Aside0.mk (HL.out.pos.word (e := ez) (a := az))
            have HLB := Aside0.mk (And.intro HL.out.l0 HL.out.l7)
            have HP0 := Aside0.mk HL.out.pos
            clear hm hn hcase HN HL
            go_wp2_with fail
            refine (word_walk w0 w4 p c L iz ez az HS.out.st.par HS.out.st.bel HP0.out).mono ?_
            rintro r w5 ⟨rfl, hi, hb, hk⟩
            replace HS := Aside0.mk (HS.out.keep hi hb hk)
            clear hi hb hk
            obtain ⟨⟨t9, i9, e9, a9⟩, hq⟩ : ∃ q, pword L iz ez az = q := ⟨_, rfl⟩
            rw [hq] at HS HPW HIX HCS ⊢
            clear hq
            simp only at HIX HCS HPW
            go_upto_region 16 with (fail)
            obtain ⟨gq, hgt⟩ : ∃ x, w5.heap.size = x := ⟨_, rfl⟩
            have HT : Aside0 ((w5.alloc (.cells #[.int .i64 t9.f0, .string t9.f1, .int .i64 t9.f2] 84)).heap[w5.heap.size]? = some (.cells #[.int .i64 t9.f0, .string t9.f1, .int .i64 t9.f2] 84 (0, 0))) := ⟨heap_alloc_new _ _⟩
            rw [hgt] at HT
            simp only [hgt]
            have HTN := Aside0.mk (HS.out.old_ne hgt.symm)
            clear hgt
            replace HS := Aside0.mk (HS.out.alloc (.cells #[.int .i64 t9.f0, .string t9.f1, .int .i64 t9.f2] 84))
            generalize w5.alloc (.cells #[.int .i64 t9.f0, .string t9.f1, .int .i64 t9.f2] 84) = W9 at HS HT ⊢
            obtain ⟨d0, d1, d2⟩ := zc3 HT
            go_wp2_with fail
            refine (slices_Index_string.calls gg _ _ optL t9.f1 n W9 (Kd.R_reads' HS.out.opt).2.2 (by decide) HIX.out).mono ?_
            rintro r w6 ⟨rfl, hb⟩
            clear d0 d1 d2
            replace hb : Below W9.heap.size W9 w6 := by first | exact hb | exact hb.below
            replace HS := Aside0.mk (HS.out.below hb)
            replace HT := Aside0.mk (blk_below HT.out hb)
            clear hb
            obtain ⟨c0, c1', c2⟩ := HS.out.st.par.cells
            rcases HCS.out with ⟨h1, hr⟩ | ⟨h1, ⟨h2, hr⟩ | ⟨h2, h3, hr⟩ | ⟨h2, h3, h4, q, hq, hl⟩⟩
            · have HR := Aside0.mk hr
              have b2 : (e9 != 0) = true := bne_iff_ne.mpr h1
              clear h1 hr
              obtain ⟨d0, d1, d2, d3, d4, d5, d6, d7, d8, d9, d10, d11⟩ := zc12 ⟨HS.out.st.blk⟩
              obtain ⟨r0, r1, r2, r3, r4, r5, r6, r7, r8, r9, r10, r11⟩ := zc12 ⟨HS.out.st.res⟩
              obtain ⟨f0, f1, f2, f3, f4, f5, f6, f7, f8, f9, f10, f11⟩ := zf12 ⟨HS.out.st.res⟩
              have hgB : (g = B) = False := eq_false HS.out.st.ne
              have hBg : (B = g) = False := eq_false (Ne.symm HS.out.st.ne)
              have hzg := blk_lt HS.out.st.res
              go_wp2
              exact bodyPost_ret (v := .agg (assetCells A (.slice Av A.f8.length cv))) (by simp [results, Tryz.results49, go_sem, r0, r1, r2, r3, r4, r5, r6, r7, r8, r9, r10, r11, hzg]) rfl (HS.out.st.fin.all HR.out)
            · have HR := Aside0.mk hr
              have b2 : (e9 != 0) = false := by rw [h1]; rfl
              have b3 : decide (n < 0) = true := decide_eq_true h2
              have HE9 := Aside0.mk h1
              clear h1 h2 hr
              obtain ⟨d0, d1, d2⟩ := zc3 HT
              go_wp2_with fail
              refine (fail_walk w0 w6 p c L i9 e9 a9 15 t9 HS.out.st.par HS.out.st.bel).mono ?_
              rintro r w7 ⟨rfl, hi, hb, hk⟩
              rw [show failE e9 15 = 15 from if_pos HE9.out, show failA e9 a9 t9.f2 = t9.f2 from if_pos HE9.out] at hi
              clear d0 d1 d2 c0 c1' c2
              replace HS := Aside0.mk (HS.out.keep hi hb hk)
              clear hi hb hk
              obtain ⟨d0, d1, d2, d3, d4, d5, d6, d7, d8, d9, d10, d11⟩ := zc12 ⟨HS.out.st.blk⟩
              obtain ⟨r0, r1, r2, r3, r4, r5, r6, r7, r8, r9, r10, r11⟩ := zc12 ⟨HS.out.st.res⟩
              obtain ⟨f0, f1, f2, f3, f4, f5, f6, f7, f8, f9, f10, f11⟩ := zf12 ⟨HS.out.st.res⟩
              have hgB : (g = B) = False := eq_false HS.out.st.ne
              have hBg : (B = g) = False := eq_false (Ne.symm HS.out.st.ne)
              have hzg := blk_lt HS.out.st.res
              go_wp2
              exact bodyPost_ret (v := .agg (assetCells A (.slice Av A.f8.length cv))) (by simp [results, Tryz.results49, go_sem, r0, r1, r2, r3, r4, r5, r6, r7, r8, r9, r10, r11, hzg]) rfl (HS.out.st.fin.all HR.out)
            · have HR := Aside0.mk hr
              have b2 : (e9 != 0) = false := by rw [h1]; rfl
              have b3 : decide (n < 0) = false := decide_eq_false (Int.not_lt.mpr h2)
              have b4 : decide (n < least) = true := decide_eq_true h3
              have HE9 := Aside0.mk h1
              clear h1 h2 h3 hr
              obtain ⟨d0, d1, d2⟩ := zc3 HT
              go_wp2_with fail
              refine (fail_walk w0 w6 p c L i9 e9 a9 14 t9 HS.out.st.par HS.out.st.bel).mono ?_
              rintro r w7 ⟨rfl, hi, hb, hk⟩
              rw [show failE e9 14 = 14 from if_pos HE9.out, show failA e9 a9 t9.f2 = t9.f2 from if_pos HE9.out] at hi
              clear d0 d1 d2 c0 c1' c2
              replace HS := Aside0.mk (HS.out.keep hi hb hk)
              clear hi hb hk
              obtain ⟨d0, d1, d2, d3, d4, d5, d6, d7, d8, d9, d10, d11⟩ := zc12 ⟨HS.out.st.blk⟩
              obtain ⟨r0, r1, r2, r3, r4, r5, r6, r7, r8, r9, r10, r11⟩ := zc12 ⟨HS.out.st.res⟩
              obtain ⟨f0, f1, f2, f3, f4, f5, f6, f7, f8, f9, f10, f11⟩ := zf12 ⟨HS.out.st.res⟩
              have hgB : (g = B) = False := eq_false HS.out.st.ne
              have hBg : (B = g) = False := eq_false (Ne.symm HS.out.st.ne)
              have hzg := blk_lt HS.out.st.res
              go_wp2
              exact bodyPost_ret (v := .agg (assetCells A (.slice Av A.f8.length cv))) (by simp [results, Tryz.results49, go_sem, r0, r1, r2, r3, r4, r5, r6, r7, r8, r9, r10, r11, hzg]) rfl (HS.out.st.fin.all HR.out)
            · have b2 : (e9 != 0) = false := by rw [h1]; rfl
              have b3 : decide (n < 0) = false := decide_eq_false (Int.not_lt.mpr h2)
              have b4 : decide (n < least) = false := decide_eq_false (Int.not_lt.mpr h3)
              have HQ := Aside0.mk hq
              have HLP := Aside0.mk hl
              have HN := Aside0.mk (And.intro h2 h4)
              clear h1 h2 h3 h4 hq hl HCS
              have hns : n = 0 ∨ n = 1 ∨ n = 2 ∨ n = 3 ∨ n = 4 ∨ n = 5 ∨ n = 6 := by have := HN.out.1; have := HN.out.2; omega
              rcases hns with hn | hn | hn | hn | hn | hn | hn
              · skip
                subst hn
                have hx := opt_cell HS.out.opt 0 (by decide)
                have s0 : ((rdOf ByteArray.empty optL 0).toList == ([112, 111, 108, 105, 99, 121] : List UInt8)) = true := opt_eq 0 ([112, 111, 108, 105, 99, 121] : List UInt8) _ ⟨rfl, rfl⟩
                have hq := HQ.out
                unfold optOne at hq
                rw [if_pos rfl] at hq
                clear HQ HN
                have hl := HLP.out
                clear HLP
                obtain ⟨⟨m, i10, e10, a10⟩, hm, hq⟩ := Option.bind_eq_some_iff.1 hq
                have hq := Option.some.inj hq
                subst hq
                have HM := Aside0.mk hm
                have HLP : Aside0 (LoopI k gg L 1 { A with f2 := wrap64 (1 + m) } i10 e10 a10 (A', i', e', a')) := ⟨⟨hl, HPW.out.choice hm, by omega, by omega⟩⟩
                clear hm hl
                go_wp2_with fail
                refine (asset_policies.calls polL w6 rfl).mono ?_
                rintro r w7 ⟨v7, rfl, ho, hb⟩
                obtain ⟨A7, c7, hv⟩ := Kd.R_slice ho
                subst hv
                have HLS := Aside0.mk (strs_kept ho HS.out.st.par.lt HS.out.st.par.cur.lt)
                have hcap : 5 ≤ c7 := (Kd.R_reads' ho).2.1
                replace HS := Aside0.mk (HS.out.below hb)
                clear hb ho c0 c1' c2 hx
                have h5 : polL.length = 5 := rfl
                simp only [h5]
                skip
                go_wp2_with fail
                refine (choice_walk gg w0 w7 p c L i9 e9 a9 m i10 e10 a10 A7 c7 (polL.take 4) HS.out.st.par HS.out.st.bel HPW.out (fun W' hk => Kd.C_take (HLS.out W' hk) (by decide)) (Nat.le_trans (by decide) hcap) HM.out).mono ?_
                rintro r w8 ⟨rfl, hi, hb, hk⟩
                replace HS := Aside0.mk (HS.out.keep hi hb hk)
                clear hi hb hk hcap
                obtain ⟨d0, d1, d2, d3, d4, d5, d6, d7, d8, d9, d10, d11⟩ := zc12 ⟨HS.out.st.blk⟩
                obtain ⟨f0, f1, f2, f3, f4, f5, f6, f7, f8, f9, f10, f11⟩ := zf12 ⟨HS.out.st.blk⟩
                go_wp2
                clear d0 d1 d2 d3 d4 d5 d6 d7 d8 d9 d10 d11 f0 f1 f2 f3 f4 f5 f6 f7 f8 f9 f10 f11
                go_roundg gg
                case measure => exact Nat.lt_succ_self gg
                case rel => exact ⟨1, { A with f2 := wrap64 (1 + m) }, Av, cv, i10, e10, a10, rfl, HLP, ⟨HS.out.put 5 (.int .i64 (wrap64 (1 + m))) rfl rfl⟩⟩
              · skip
                subst hn
                have hx := opt_cell HS.out.opt 1 (by decide)
                have s0 : ((rdOf ByteArray.empty optL 1).toList == ([112, 111, 108, 105, 99, 121] : List UInt8)) = false := opt_eq 1 ([102, 114, 97, 103] : List UInt8) _ ⟨rfl, rfl⟩
                have s1 : ((rdOf ByteArray.empty optL 1).toList == ([102, 114, 97, 103] : List UInt8)) = true := opt_eq 1 ([102, 114, 97, 103] : List UInt8) _ ⟨rfl, rfl⟩
                have hq := HQ.out
                unfold optOne at hq
                rw [if_neg (by decide), if_pos rfl] at hq
                clear HQ HN
                have hl := HLP.out
                clear HLP
                obtain ⟨⟨m, i10, e10, a10⟩, hm, hq⟩ := Option.bind_eq_some_iff.1 hq
                have hq := Option.some.inj hq
                subst hq
                have HM := Aside0.mk hm
                have HLP : Aside0 (LoopI k gg L 2 { A with f3 := wrap64 (1 + m) } i10 e10 a10 (A', i', e', a')) := ⟨⟨hl, HPW.out.choice hm, by omega, by omega⟩⟩
                clear hm hl
                go_wp2_with fail
                refine (asset_policies.calls polL w6 rfl).mono ?_
                rintro r w7 ⟨v7, rfl, ho, hb⟩
                obtain ⟨A7, c7, hv⟩ := Kd.R_slice ho
                subst hv
                have HLS := Aside0.mk (strs_kept ho HS.out.st.par.lt HS.out.st.par.cur.lt)
                have hcap : 5 ≤ c7 := (Kd.R_reads' ho).2.1
                replace HS := Aside0.mk (HS.out.below hb)
                clear hb ho c0 c1' c2 hx
                have h5 : polL.length = 5 := rfl
                simp only [h5]
                skip
                go_wp2_with fail
                refine (choice_walk gg w0 w7 p c L i9 e9 a9 m i10 e10 a10 A7 c7 (polL) HS.out.st.par HS.out.st.bel HPW.out (fun W' hk => HLS.out W' hk) (Nat.le_trans (by decide) hcap) HM.out).mono ?_
                rintro r w8 ⟨rfl, hi, hb, hk⟩
                replace HS := Aside0.mk (HS.out.keep hi hb hk)
                clear hi hb hk hcap
                obtain ⟨d0, d1, d2, d3, d4, d5, d6, d7, d8, d9, d10, d11⟩ := zc12 ⟨HS.out.st.blk⟩
                obtain ⟨f0, f1, f2, f3, f4, f5, f6, f7, f8, f9, f10, f11⟩ := zf12 ⟨HS.out.st.blk⟩
                go_wp2
                clear d0 d1 d2 d3 d4 d5 d6 d7 d8 d9 d10 d11 f0 f1 f2 f3 f4 f5 f6 f7 f8 f9 f10 f11
                go_roundg gg
                case measure => exact Nat.lt_succ_self gg
                case rel => exact ⟨2, { A with f3 := wrap64 (1 + m) }, Av, cv, i10, e10, a10, rfl, HLP, ⟨HS.out.put 6 (.int .i64 (wrap64 (1 + m))) rfl rfl⟩⟩
              · skip
                subst hn
                have hx := opt_cell HS.out.opt 2 (by decide)
                have s0 : ((rdOf ByteArray.empty optL 2).toList == ([112, 111, 108, 105, 99, 121] : List UInt8)) = false := opt_eq 2 ([104, 111, 112, 115] : List UInt8) _ ⟨rfl, rfl⟩
                have s1 : ((rdOf ByteArray.empty optL 2).toList == ([102, 114, 97, 103] : List UInt8)) = false := opt_eq 2 ([104, 111, 112, 115] : List UInt8) _ ⟨rfl, rfl⟩
                have s2 : ((rdOf ByteArray.empty optL 2).toList == ([104, 111, 112, 115] : List UInt8)) = true := opt_eq 2 ([104, 111, 112, 115] : List UInt8) _ ⟨rfl, rfl⟩
                have hq := HQ.out
                unfold optOne at hq
                rw [if_neg (by decide), if_neg (by decide), if_pos rfl] at hq
                clear HQ HN
                have hl := HLP.out
                clear HLP
                obtain ⟨⟨m, i10, e10, a10⟩, hm, hq⟩ := Option.bind_eq_some_iff.1 hq
                have hq := Option.some.inj hq
                subst hq
                have HM := Aside0.mk hm
                have HLP : Aside0 (LoopI k gg L 3 { A with f4 := m } i10 e10 a10 (A', i', e', a')) := ⟨⟨hl, HPW.out.number hm, by omega, by omega⟩⟩
                clear hm hl
                go_wp2_with fail
                refine (number_walk' gg w0 w6 p c L i9 e9 a9 m i10 e10 a10 HS.out.st.par HS.out.st.bel HPW.out HM.out).mono ?_
                rintro r w7 ⟨rfl, hi, hb, hk⟩
                clear c0 c1' c2 hx
                replace HS := Aside0.mk (HS.out.keep hi hb hk)
                clear hi hb hk
                obtain ⟨d0, d1, d2, d3, d4, d5, d6, d7, d8, d9, d10, d11⟩ := zc12 ⟨HS.out.st.blk⟩
                obtain ⟨f0, f1, f2, f3, f4, f5, f6, f7, f8, f9, f10, f11⟩ := zf12 ⟨HS.out.st.blk⟩
                go_wp2
                clear d0 d1 d2 d3 d4 d5 d6 d7 d8 d9 d10 d11 f0 f1 f2 f3 f4 f5 f6 f7 f8 f9 f10 f11
                go_roundg gg
                case measure => exact Nat.lt_succ_self gg
                case rel => exact ⟨3, { A with f4 := m }, Av, cv, i10, e10, a10, rfl, HLP, ⟨HS.out.put 7 (.int .i64 m) rfl rfl⟩⟩
              · skip
                subst hn
                have hx := opt_cell HS.out.opt 3 (by decide)
                have s0 : ((rdOf ByteArray.empty optL 3).toList == ([112, 111, 108, 105, 99, 121] : List UInt8)) = false := opt_eq 3 ([119, 105, 110, 100, 111, 119] : List UInt8) _ ⟨rfl, rfl⟩
                have s1 : ((rdOf ByteArray.empty optL 3).toList == ([102, 114, 97, 103] : List UInt8)) = false := opt_eq 3 ([119, 105, 110, 100, 111, 119] : List UInt8) _ ⟨rfl, rfl⟩
                have s2 : ((rdOf ByteArray.empty optL 3).toList == ([104, 111, 112, 115] : List UInt8)) = false := opt_eq 3 ([119, 105, 110, 100, 111, 119] : List UInt8) _ ⟨rfl, rfl⟩
                have s3 : ((rdOf ByteArray.empty optL 3).toList == ([119, 105, 110, 100, 111, 119] : List UInt8)) = true := opt_eq 3 ([119, 105, 110, 100, 111, 119] : List UInt8) _ ⟨rfl, rfl⟩
                have hq := HQ.out
                unfold optOne at hq
                rw [if_neg (by decide), if_neg (by decide), if_neg (by decide), if_pos rfl] at hq
                clear HQ HN
                have hl := HLP.out
                clear HLP
                obtain ⟨⟨m, i10, e10, a10⟩, hm, hq⟩ := Option.bind_eq_some_iff.1 hq
                have hq := Option.some.inj hq
                subst hq
                have HM := Aside0.mk hm
                have HLP : Aside0 (LoopI k gg L 4 { A with f5 := m } i10 e10 a10 (A', i', e', a')) := ⟨⟨hl, HPW.out.number hm, by omega, by omega⟩⟩
                clear hm hl
                go_wp2_with fail
                refine (number_walk' gg w0 w6 p c L i9 e9 a9 m i10 e10 a10 HS.out.st.par HS.out.st.bel HPW.out HM.out).mono ?_
                rintro r w7 ⟨rfl, hi, hb, hk⟩
                clear c0 c1' c2 hx
                replace HS := Aside0.mk (HS.out.keep hi hb hk)
                clear hi hb hk
                obtain ⟨d0, d1, d2, d3, d4, d5, d6, d7, d8, d9, d10, d11⟩ := zc12 ⟨HS.out.st.blk⟩
                obtain ⟨f0, f1, f2, f3, f4, f5, f6, f7, f8, f9, f10, f11⟩ := zf12 ⟨HS.out.st.blk⟩
                go_wp2
                clear d0 d1 d2 d3 d4 d5 d6 d7 d8 d9 d10 d11 f0 f1 f2 f3 f4 f5 f6 f7 f8 f9 f10 f11
                go_roundg gg
                case measure => exact Nat.lt_succ_self gg
                case rel => exact ⟨4, { A with f5 := m }, Av, cv, i10, e10, a10, rfl, HLP, ⟨HS.out.put 8 (.int .i64 m) rfl rfl⟩⟩
              · skip
                subst hn
                have hx := opt_cell HS.out.opt 4 (by decide)
                have s0 : ((rdOf ByteArray.empty optL 4).toList == ([112, 111, 108, 105, 99, 121] : List UInt8)) = false := opt_eq 4 ([115, 116, 97, 109, 112, 115] : List UInt8) _ ⟨rfl, rfl⟩
                have s1 : ((rdOf ByteArray.empty optL 4).toList == ([102, 114, 97, 103] : List UInt8)) = false := opt_eq 4 ([115, 116, 97, 109, 112, 115] : List UInt8) _ ⟨rfl, rfl⟩
                have s2 : ((rdOf ByteArray.empty optL 4).toList == ([104, 111, 112, 115] : List UInt8)) = false := opt_eq 4 ([115, 116, 97, 109, 112, 115] : List UInt8) _ ⟨rfl, rfl⟩
                have s3 : ((rdOf ByteArray.empty optL 4).toList == ([119, 105, 110, 100, 111, 119] : List UInt8)) = false := opt_eq 4 ([115, 116, 97, 109, 112, 115] : List UInt8) _ ⟨rfl, rfl⟩
                have s4 : ((rdOf ByteArray.empty optL 4).toList == ([115, 116, 97, 109, 112, 115] : List UInt8)) = true := opt_eq 4 ([115, 116, 97, 109, 112, 115] : List UInt8) _ ⟨rfl, rfl⟩
                have hq := HQ.out
                unfold optOne at hq
                rw [if_neg (by decide), if_neg (by decide), if_neg (by decide), if_neg (by decide), if_pos rfl] at hq
                clear HQ HN
                have hl := HLP.out
                clear HLP
                have hq := Option.some.inj hq
                subst hq
                have HLP : Aside0 (LoopI k gg L 5 { A with f6 := true } i9 e9 a9 (A', i', e', a')) := ⟨⟨hl, HPW.out, by omega, by omega⟩⟩
                clear hl
                obtain ⟨d0, d1, d2, d3, d4, d5, d6, d7, d8, d9, d10, d11⟩ := zc12 ⟨HS.out.st.blk⟩
                obtain ⟨f0, f1, f2, f3, f4, f5, f6, f7, f8, f9, f10, f11⟩ := zf12 ⟨HS.out.st.blk⟩
                go_wp2
                clear d0 d1 d2 d3 d4 d5 d6 d7 d8 d9 d10 d11 f0 f1 f2 f3 f4 f5 f6 f7 f8 f9 f10 f11
                go_roundg gg
                case measure => exact Nat.lt_succ_self gg
                case rel => exact ⟨5, { A with f6 := true }, Av, cv, i9, e9, a9, rfl, HLP, ⟨HS.out.put 9 (.bool true) rfl rfl⟩⟩
              · skip
                subst hn
                have hx := opt_cell HS.out.opt 5 (by decide)
                have s0 : ((rdOf ByteArray.empty optL 5).toList == ([112, 111, 108, 105, 99, 121] : List UInt8)) = false := opt_eq 5 ([118, 97, 108, 117, 101] : List UInt8) _ ⟨rfl, rfl⟩
                have s1 : ((rdOf ByteArray.empty optL 5).toList == ([102, 114, 97, 103] : List UInt8)) = false := opt_eq 5 ([118, 97, 108, 117, 101] : List UInt8) _ ⟨rfl, rfl⟩
                have s2 : ((rdOf ByteArray.empty optL 5).toList == ([104, 111, 112, 115] : List UInt8)) = false := opt_eq 5 ([118, 97, 108, 117, 101] : List UInt8) _ ⟨rfl, rfl⟩
                have s3 : ((rdOf ByteArray.empty optL 5).toList == ([119, 105, 110, 100, 111, 119] : List UInt8)) = false := opt_eq 5 ([118, 97, 108, 117, 101] : List UInt8) _ ⟨rfl, rfl⟩
                have s4 : ((rdOf ByteArray.empty optL 5).toList == ([115, 116, 97, 109, 112, 115] : List UInt8)) = false := opt_eq 5 ([118, 97, 108, 117, 101] : List UInt8) _ ⟨rfl, rfl⟩
                have s5 : ((rdOf ByteArray.empty optL 5).toList == ([118, 97, 108, 117, 101] : List UInt8)) = true := opt_eq 5 ([118, 97, 108, 117, 101] : List UInt8) _ ⟨rfl, rfl⟩
                have hq := HQ.out
                unfold optOne at hq
                rw [if_neg (by decide), if_neg (by decide), if_neg (by decide), if_neg (by decide), if_neg (by decide), if_pos rfl] at hq
                clear HQ HN
                have hl := HLP.out
                clear HLP
                obtain ⟨⟨m, i10, e10, a10⟩, hm, hq⟩ := Option.bind_eq_some_iff.1 hq
                have hq := Option.some.inj hq
                subst hq
                have HM := Aside0.mk hm
                have HLP : Aside0 (LoopI k gg L 6 { A with f7 := m } i10 e10 a10 (A', i', e', a')) := ⟨⟨hl, HPW.out.number hm, by omega, by omega⟩⟩
                clear hm hl
                go_wp2_with fail
                refine (number_walk' gg w0 w6 p c L i9 e9 a9 m i10 e10 a10 HS.out.st.par HS.out.st.bel HPW.out HM.out).mono ?_
                rintro r w7 ⟨rfl, hi, hb, hk⟩
                clear c0 c1' c2 hx
                replace HS := Aside0.mk (HS.out.keep hi hb hk)
                clear hi hb hk
                obtain ⟨d0, d1, d2, d3, d4, d5, d6, d7, d8, d9, d10, d11⟩ := zc12 ⟨HS.out.st.blk⟩
                obtain ⟨f0, f1, f2, f3, f4, f5, f6, f7, f8, f9, f10, f11⟩ := zf12 ⟨HS.out.st.blk⟩
                go_wp2
                clear d0 d1 d2 d3 d4 d5 d6 d7 d8 d9 d10 d11 f0 f1 f2 f3 f4 f5 f6 f7 f8 f9 f10 f11
                go_roundg gg
                case measure => exact Nat.lt_succ_self gg
                case rel => exact ⟨6, { A with f7 := m }, Av, cv, i10, e10, a10, rfl, HLP, ⟨HS.out.put 10 (.int .i64 m) rfl rfl⟩⟩
              · skip
                subst hn
                have hx := opt_cell HS.out.opt 6 (by decide)
                have s0 : ((rdOf ByteArray.empty optL 6).toList == ([112, 111, 108, 105, 99, 121] : List UInt8)) = false := opt_eq 6 ([115, 101, 114, 118, 105, 99, 101] : List UInt8) _ ⟨rfl, rfl⟩
                have s1 : ((rdOf ByteArray.empty optL 6).toList == ([102, 114, 97, 103] : List UInt8)) = false := opt_eq 6 ([115, 101, 114, 118, 105, 99, 101] : List UInt8) _ ⟨rfl, rfl⟩
                have s2 : ((rdOf ByteArray.empty optL 6).toList == ([104, 111, 112, 115] : List UInt8)) = false := opt_eq 6 ([115, 101, 114, 118, 105, 99, 101] : List UInt8) _ ⟨rfl, rfl⟩
                have s3 : ((rdOf ByteArray.empty optL 6).toList == ([119, 105, 110, 100, 111, 119] : List UInt8)) = false := opt_eq 6 ([115, 101, 114, 118, 105, 99, 101] : List UInt8) _ ⟨rfl, rfl⟩
                have s4 : ((rdOf ByteArray.empty optL 6).toList == ([115, 116, 97, 109, 112, 115] : List UInt8)) = false := opt_eq 6 ([115, 101, 114, 118, 105, 99, 101] : List UInt8) _ ⟨rfl, rfl⟩
                have s5 : ((rdOf ByteArray.empty optL 6).toList == ([118, 97, 108, 117, 101] : List UInt8)) = false := opt_eq 6 ([115, 101, 114, 118, 105, 99, 101] : List UInt8) _ ⟨rfl, rfl⟩
                have hq := HQ.out
                unfold optOne at hq
                rw [if_neg (by decide), if_neg (by decide), if_neg (by decide), if_neg (by decide), if_neg (by decide), if_neg (by decide)] at hq
                clear HQ HN
                have hl := HLP.out
                clear HLP
                obtain ⟨⟨m1, i10, e10, a10⟩, hm1, hq⟩ := Option.bind_eq_some_iff.1 hq
                obtain ⟨⟨m2, i11, e11, a11⟩, hm2, hq⟩ := Option.bind_eq_some_iff.1 hq
                obtain ⟨⟨m3, i12, e12, a12⟩, hm3, hq⟩ := Option.bind_eq_some_iff.1 hq
                simp only at hm2 hm3 hq
                have hlen : A.f8.length < 1000000 := by
                  split at hq
                  · assumption
                  · cases hq
                rw [if_pos hlen] at hq
                have HLEN := Aside0.mk hlen
                have hq := Option.some.inj hq
                subst hq
                have HM1 := Aside0.mk hm1
                have HM2 := Aside0.mk hm2
                have HM3 := Aside0.mk hm3
                have HP1 := Aside0.mk (HPW.out.choice hm1)
                have HP2 := Aside0.mk (HP1.out.number hm2)
                have HLP : Aside0 (LoopI k gg L 6 { A with f8 := A.f8 ++ [⟨if m1 = 1 then 17 else 6, m2, m3⟩] } i12 e12 a12 (A', i', e', a')) := ⟨⟨hl, HP2.out.choice hm3, by omega, by omega⟩⟩
                clear hm1 hm2 hm3 hl hlen
                go_upto_region 29 with (fail)
                clear hx c0 c1' c2
                have HV := Aside0.mk (StV.new HS.out #[.int .i64 6, .int .i64 0, .int .i64 0])
                obtain ⟨gs, hgs⟩ : ∃ x, w6.heap.size = x := ⟨_, rfl⟩
                rw [hgs] at HV
                simp only [hgs]
                clear hgs HS
                generalize w6.alloc (.cells #[.int .i64 6, .int .i64 0, .int .i64 0] 74) = W6 at HV ⊢
                go_wp2_with fail
                have HLS : Aside0 (∀ W', KeepPC (W6.alloc (.cells (proL.map Value.string).toArray 9)) W' p c → Kd.C Kd.string W' (some ⟨W6.heap.size, 0, none⟩) proL.length proL) := ⟨strs_kept (lit_strs W6 W6.heap.size (Nat.le_refl _) proL (by decide)) HV.out.so.st.par.lt HV.out.so.st.par.cur.lt⟩
                replace HV := Aside0.mk (HV.out.alloc (.cells (proL.map Value.string).toArray 9))
                refine (choice_walk gg w0 (W6.alloc (.cells (proL.map Value.string).toArray 9)) p c L i9 e9 a9 m1 i10 e10 a10 _ 2 proL HV.out.so.st.par HV.out.so.st.bel HPW.out HLS.out (by decide) HM1.out).mono ?_
                rintro r w7 ⟨rfl, hi, hb, hk⟩
                replace HV := Aside0.mk (HV.out.keep hi hb hk)
                clear hi hb hk HLS
                go_upto_if 100 with (fail)
                go_cut [] (fun wc => Aside0 (StV w0 w wc p c g B gs L A (.slice Av A.f8.length cv) (.slice (some ⟨go, 0, none⟩) 7 7) i10 e10 a10 #[.int .i64 (if m1 = 1 then 17 else 6), .int .i64 0, .int .i64 0]))
                case first =>
                  by_cases hm : m1 = 1
                  · have b5 : (m1 == 1) = true := beq_iff_eq.mpr hm
                    have HE1 : Aside0 ((if m1 = 1 then 17 else 6 : Int) = 17) := ⟨if_pos hm⟩
                    clear hm
                    obtain ⟨d0, d1, d2⟩ := zc3 ⟨HV.out.sv⟩
                    obtain ⟨f0, f1, f2⟩ := zf3 ⟨HV.out.sv⟩
                    go_wp2
                    go_meet
                    case rel => exact ⟨by rw [HE1.out]; exact HV.out.put 0 (.int .i64 17)⟩
                  · have b5 : (m1 == 1) = false := beq_eq_false_iff_ne.mpr hm
                    have HE1 : Aside0 ((if m1 = 1 then 17 else 6 : Int) = 6) := ⟨if_neg hm⟩
                    clear hm
                    go_wp2
                    go_meet
                    case rel => exact ⟨by rw [HE1.out]; exact HV.out⟩
                case rest =>
                  clear HV
                  obtain ⟨HV⟩ := hcut
                  replace HV := Aside0.mk HV
                  obtain ⟨pr, hpr⟩ : ∃ x : Int, (if m1 = 1 then 17 else 6) = x := ⟨_, rfl⟩
                  rw [hpr] at HV HLP
                  clear hpr
                  go_wp2_with fail
                  refine (number_walk' gg w0 _ p c L i10 e10 a10 m2 i11 e11 a11 HV.out.so.st.par HV.out.so.st.bel HP1.out HM2.out).mono ?_
                  rintro r w8 ⟨rfl, hi, hb, hk⟩
                  replace HV := Aside0.mk (HV.out.keep hi hb hk)
                  clear hi hb hk
                  obtain ⟨d0, d1, d2⟩ := zc3 ⟨HV.out.sv⟩
                  obtain ⟨f0, f1, f2⟩ := zf3 ⟨HV.out.sv⟩
                  go_upto_region 32 with (fail)
                  clear d0 d1 d2 f0 f1 f2
                  replace HV : Aside0 (StV w0 w (w8.setCell ⟨gs, 1, none⟩ (.int .i64 m2)) p c g B gs L A (.slice Av A.f8.length cv) (.slice (some ⟨go, 0, none⟩) 7 7) i11 e11 a11 #[.int .i64 pr, .int .i64 m2, .int .i64 0]) := ⟨HV.out.put 1 (.int .i64 m2)⟩
                  generalize w8.setCell ⟨gs, 1, none⟩ (.int .i64 m2) = W8' at HV ⊢
                  go_wp2_with fail
                  refine (asset_apps.calls appL W8' rfl).mono ?_
                  rintro r w9 ⟨v9, rfl, ho, hb⟩
                  obtain ⟨A9, c9, hv⟩ := Kd.R_slice ho
                  subst hv
                  have HLS := Aside0.mk (strs_kept ho HV.out.so.st.par.lt HV.out.so.st.par.cur.lt)
                  have hcap : 5 ≤ c9 := (Kd.R_reads' ho).2.1
                  replace HV := Aside0.mk (HV.out.below hb)
                  clear hb ho
                  go_wp2_with fail
                  refine (choice_walk gg w0 w9 p c L i11 e11 a11 m3 i12 e12 a12 A9 c9 appL HV.out.so.st.par HV.out.so.st.bel HP2.out HLS.out hcap HM3.out).mono ?_
                  rintro r w10 ⟨rfl, hi, hb, hk⟩
                  replace HV := Aside0.mk (HV.out.keep hi hb hk)
                  clear hi hb hk hcap HLS
                  obtain ⟨d0, d1, d2⟩ := zc3 ⟨HV.out.sv⟩
                  obtain ⟨f0, f1, f2⟩ := zf3 ⟨HV.out.sv⟩
                  go_upto_region 33 with (fail)
                  clear d0 d1 d2 f0 f1 f2
                  replace HV : Aside0 (StV w0 w (w10.setCell ⟨gs, 2, none⟩ (.int .i64 m3)) p c g B gs L A (.slice Av A.f8.length cv) (.slice (some ⟨go, 0, none⟩) 7 7) i12 e12 a12 #[.int .i64 pr, .int .i64 m2, .int .i64 m3]) := ⟨HV.out.put 2 (.int .i64 m3)⟩
                  generalize w10.setCell ⟨gs, 2, none⟩ (.int .i64 m3) = W10 at HV ⊢
                  obtain ⟨d0, d1, d2⟩ := zc3 ⟨HV.out.sv⟩
                  obtain ⟨x0, x1, x2, x3, x4, x5, x6, x7, x8, x9, x10, x11⟩ := zc12 ⟨HV.out.so.st.blk⟩
                  go_wp2_with (at_builtin; refine Kd.R_append k74 (w0 := W10) w.heap.size rfl (.tmp 110) (.tmp 112) 34 74 (.agg #[.int .i64 0, .int .i64 0, .int .i64 0]) 24 rfl Tryz.underlying34 info74 rfl (by decide) (by omega) (.slice Av A.f8.length cv) A.f8 ⟨pr, m2, m3⟩ [.int .i64 pr, .int .i64 m2, .int .i64 m3] (fun _ => True) (fun _ => False) rfl (by go_simp) (k74_mkM _ _ _ ⟨pr, m2, m3⟩) (fun _ hk => hk.elim) (fun _ _ => trivial) HV.out.so.st.row (Below.refl _ _) ?aS ?aL ?_)
                  case aS => have := HV.out.ge; have := blk_lt HV.out.sv; omega
                  case aL => have := HLEN.out; omega
                  intro v1 w11 ho hb1 hg hat
                  obtain ⟨A11, c11, hv⟩ := Kd.R_slice ho
                  subst hv
                  have HZ := Aside0.mk (HV.out.so.append ⟨pr, m2, m3⟩ ho hg)
                  have hB11 : w11.heap[B]? = some (.cells (assetCells A (.slice Av A.f8.length cv)) 36 (0, 0)) := blk_grown HV.out.so.st.blk hg (Kd.R_ne HV.out.so.st.row HV.out.so.st.blk (by decide))
                  have HB11 := Aside0.mk hB11
                  obtain ⟨n11, hn11⟩ : ∃ x, (A.f8 ++ [(⟨pr, m2, m3⟩ : S74)]).length = x := ⟨_, rfl⟩
                  rw [hn11] at HZ ⊢
                  have HN11 := Aside0.mk hn11
                  clear hn11
                  clear ho hb1 hg hat d0 d1 d2 x0 x1 x2 x3 x4 x5 x6 x7 x8 x9 x10 x11 hB11
                  obtain ⟨x0, x1, x2, x3, x4, x5, x6, x7, x8, x9, x10, x11⟩ := zc12 HB11
                  obtain ⟨f0, f1, f2, f3, f4, f5, f6, f7, f8, f9, f10, f11⟩ := zf12 HB11
                  go_wp2
                  clear f0 f1 f2 f3 f4 f5 f6 f7 f8 f9 f10 f11 x0 x1 x2 x3 x4 x5 x6 x7 x8 x9 x10 x11
                  go_roundg gg
                  case measure => exact Nat.lt_succ_self gg
                  case rel => exact ⟨6, { A with f8 := A.f8 ++ [⟨pr, m2, m3⟩] }, A11, c11, i12, e12, a12, rfl, HLP, ⟨show StO w0 w (w11.setCell ⟨B, 11, none⟩ (.slice A11 n11 c11)) p c g B L { A with f8 := A.f8 ++ [⟨pr, m2, m3⟩] } (.slice A11 (A.f8 ++ [(⟨pr, m2, m3⟩ : S74)]).length c11) (.slice (some ⟨go, 0, none⟩) 7 7) i12 e12 a12 from by rw [HN11.out]; exact HZ.out⟩⟩
        · have HR := Aside0.mk (HL.out.bad he)
          have b1 : (ez == 0) = false := beq_eq_false_iff_ne.mpr he
          clear he
          obtain ⟨d0, d1, d2, d3, d4, d5, d6, d7, d8, d9, d10, d11⟩ := zc12 ⟨HS.out.st.blk⟩
          obtain ⟨r0, r1, r2, r3, r4, r5, r6, r7, r8, r9, r10, r11⟩ := zc12 ⟨HS.out.st.res⟩
          obtain ⟨f0, f1, f2, f3, f4, f5, f6, f7, f8, f9, f10, f11⟩ := zf12 ⟨HS.out.st.res⟩
          have hgB : (g = B) = False := eq_false HS.out.st.ne
          have hBg : (B = g) = False := eq_false (Ne.symm HS.out.st.ne)
          have hzg := blk_lt HS.out.st.res
          go_wp2
          exact bodyPost_ret (v := .agg (assetCells A (.slice Av A.f8.length cv))) (by simp [results, Tryz.results49, go_sem, r0, r1, r2, r3, r4, r5, r6, r7, r8, r9, r10, r11, hzg]) rfl (HS.out.st.fin.all HR.out)
end Go.Proofs.YtnphnhkinjppjaaGreatDoor.Q
end

section
set_option maxHeartbeats 8000000
set_option maxRecDepth 100000
namespace Go.Proofs.YtnphnhkinjppjaaGreatDoor.Q
open Go.RowKit Go.Proofs.YtnphnhkinjppjaaGreatDoorW.PrintWords Go.Proofs.YtnphnhkinjppjaaGreatDoorW.PrintLast Go.Proofs.YtnphnhkinjppjaaGreatDoorW.PrintMore
theorem clone_walk (w : World) (A0 : Option Addr) (c0 : Nat) (L : List (S84)) (hC : Kd.C k84 w A0 L.length L) (hp : L ≠ []) (hL : L.length ≤ 1000000) :
    Calls Tryz.prog 69 #[.slice A0 L.length c0] w fun e w' => ∃ v, e = .returned v ∧ Kd.R k84 84 w' w.heap.size (fun _ => True) v L ∧ Below w.heap.size w w' := by
  have hpos : 0 < L.length := List.length_pos_iff.2 hp
  obtain ⟨ad, rfl, _⟩ := at_T84 hC 0 (by omega) (by omega)
  have HC := Aside0.mk hC
  have HL := Aside0.mk hL
  obtain ⟨n, hn⟩ : ∃ n, L.length = n := ⟨_, rfl⟩
  have HN := Aside0.mk hn
  rw [hn] at hpos
  rw [hn]
  clear hC hL hp hn
  go_enter Tryz.func69, Tryz.ntmps69
  have he : ∀ W, (binOp .eql 86 (.slice (some ad) n c0) (.slice none 0 0)).run Tryz.prog W = .ok (.bool false) W := fun W => Lib.run_eql_slice_nil W 86 84 (some ad) n c0 0 0 Tryz.underlying86
  go_wp2_with (at_builtin; refine Kd.R_append_rows k84 (Rr := k84.K (w.alloc (.cells #[] 84))) (w0 := w) w.heap.size rfl (.tmp 5) (.tmp 6) 86 84 (.agg #[.int .i64 0, .string ⟨#[]⟩, .int .i64 0]) 32 rfl Tryz.underlying86 info84 rfl (by decide) (by decide) (.slice (some ⟨w.heap.size, 0, none⟩) 0 0) [] L (some ad) n c0 (fun _ => True) (fun _ => False) rfl rfl ?aO ?aR ?aK (fun _ h => h.elim) (fun _ _ => trivial) ?aB ?aS ?aL ?_)
  case aO => exact ⟨fun _ _ => trivial, [], ⟨by simp, .inr ⟨w.heap.size, 0, #[], rfl, Nat.le_refl _, heap_alloc_new w _, Nat.le_refl _, by simp [maxLen], rfl, rfl⟩⟩, Reps.none _ _⟩
  case aR => exact (by have h := Kd.C_below HC.out (below_alloc (Below.refl w.heap.size w) (.cells #[] 84)); rw [HN.out] at h; exact h)
  case aK => exact fun x cs h => by rw [k84_open h]; exact k84_mkM _ _ _ _
  case aB => exact below_alloc (Below.refl w.heap.size w) _
  case aS => simp
  case aL => have := HL.out; rw [HN.out] at this; simp; omega
  intro v1 w1 ho hb hg hat
  have HO := Aside0.mk ho
  have HB := Aside0.mk hb
  clear ho hb hg hat
  obtain ⟨A1, c1, hv⟩ := Kd.R_slice HO.out
  subst hv
  go_wp2
  go_ret
  exact ⟨_, rfl, HO.out, HB.out⟩
end Go.Proofs.YtnphnhkinjppjaaGreatDoor.Q
end

section
set_option maxHeartbeats 8000000
set_option maxRecDepth 100000
namespace Go.Proofs.YtnphnhkinjppjaaGreatDoor.Q
open Go.RowKit Go.Proofs.YtnphnhkinjppjaaGreatDoorW.PrintWords Go.Proofs.YtnphnhkinjppjaaGreatDoorW.PrintLast Go.Proofs.YtnphnhkinjppjaaGreatDoorW.PrintMore
attribute [local go_sem] max2_int min2_int max_two min_two max_three min_three max_four min_four
def lexer_skip_1.f (a0 : Int) : Option (Bool) := some (a0 != 10)
theorem lexer_skip_1.calls (a0 : Int) (r : Bool) (w : World) (h : lexer_skip_1.f a0 = some r) :
 Calls Tryz.prog 128 #[.int .u8 a0] w fun e w' => e = .returned (.bool r) ∧ Drawn0 w w' := by
 unfold lexer_skip_1.f at h; have H := h
 clear h
 obtain rfl := Option.some.inj H
 go_enter Tryz.func128, Tryz.ntmps128
 go_wp2
 go_ret
 exact ⟨by first | rfl | (simp; done) | (simp [*]; done), by repeat (first | exact Drawn0.refl _ | apply Drawn0.step)⟩
def lexer_while_at_lexer_skip_1.l0 : Nat → ByteArray → Int → Option (Int)
  | 0, _, _ => none
  | k + 1, x0, x1 => if x1 < (x0.size : Int) then (if 0 ≤ x1 then ((lexer_skip_1.f (bt x0 x1)).bind fun t150 => (if t150 = true then (lexer_while_at_lexer_skip_1.l0 k x0 (wrap64 (x1 + 1))) else (some x1))) else (none)) else (some x1)
def lexer_while_at_lexer_skip_1.f (k : Nat) (a0 : ByteArray) (a1 : Int)  : Option (Int) := lexer_while_at_lexer_skip_1.l0 k a0 a1
theorem lexer_while_at_lexer_skip_1.mono_l : ∀ k, (∀ y0 y1, LeO (lexer_while_at_lexer_skip_1.l0 k y0 y1) (lexer_while_at_lexer_skip_1.l0 (k + 1) y0 y1))
  | 0 => fun _ _ r h => by simp [lexer_while_at_lexer_skip_1.l0] at h
  | k + 1 => by
    have ih0 := lexer_while_at_lexer_skip_1.mono_l k
    · intro y0 y1
      unfold lexer_while_at_lexer_skip_1.l0
      repeat' first
      | (with_reducible exact ih0 _ _)
      | (with_reducible exact LeO.refl _)
      | (with_reducible exact LeO.none _)
      | (with_reducible refine LeO.ite ?_ ?_)
      | (with_reducible refine LeO.bind ?_ (fun _ => ?_))
theorem lexer_while_at_lexer_skip_1.mono : ∀ a0 a1 k, LeO (lexer_while_at_lexer_skip_1.f k a0 a1) (lexer_while_at_lexer_skip_1.f (k + 1) a0 a1) := by
  intro a0 a1 k
  have ih0 := lexer_while_at_lexer_skip_1.mono_l k
  unfold lexer_while_at_lexer_skip_1.f
  repeat' first
      | (with_reducible exact ih0 _ _)
      | (with_reducible exact LeO.refl _)
      | (with_reducible exact LeO.none _)
      | (with_reducible refine LeO.ite ?_ ?_)
      | (with_reducible refine LeO.bind ?_ (fun _ => ?_))
theorem lexer_while_at_lexer_skip_1.calls (k : Nat) (a0 : ByteArray) (a1 : Int)  (r : Int) (w : World) (h : lexer_while_at_lexer_skip_1.f k a0 a1 = some r) :
 Calls Tryz.prog 89 #[.string a0, .int .i64 a1, (.func (.func 128) #[] #[])] w fun e w' => e = .returned (.int .i64 r) ∧ Drawn0 w w' := by
 unfold lexer_while_at_lexer_skip_1.f at h; have H := h
 clear h
 have H' := Aside0.mk H
 clear H
 go_enter Tryz.func89, Tryz.ntmps89
 go_wp2
 go_loopg [1] k (fun kq v1 w' => ∃ (x1_1 : Int), v1 = .int .i64 x1_1 ∧ Aside0 (lexer_while_at_lexer_skip_1.l0 kq a0 x1_1 = some r) ∧ Aside0 (kq ≤ k) ∧ Drawn0 w w')
 case atStart => exact ⟨(a1), zI, H', ⟨Nat.le_refl _⟩, by repeat (first | exact Drawn0.refl _ | apply Drawn0.step)⟩
 case round =>
  clear H'
  obtain ⟨x1_1, rfl, HA, HK1, ⟨m1, rfl⟩⟩ := hrel
  rcases gk with _ | k1
  · exact absurd HA.out (by simp [lexer_while_at_lexer_skip_1.l0])
  have H := HA.out
  clear HA
  simp only [lexer_while_at_lexer_skip_1.l0] at H
  by_cases c4 : x1_1 < (a0.size : Int)
  rotate_left
  · rw [if_neg c4] at H
    have c4b0 : decide (x1_1 < (a0.size : Int)) = false := decide_eq_false c4; clear c4
    obtain rfl := Option.some.inj H
    go_wp2
    go_ret
    exact ⟨by first | rfl | (simp; done) | (simp [*]; done), by repeat (first | exact Drawn0.refl _ | apply Drawn0.step)⟩
  rw [if_pos c4] at H
  have c4b0 : decide (x1_1 < (a0.size : Int)) = true := decide_eq_true c4; clear c4
  by_cases c5 : 0 ≤ x1_1
  rotate_left
  · rw [if_neg c5] at H
    exact absurd H (by simp)
  rw [if_pos c5] at H
  have c5b0 : decide (0 ≤ x1_1) = true := decide_eq_true c5; clear c5
  replace H := Option.bind_eq_some_iff.mp H
  obtain ⟨t150, A70, H⟩ := H
  try dsimp only at H
  have A7 := Aside0.mk A70; clear A70
  by_cases c8 : t150 = true
  · subst c8
    rw [if_pos rfl] at H
    have H' := Aside0.mk H
    clear H
    have p6 : 0 ≤ (x1_1 : Int) := za
    have q6 : x1_1 < (a0.size : Int) := za
    have hx6 := bt_at a0 x1_1
    replace p6 := eq_true p6
    replace q6 := eq_true q6
    go_wp2_with (first | (go_at_call 128; (with_reducible refine (lexer_skip_1.calls (bt a0 x1_1) true _ A7.out).mono ?_); rintro e w' ⟨rfl, ⟨nd, rfl⟩⟩))
    go_roundg k1
    case measure => have := HK1.out; omega
    case rel => exact ⟨(wrap64 (x1_1 + 1)), zI, H', ⟨by have := HK1.out; omega⟩, by repeat (first | exact Drawn0.refl _ | apply Drawn0.step)⟩
  replace c8 := Bool.eq_false_iff.mpr c8
  subst c8; rw [if_neg zF] at H
  obtain rfl := Option.some.inj H
  have p6 : 0 ≤ (x1_1 : Int) := za
  have q6 : x1_1 < (a0.size : Int) := za
  have hx6 := bt_at a0 x1_1
  replace p6 := eq_true p6
  replace q6 := eq_true q6
  go_wp2_with (first | (go_at_call 128; (with_reducible refine (lexer_skip_1.calls (bt a0 x1_1) false _ A7.out).mono ?_); rintro e w' ⟨rfl, ⟨nd, rfl⟩⟩))
  go_ret
  exact ⟨by first | rfl | (simp; done) | (simp [*]; done), by repeat (first | exact Drawn0.refl _ | apply Drawn0.step)⟩
def lexer_skip.l0 : Nat → ByteArray → Int → Option (Int)
  | 0, _, _ => none
  | k + 1, x0, x1 => if x1 < (x0.size : Int) then (if 0 ≤ x1 then ((lexer_class.f k (bt x0 x1)).bind fun t151 => (if t151 = 1 then (lexer_skip.l0 k x0 (wrap64 (x1 + 1))) else (if (bt x0 x1) = 35 then ((lexer_while_at_lexer_skip_1.f k x0 x1).bind fun t152 => (lexer_skip.l0 k x0 t152)) else (some x1)))) else (none)) else (some x1)
def lexer_skip.f (k : Nat) (a0 : ByteArray) (a1 : Int) : Option (Int) := lexer_skip.l0 k a0 a1
theorem lexer_skip.mono_l : ∀ k, (∀ y0 y1, LeO (lexer_skip.l0 k y0 y1) (lexer_skip.l0 (k + 1) y0 y1))
  | 0 => fun _ _ r h => by simp [lexer_skip.l0] at h
  | k + 1 => by
    have ih0 := lexer_skip.mono_l k
    · intro y0 y1
      unfold lexer_skip.l0
      repeat' first
      | (with_reducible exact ih0 _ _)
      | (with_reducible exact lexer_class.mono _ _)
      | (with_reducible exact lexer_while_at_lexer_skip_1.mono _ _ _)
      | (with_reducible exact LeO.refl _)
      | (with_reducible exact LeO.none _)
      | (with_reducible refine LeO.ite ?_ ?_)
      | (with_reducible refine LeO.bind ?_ (fun _ => ?_))
theorem lexer_skip.mono : ∀ a0 a1 k, LeO (lexer_skip.f k a0 a1) (lexer_skip.f (k + 1) a0 a1) := by
  intro a0 a1 k
  have ih0 := lexer_skip.mono_l k
  unfold lexer_skip.f
  repeat' first
      | (with_reducible exact ih0 _ _)
      | (with_reducible exact lexer_class.mono _ _)
      | (with_reducible exact lexer_while_at_lexer_skip_1.mono _ _ _)
      | (with_reducible exact LeO.refl _)
      | (with_reducible exact LeO.none _)
      | (with_reducible refine LeO.ite ?_ ?_)
      | (with_reducible refine LeO.bind ?_ (fun _ => ?_))
theorem lexer_skip.calls (k : Nat) (a0 : ByteArray) (a1 : Int) (r : Int) (w : World) (h : lexer_skip.f k a0 a1 = some r) :
 Calls Tryz.prog 101 #[.string a0, .int .i64 a1] w fun e w' => e = .returned (.int .i64 r) ∧ Drawn0 w w' := by
 unfold lexer_skip.f at h; have H := h
 clear h
 have H' := Aside0.mk H
 clear H
 go_enter Tryz.func101, Tryz.ntmps101
 go_wp2
 go_loopg [1] k (fun kq v1 w' => ∃ (x1_1 : Int), v1 = .int .i64 x1_1 ∧ Aside0 (lexer_skip.l0 kq a0 x1_1 = some r) ∧ Aside0 (kq ≤ k) ∧ Drawn0 w w')
 case atStart => exact ⟨(a1), zI, H', ⟨Nat.le_refl _⟩, by repeat (first | exact Drawn0.refl _ | apply Drawn0.step)⟩
 case round =>
  clear H'
  obtain ⟨x1_1, rfl, HA, HK1, ⟨m1, rfl⟩⟩ := hrel
  rcases gk with _ | k1
  · exact absurd HA.out (by simp [lexer_skip.l0])
  have H := HA.out
  clear HA
  simp only [lexer_skip.l0] at H
  by_cases c3 : x1_1 < (a0.size : Int)
  rotate_left
  · rw [if_neg c3] at H
    have c3b0 : decide (x1_1 < (a0.size : Int)) = false := decide_eq_false c3; clear c3
    obtain rfl := Option.some.inj H
    go_wp2
    go_ret
    exact ⟨by first | rfl | (simp; done) | (simp [*]; done), by repeat (first | exact Drawn0.refl _ | apply Drawn0.step)⟩
  rw [if_pos c3] at H
  have c3b0 : decide (x1_1 < (a0.size : Int)) = true := decide_eq_true c3; clear c3
  by_cases c4 : 0 ≤ x1_1
  rotate_left
  · rw [if_neg c4] at H
    exact absurd H (by simp)
  rw [if_pos c4] at H
  have c4b0 : decide (0 ≤ x1_1) = true := decide_eq_true c4; clear c4
  replace H := Option.bind_eq_some_iff.mp H
  obtain ⟨t151, A60, H⟩ := H
  try dsimp only at H
  have A6 := Aside0.mk A60; clear A60
  by_cases c7 : t151 = 1
  · rw [if_pos c7] at H
    have c7b0 : (t151 == 1) = true := beq_iff_eq.mpr c7; have c7b1 : (t151 != 1) = false := bne_eq_false_iff_eq.mpr c7; clear c7
    have H' := Aside0.mk H
    clear H
    have p5 : 0 ≤ (x1_1 : Int) := za
    have q5 : x1_1 < (a0.size : Int) := za
    have hx5 := bt_at a0 x1_1
    replace p5 := eq_true p5
    replace q5 := eq_true q5
    go_wp2_with (first | ((with_reducible refine gate_callee (f := 88) rfl ?_); refine zgl 14 Tryz.func88 #[.int .u8 (bt a0 x1_1)] ?_; (with_reducible refine (lexer_class.calls k1 (bt a0 x1_1) t151 _ A6.out).mono ?_); rintro e w' ⟨rfl, ⟨nd, rfl⟩⟩; refine ⟨_, rfl, ?_⟩))
    go_roundg k1
    case measure => have := HK1.out; omega
    case rel => exact ⟨(wrap64 (x1_1 + 1)), zI, H', ⟨by have := HK1.out; omega⟩, by repeat (first | exact Drawn0.refl _ | apply Drawn0.step)⟩
  rw [if_neg c7] at H
  have c7b0 : (t151 == 1) = false := beq_eq_false_iff_ne.mpr c7
  have c7b1 : (t151 != 1) = true := bne_iff_ne.mpr c7
  by_cases c9 : (bt a0 x1_1) = 35
  · rw [if_pos c9] at H
    have c9b0 : ((bt a0 x1_1) == 35) = true := beq_iff_eq.mpr c9; have c9b1 : ((bt a0 x1_1) != 35) = false := bne_eq_false_iff_eq.mpr c9; clear c9
    replace H := Option.bind_eq_some_iff.mp H
    obtain ⟨t152, A100, H⟩ := H
    try dsimp only at H
    have A10 := Aside0.mk A100; clear A100
    have H' := Aside0.mk H
    clear H
    have p5 : 0 ≤ (x1_1 : Int) := za
    have q5 : x1_1 < (a0.size : Int) := za
    have hx5 := bt_at a0 x1_1
    replace p5 := eq_true p5
    replace q5 := eq_true q5
    go_wp2_with (first | ((with_reducible refine gate_callee (f := 88) rfl ?_); refine zgl 14 Tryz.func88 #[.int .u8 (bt a0 x1_1)] ?_; (with_reducible refine (lexer_class.calls k1 (bt a0 x1_1) t151 _ A6.out).mono ?_); rintro e w' ⟨rfl, ⟨nd, rfl⟩⟩; refine ⟨_, rfl, ?_⟩; have p8 : 0 ≤ (x1_1 : Int) := za; have q8 : x1_1 < (a0.size : Int) := za; have hx8 := bt_at a0 x1_1; replace p8 := eq_true p8; replace q8 := eq_true q8) | ((with_reducible refine gate_callee (f := 89) rfl ?_); refine zgl 25 Tryz.func89 #[.string a0, .int .i64 x1_1, (.func (.func 128) #[] #[])] ?_; (with_reducible refine (lexer_while_at_lexer_skip_1.calls k1 a0 x1_1  t152 _ A10.out).mono ?_); rintro e w' ⟨rfl, ⟨nd, rfl⟩⟩; refine ⟨_, rfl, ?_⟩))
    go_roundg k1
    case measure => have := HK1.out; omega
    case rel => exact ⟨(t152), zI, H', ⟨by have := HK1.out; omega⟩, by repeat (first | exact Drawn0.refl _ | apply Drawn0.step)⟩
  rw [if_neg c9] at H
  have c9b0 : ((bt a0 x1_1) == 35) = false := beq_eq_false_iff_ne.mpr c9
  have c9b1 : ((bt a0 x1_1) != 35) = true := bne_iff_ne.mpr c9
  obtain rfl := Option.some.inj H
  have p5 : 0 ≤ (x1_1 : Int) := za
  have q5 : x1_1 < (a0.size : Int) := za
  have hx5 := bt_at a0 x1_1
  replace p5 := eq_true p5
  replace q5 := eq_true q5
  go_wp2_with (first | ((with_reducible refine gate_callee (f := 88) rfl ?_); refine zgl 14 Tryz.func88 #[.int .u8 (bt a0 x1_1)] ?_; (with_reducible refine (lexer_class.calls k1 (bt a0 x1_1) t151 _ A6.out).mono ?_); rintro e w' ⟨rfl, ⟨nd, rfl⟩⟩; refine ⟨_, rfl, ?_⟩; have p8 : 0 ≤ (x1_1 : Int) := za; have q8 : x1_1 < (a0.size : Int) := za; have hx8 := bt_at a0 x1_1; replace p8 := eq_true p8; replace q8 := eq_true q8))
  go_ret
  exact ⟨by first | rfl | (simp; done) | (simp [*]; done), by repeat (first | exact Drawn0.refl _ | apply Drawn0.step)⟩
def lexer_inWord.f (k : Nat) (a0 : Int) : Option (Bool) := (lexer_class.f k a0).bind fun t153 => (some (decide (t153 ≥ 2)))
theorem lexer_inWord.mono : ∀ a0 k, LeO (lexer_inWord.f k a0) (lexer_inWord.f (k + 1) a0) := by
  intro a0 k
  unfold lexer_inWord.f
  repeat' first
      | (with_reducible exact lexer_class.mono _ _)
      | (with_reducible exact LeO.refl _)
      | (with_reducible exact LeO.none _)
      | (with_reducible refine LeO.ite ?_ ?_)
      | (with_reducible refine LeO.bind ?_ (fun _ => ?_))
theorem lexer_inWord.calls (k : Nat) (a0 : Int) (r : Bool) (w : World) (h : lexer_inWord.f k a0 = some r) :
 Calls Tryz.prog 129 #[.int .u8 a0] w fun e w' => e = .returned (.bool r) ∧ Drawn0 w w' := by
 unfold lexer_inWord.f at h; have H := h
 clear h
 replace H := Option.bind_eq_some_iff.mp H
 obtain ⟨t153, A20, H⟩ := H
 try dsimp only at H
 have A2 := Aside0.mk A20; clear A20
 obtain rfl := Option.some.inj H
 go_enter Tryz.func129, Tryz.ntmps129
 go_wp2_with (first | ((with_reducible refine gate_callee (f := 88) rfl ?_); refine zgl 4 Tryz.func88 #[.int .u8 a0] ?_; (with_reducible refine (lexer_class.calls k a0 t153 _ A2.out).mono ?_); rintro e w' ⟨rfl, ⟨nd, rfl⟩⟩; refine ⟨_, rfl, ?_⟩))
 go_ret
 exact ⟨by first | rfl | (simp; done) | (simp [*]; done), by repeat (first | exact Drawn0.refl _ | apply Drawn0.step)⟩
end Go.Proofs.YtnphnhkinjppjaaGreatDoor.Q
end

section
namespace Go.Proofs.YtnphnhkinjppjaaGreatDoor.Q
open Go.RowKit Go.Proofs.YtnphnhkinjppjaaGreatDoorW.PrintWords Go.Proofs.YtnphnhkinjppjaaGreatDoorW.PrintLast Go.Proofs.YtnphnhkinjppjaaGreatDoorW.PrintMore
def strings_IndexByte.f (s : ByteArray) (c : Int) : Option Int := some (Lib.indexByte s.data.toList c.toNat.toUInt8)
theorem strings_IndexByte.calls (s : ByteArray) (c : Int) (r : Int) (w : World) (h : strings_IndexByte.f s c = some r) :
    Calls Tryz.prog 149 #[.string s, .int .u8 c] w fun e w' => e = .returned (.int .i64 r) ∧ Below w.heap.size w w' := by
  unfold strings_IndexByte.f at h
  injection h with h
  subst h
  refine (Tryz.strings_IndexByte s c w).mono ?_
  rintro e w' ⟨rfl, rfl⟩
  exact ⟨rfl, Below.refl _ _⟩
end Go.Proofs.YtnphnhkinjppjaaGreatDoor.Q
end

section
set_option maxHeartbeats 8000000
set_option maxRecDepth 100000
namespace Go.Proofs.YtnphnhkinjppjaaGreatDoor.Q
open Go.RowKit Go.Proofs.YtnphnhkinjppjaaGreatDoorW.PrintWords Go.Proofs.YtnphnhkinjppjaaGreatDoorW.PrintLast Go.Proofs.YtnphnhkinjppjaaGreatDoorW.PrintMore
attribute [local go_sem] max2_int min2_int max_two min_two max_three min_three max_four min_four
def lexer_mark.j0 : Nat → ByteArray → Int → ByteArray → Bool → Option (ByteArray)
  | 0, _, _, _, _ => none
  | k + 1, x0, x1, x5, x25 => if x25 = true then (some x5) else (if 0 ≤ x1 then (if x1 < (x0.size : Int) then ((strings_IndexByte.f (⟨#[40, 41, 91, 93, 123, 125, 44, 59, 33, 61, 60, 62, 38, 43]⟩ : ByteArray) (bt x0 x1)).bind fun t160 => (if t160 ≥ 0 then (if x1 ≤ (wrap64 (x1 + 1)) then (if (wrap64 (x1 + 1)) ≤ (x0.size : Int) then (some (x0.extract (x1 : Int).toNat ((wrap64 (x1 + 1)) : Int).toNat)) else (none)) else (none)) else (some (⟨#[]⟩ : ByteArray)))) else (none)) else (none))
def lexer_mark.f (k : Nat) (a0 : ByteArray) (a1 : Int) : Option (ByteArray) := if (wrap64 (a1 + 2)) ≤ (a0.size : Int) then (if 0 ≤ a1 then (if a1 ≤ (wrap64 (a1 + 2)) then (if (a0.extract (a1 : Int).toNat ((wrap64 (a1 + 2)) : Int).toNat).toList = ([45, 62] : List UInt8) then (lexer_mark.j0 k a0 a1 (a0.extract (a1 : Int).toNat ((wrap64 (a1 + 2)) : Int).toNat) true) else (if (a0.extract (a1 : Int).toNat ((wrap64 (a1 + 2)) : Int).toNat).toList = ([60, 62] : List UInt8) then (lexer_mark.j0 k a0 a1 (a0.extract (a1 : Int).toNat ((wrap64 (a1 + 2)) : Int).toNat) true) else (lexer_mark.j0 k a0 a1 (a0.extract (a1 : Int).toNat ((wrap64 (a1 + 2)) : Int).toNat) ((a0.extract (a1 : Int).toNat ((wrap64 (a1 + 2)) : Int).toNat).toList == ([60, 61] : List UInt8))))) else (none)) else (none)) else (if 0 ≤ a1 then (if a1 < (a0.size : Int) then ((strings_IndexByte.f (⟨#[40, 41, 91, 93, 123, 125, 44, 59, 33, 61, 60, 62, 38, 43]⟩ : ByteArray) (bt a0 a1)).bind fun t161 => (if t161 ≥ 0 then (if a1 ≤ (wrap64 (a1 + 1)) then (if (wrap64 (a1 + 1)) ≤ (a0.size : Int) then (some (a0.extract (a1 : Int).toNat ((wrap64 (a1 + 1)) : Int).toNat)) else (none)) else (none)) else (some (⟨#[]⟩ : ByteArray)))) else (none)) else (none))
theorem lexer_mark.mono_l : ∀ k, (∀ y0 y1 y2 y3, LeO (lexer_mark.j0 k y0 y1 y2 y3) (lexer_mark.j0 (k + 1) y0 y1 y2 y3))
  | 0 => fun _ _ _ _ r h => by simp [lexer_mark.j0] at h
  | k + 1 => by
    have ih0 := lexer_mark.mono_l k
    · intro y0 y1 y2 y3
      unfold lexer_mark.j0
      repeat' first
      | (with_reducible exact ih0 _ _ _ _)
      | (with_reducible exact LeO.refl _)
      | (with_reducible exact LeO.none _)
      | (with_reducible refine LeO.ite ?_ ?_)
      | (with_reducible refine LeO.bind ?_ (fun _ => ?_))
theorem lexer_mark.mono : ∀ a0 a1 k, LeO (lexer_mark.f k a0 a1) (lexer_mark.f (k + 1) a0 a1) := by
  intro a0 a1 k
  have ih0 := lexer_mark.mono_l k
  unfold lexer_mark.f
  repeat' first
      | (with_reducible exact ih0 _ _ _ _)
      | (with_reducible exact LeO.refl _)
      | (with_reducible exact LeO.none _)
      | (with_reducible refine LeO.ite ?_ ?_)
      | (with_reducible refine LeO.bind ?_ (fun _ => ?_))
theorem lexer_mark.calls (k : Nat) (a0 : ByteArray) (a1 : Int) (r : ByteArray) (w : World) (h : lexer_mark.f k a0 a1 = some r) :
 Calls Tryz.prog 131 #[.string a0, .int .i64 a1] w fun e w' => e = .returned (.string r) ∧ Below w.heap.size w w' := by
 have HB := Aside0.mk (Below.refl w.heap.size w)
 unfold lexer_mark.f at h; have H := h
 clear h
 by_cases c3 : (wrap64 (a1 + 2)) ≤ (a0.size : Int)
 rotate_left
 · rw [if_neg c3] at H
   have c3b0 : decide ((wrap64 (a1 + 2)) ≤ (a0.size : Int)) = false := decide_eq_false c3; clear c3
   by_cases c21 : 0 ≤ a1
   rotate_left
   · rw [if_neg c21] at H
     exact absurd H (by simp)
   rw [if_pos c21] at H
   have c21b0 : decide (0 ≤ a1) = true := decide_eq_true c21; clear c21
   by_cases c22 : a1 < (a0.size : Int)
   rotate_left
   · rw [if_neg c22] at H
     exact absurd H (by simp)
   rw [if_pos c22] at H
   have c22b0 : decide (a1 < (a0.size : Int)) = true := decide_eq_true c22; clear c22
   replace H := Option.bind_eq_some_iff.mp H
   obtain ⟨t161, A240, H⟩ := H
   try dsimp only at H
   have A24 := Aside0.mk A240; clear A240
   by_cases c25 : t161 ≥ 0
   · rw [if_pos c25] at H
     have c25b0 : decide (0 ≤ t161) = true := decide_eq_true c25; clear c25
     have c26b0 := eq_true (of_decide_eq_true (by first | (with_reducible assumption) | assumption) : 0 ≤ a1)
     by_cases c27 : a1 ≤ (wrap64 (a1 + 1))
     rotate_left
     · rw [if_neg c27] at H
       exact absurd H (by simp)
     rw [if_pos c27] at H
     have c27b0 := eq_true c27
     have c27b1 : decide (a1 ≤ (wrap64 (a1 + 1))) = true := decide_eq_true c27
     by_cases c28 : (wrap64 (a1 + 1)) ≤ (a0.size : Int)
     rotate_left
     · rw [if_neg c28] at H
       exact absurd H (by simp)
     rw [if_pos c28] at H
     have c28b0 := eq_true c28
     have c28b1 : decide ((wrap64 (a1 + 1)) ≤ (a0.size : Int)) = true := decide_eq_true c28
     obtain rfl := Option.some.inj H
     have p23 : 0 ≤ (a1 : Int) := za
     have q23 : a1 < (a0.size : Int) := za
     have hx23 := bt_at a0 a1
     replace p23 := eq_true p23
     replace q23 := eq_true q23
     go_enter Tryz.func131, Tryz.ntmps131
     go_wp2_with (first | ((with_reducible refine gate_callee (f := 149) rfl ?_); refine zgl 30 Tryz.func149 #[.string (⟨#[40, 41, 91, 93, 123, 125, 44, 59, 33, 61, 60, 62, 38, 43]⟩ : ByteArray), .int .u8 (bt a0 a1)] ?_; (with_reducible refine (strings_IndexByte.calls (⟨#[40, 41, 91, 93, 123, 125, 44, 59, 33, 61, 60, 62, 38, 43]⟩ : ByteArray) (bt a0 a1) t161 _ A24.out).mono ?_); rintro e w29 ⟨rfl, hb⟩; refine ⟨_, rfl, ?_⟩; replace HB := Aside0.mk (below_step (zB HB) hb); (try clear hb)))
     go_ret
     exact ⟨zr, zB HB⟩
   rw [if_neg c25] at H
   have c25b0 : decide (0 ≤ t161) = false := decide_eq_false c25; clear c25
   obtain rfl := Option.some.inj H
   have p23 : 0 ≤ (a1 : Int) := za
   have q23 : a1 < (a0.size : Int) := za
   have hx23 := bt_at a0 a1
   replace p23 := eq_true p23
   replace q23 := eq_true q23
   go_enter Tryz.func131, Tryz.ntmps131
   go_wp2_with (first | ((with_reducible refine gate_callee (f := 149) rfl ?_); refine zgl 30 Tryz.func149 #[.string (⟨#[40, 41, 91, 93, 123, 125, 44, 59, 33, 61, 60, 62, 38, 43]⟩ : ByteArray), .int .u8 (bt a0 a1)] ?_; (with_reducible refine (strings_IndexByte.calls (⟨#[40, 41, 91, 93, 123, 125, 44, 59, 33, 61, 60, 62, 38, 43]⟩ : ByteArray) (bt a0 a1) t161 _ A24.out).mono ?_); rintro e w30 ⟨rfl, hb⟩; refine ⟨_, rfl, ?_⟩; replace HB := Aside0.mk (below_step (zB HB) hb); (try clear hb)))
   go_ret
   exact ⟨zr, zB HB⟩
 rw [if_pos c3] at H
 have c3b0 : decide ((wrap64 (a1 + 2)) ≤ (a0.size : Int)) = true := decide_eq_true c3; clear c3
 by_cases c4 : 0 ≤ a1
 rotate_left
 · rw [if_neg c4] at H
   exact absurd H (by simp)
 rw [if_pos c4] at H
 have c4b0 := eq_true c4
 have c4b1 : decide (0 ≤ a1) = true := decide_eq_true c4; clear c4
 by_cases c5 : a1 ≤ (wrap64 (a1 + 2))
 rotate_left
 · rw [if_neg c5] at H
   exact absurd H (by simp)
 rw [if_pos c5] at H
 have c5b0 := eq_true c5
 have c5b1 : decide (a1 ≤ (wrap64 (a1 + 2))) = true := decide_eq_true c5
 have c6b0 := eq_true (of_decide_eq_true (by first | (with_reducible assumption) | assumption) : (wrap64 (a1 + 2)) ≤ (a0.size : Int))
 have HC7 := Aside0.mk H; clear H
 go_enter Tryz.func131, Tryz.ntmps131
 go_upto_region 3 with (fail)
 go_cut [25] (fun v25 wc => ∃ (kq : Nat) (x25_6 : Bool), v25 = .bool x25_6 ∧ Aside0 (lexer_mark.j0 kq a0 a1 (a0.extract (a1 : Int).toNat ((wrap64 (a1 + 2)) : Int).toNat) x25_6 = some r) ∧ Aside0 (kq ≤ k) ∧ Aside0 (Below w.heap.size w wc))
 case first =>
  have H := HC7.out
  clear HC7
  by_cases c8 : (a0.extract (a1 : Int).toNat ((wrap64 (a1 + 2)) : Int).toNat).toList = ([45, 62] : List UInt8)
  · rw [if_pos c8] at H
    have c8b0 : ((a0.extract (a1 : Int).toNat ((wrap64 (a1 + 2)) : Int).toNat).toList == ([45, 62] : List UInt8)) = true := beq_iff_eq.mpr c8; have c8b1 : ((a0.extract (a1 : Int).toNat ((wrap64 (a1 + 2)) : Int).toNat).toList != ([45, 62] : List UInt8)) = false := bne_eq_false_iff_eq.mpr c8; clear c8
    (first | rw [c8b0] | (simp only [i64_w, i32_w]; rw [c8b0]) | skip)
    have H' := Aside0.mk H
    clear H
    go_wp2
    go_meet
    case rel => exact ⟨_, (true), zI, H', ⟨by first | omega | exact Nat.le_refl _⟩, ⟨zB HB⟩⟩
  rw [if_neg c8] at H
  have c8b0 : ((a0.extract (a1 : Int).toNat ((wrap64 (a1 + 2)) : Int).toNat).toList == ([45, 62] : List UInt8)) = false := beq_eq_false_iff_ne.mpr c8
  have c8b1 : ((a0.extract (a1 : Int).toNat ((wrap64 (a1 + 2)) : Int).toNat).toList != ([45, 62] : List UInt8)) = true := bne_iff_ne.mpr c8
  (first | rw [c8b0] | (simp only [i64_w, i32_w]; rw [c8b0]) | skip)
  by_cases c9 : (a0.extract (a1 : Int).toNat ((wrap64 (a1 + 2)) : Int).toNat).toList = ([60, 62] : List UInt8)
  · rw [if_pos c9] at H
    have c9b0 : ((a0.extract (a1 : Int).toNat ((wrap64 (a1 + 2)) : Int).toNat).toList == ([60, 62] : List UInt8)) = true := beq_iff_eq.mpr c9; have c9b1 : ((a0.extract (a1 : Int).toNat ((wrap64 (a1 + 2)) : Int).toNat).toList != ([60, 62] : List UInt8)) = false := bne_eq_false_iff_eq.mpr c9; clear c9
    have H' := Aside0.mk H
    clear H
    go_wp2
    go_meet
    case rel => exact ⟨_, (true), zI, H', ⟨by first | omega | exact Nat.le_refl _⟩, ⟨zB HB⟩⟩
  rw [if_neg c9] at H
  have c9b0 : ((a0.extract (a1 : Int).toNat ((wrap64 (a1 + 2)) : Int).toNat).toList == ([60, 62] : List UInt8)) = false := beq_eq_false_iff_ne.mpr c9
  have c9b1 : ((a0.extract (a1 : Int).toNat ((wrap64 (a1 + 2)) : Int).toNat).toList != ([60, 62] : List UInt8)) = true := bne_iff_ne.mpr c9
  have H' := Aside0.mk H
  clear H
  go_wp2
  go_meet
  case rel => exact ⟨_, (((a0.extract (a1 : Int).toNat ((wrap64 (a1 + 2)) : Int).toNat).toList == ([60, 61] : List UInt8))), zI, H', ⟨by first | omega | exact Nat.le_refl _⟩, ⟨zB HB⟩⟩
 case rest =>
  clear HC7
  (try clear c3); (try clear c3b0); (try clear c4); (try clear c4b0); (try clear c4b1); (try clear c5); (try clear c5b0); (try clear c5b1); (try clear c6b0)
  obtain ⟨kq, x25_6, rfl, HA, HJ6, HB⟩ := hcut
  rcases kq with _ | kj6
  · exact absurd HA.out (by simp [lexer_mark.j0])
  have H := HA.out
  clear HA
  simp only [lexer_mark.j0] at H
  by_cases c10 : x25_6 = true
  · subst c10
    rw [if_pos rfl] at H
    obtain rfl := Option.some.inj H
    go_wp2
    go_ret
    exact ⟨zr, zB HB⟩
  replace c10 := Bool.eq_false_iff.mpr c10
  subst c10; rw [if_neg zF] at H
  by_cases c11 : 0 ≤ a1
  rotate_left
  · rw [if_neg c11] at H
    exact absurd H (by simp)
  rw [if_pos c11] at H
  have c11b0 : decide (0 ≤ a1) = true := decide_eq_true c11; clear c11
  by_cases c12 : a1 < (a0.size : Int)
  rotate_left
  · rw [if_neg c12] at H
    exact absurd H (by simp)
  rw [if_pos c12] at H
  have c12b0 : decide (a1 < (a0.size : Int)) = true := decide_eq_true c12; clear c12
  replace H := Option.bind_eq_some_iff.mp H
  obtain ⟨t160, A140, H⟩ := H
  try dsimp only at H
  have A14 := Aside0.mk A140; clear A140
  by_cases c15 : t160 ≥ 0
  · rw [if_pos c15] at H
    have c15b0 : decide (0 ≤ t160) = true := decide_eq_true c15; clear c15
    have c16b0 := eq_true (of_decide_eq_true (by first | (with_reducible assumption) | assumption) : 0 ≤ a1)
    by_cases c17 : a1 ≤ (wrap64 (a1 + 1))
    rotate_left
    · rw [if_neg c17] at H
      exact absurd H (by simp)
    rw [if_pos c17] at H
    have c17b0 := eq_true c17
    have c17b1 : decide (a1 ≤ (wrap64 (a1 + 1))) = true := decide_eq_true c17
    by_cases c18 : (wrap64 (a1 + 1)) ≤ (a0.size : Int)
    · rw [if_pos c18] at H
      have c18b0 := eq_true c18
      have c18b1 : decide ((wrap64 (a1 + 1)) ≤ (a0.size : Int)) = true := decide_eq_true c18
      obtain rfl := Option.some.inj H
      have p13 : 0 ≤ (a1 : Int) := za
      have q13 : a1 < (a0.size : Int) := za
      have hx13 := bt_at a0 a1
      replace p13 := eq_true p13
      replace q13 := eq_true q13
      go_wp2_with (first | ((with_reducible refine gate_callee (f := 149) rfl ?_); refine zgl 30 Tryz.func149 #[.string (⟨#[40, 41, 91, 93, 123, 125, 44, 59, 33, 61, 60, 62, 38, 43]⟩ : ByteArray), .int .u8 (bt a0 a1)] ?_; (with_reducible refine (strings_IndexByte.calls (⟨#[40, 41, 91, 93, 123, 125, 44, 59, 33, 61, 60, 62, 38, 43]⟩ : ByteArray) (bt a0 a1) t160 _ A14.out).mono ?_); rintro e w19 ⟨rfl, hb⟩; refine ⟨_, rfl, ?_⟩; replace HB := Aside0.mk (below_step (zB HB) hb); (try clear hb)))
      go_ret
      exact ⟨zr, zB HB⟩
    rw [if_neg c18] at H
    exact absurd H (by simp)
  rw [if_neg c15] at H
  have c15b0 : decide (0 ≤ t160) = false := decide_eq_false c15; clear c15
  obtain rfl := Option.some.inj H
  have p13 : 0 ≤ (a1 : Int) := za
  have q13 : a1 < (a0.size : Int) := za
  have hx13 := bt_at a0 a1
  replace p13 := eq_true p13
  replace q13 := eq_true q13
  go_wp2_with (first | ((with_reducible refine gate_callee (f := 149) rfl ?_); refine zgl 30 Tryz.func149 #[.string (⟨#[40, 41, 91, 93, 123, 125, 44, 59, 33, 61, 60, 62, 38, 43]⟩ : ByteArray), .int .u8 (bt a0 a1)] ?_; (with_reducible refine (strings_IndexByte.calls (⟨#[40, 41, 91, 93, 123, 125, 44, 59, 33, 61, 60, 62, 38, 43]⟩ : ByteArray) (bt a0 a1) t160 _ A14.out).mono ?_); rintro e w20 ⟨rfl, hb⟩; refine ⟨_, rfl, ?_⟩; replace HB := Aside0.mk (below_step (zB HB) hb); (try clear hb)))
  go_ret
  exact ⟨zr, zB HB⟩
def lexer_while_at_lexer_inWord.l0 : Nat → ByteArray → Int → Option (Int)
  | 0, _, _ => none
  | k + 1, x0, x1 => if x1 < (x0.size : Int) then (if 0 ≤ x1 then ((lexer_inWord.f k (bt x0 x1)).bind fun t162 => (if t162 = true then (lexer_while_at_lexer_inWord.l0 k x0 (wrap64 (x1 + 1))) else (some x1))) else (none)) else (some x1)
def lexer_while_at_lexer_inWord.f (k : Nat) (a0 : ByteArray) (a1 : Int)  : Option (Int) := lexer_while_at_lexer_inWord.l0 k a0 a1
theorem lexer_while_at_lexer_inWord.mono_l : ∀ k, (∀ y0 y1, LeO (lexer_while_at_lexer_inWord.l0 k y0 y1) (lexer_while_at_lexer_inWord.l0 (k + 1) y0 y1))
  | 0 => fun _ _ r h => by simp [lexer_while_at_lexer_inWord.l0] at h
  | k + 1 => by
    have ih0 := lexer_while_at_lexer_inWord.mono_l k
    · intro y0 y1
      unfold lexer_while_at_lexer_inWord.l0
      repeat' first
      | (with_reducible exact ih0 _ _)
      | (with_reducible exact lexer_inWord.mono _ _)
      | (with_reducible exact LeO.refl _)
      | (with_reducible exact LeO.none _)
      | (with_reducible refine LeO.ite ?_ ?_)
      | (with_reducible refine LeO.bind ?_ (fun _ => ?_))
theorem lexer_while_at_lexer_inWord.mono : ∀ a0 a1 k, LeO (lexer_while_at_lexer_inWord.f k a0 a1) (lexer_while_at_lexer_inWord.f (k + 1) a0 a1) := by
  intro a0 a1 k
  have ih0 := lexer_while_at_lexer_inWord.mono_l k
  unfold lexer_while_at_lexer_inWord.f
  repeat' first
      | (with_reducible exact ih0 _ _)
      | (with_reducible exact lexer_inWord.mono _ _)
      | (with_reducible exact LeO.refl _)
      | (with_reducible exact LeO.none _)
      | (with_reducible refine LeO.ite ?_ ?_)
      | (with_reducible refine LeO.bind ?_ (fun _ => ?_))
theorem lexer_while_at_lexer_inWord.calls (k : Nat) (a0 : ByteArray) (a1 : Int)  (r : Int) (w : World) (h : lexer_while_at_lexer_inWord.f k a0 a1 = some r) :
 Calls Tryz.prog 89 #[.string a0, .int .i64 a1, (.func (.func 129) #[] #[])] w fun e w' => e = .returned (.int .i64 r) ∧ Drawn0 w w' := by
 unfold lexer_while_at_lexer_inWord.f at h; have H := h
 clear h
 have H' := Aside0.mk H
 clear H
 go_enter Tryz.func89, Tryz.ntmps89
 go_wp2
 go_loopg [1] k (fun kq v1 w' => ∃ (x1_1 : Int), v1 = .int .i64 x1_1 ∧ Aside0 (lexer_while_at_lexer_inWord.l0 kq a0 x1_1 = some r) ∧ Aside0 (kq ≤ k) ∧ Drawn0 w w')
 case atStart => exact ⟨(a1), zI, H', ⟨Nat.le_refl _⟩, by repeat (first | exact Drawn0.refl _ | apply Drawn0.step)⟩
 case round =>
  clear H'
  obtain ⟨x1_1, rfl, HA, HK1, ⟨m1, rfl⟩⟩ := hrel
  rcases gk with _ | k1
  · exact absurd HA.out (by simp [lexer_while_at_lexer_inWord.l0])
  have H := HA.out
  clear HA
  simp only [lexer_while_at_lexer_inWord.l0] at H
  by_cases c4 : x1_1 < (a0.size : Int)
  rotate_left
  · rw [if_neg c4] at H
    have c4b0 : decide (x1_1 < (a0.size : Int)) = false := decide_eq_false c4; clear c4
    obtain rfl := Option.some.inj H
    go_wp2
    go_ret
    exact ⟨by first | rfl | (simp; done) | (simp [*]; done), by repeat (first | exact Drawn0.refl _ | apply Drawn0.step)⟩
  rw [if_pos c4] at H
  have c4b0 : decide (x1_1 < (a0.size : Int)) = true := decide_eq_true c4; clear c4
  by_cases c5 : 0 ≤ x1_1
  rotate_left
  · rw [if_neg c5] at H
    exact absurd H (by simp)
  rw [if_pos c5] at H
  have c5b0 : decide (0 ≤ x1_1) = true := decide_eq_true c5; clear c5
  replace H := Option.bind_eq_some_iff.mp H
  obtain ⟨t162, A70, H⟩ := H
  try dsimp only at H
  have A7 := Aside0.mk A70; clear A70
  by_cases c8 : t162 = true
  · subst c8
    rw [if_pos rfl] at H
    have H' := Aside0.mk H
    clear H
    have p6 : 0 ≤ (x1_1 : Int) := za
    have q6 : x1_1 < (a0.size : Int) := za
    have hx6 := bt_at a0 x1_1
    replace p6 := eq_true p6
    replace q6 := eq_true q6
    go_wp2_with (first | (go_at_call 129; (with_reducible refine (lexer_inWord.calls k1 (bt a0 x1_1) true _ A7.out).mono ?_); rintro e w' ⟨rfl, ⟨nd, rfl⟩⟩))
    go_roundg k1
    case measure => have := HK1.out; omega
    case rel => exact ⟨(wrap64 (x1_1 + 1)), zI, H', ⟨by have := HK1.out; omega⟩, by repeat (first | exact Drawn0.refl _ | apply Drawn0.step)⟩
  replace c8 := Bool.eq_false_iff.mpr c8
  subst c8; rw [if_neg zF] at H
  obtain rfl := Option.some.inj H
  have p6 : 0 ≤ (x1_1 : Int) := za
  have q6 : x1_1 < (a0.size : Int) := za
  have hx6 := bt_at a0 x1_1
  replace p6 := eq_true p6
  replace q6 := eq_true q6
  go_wp2_with (first | (go_at_call 129; (with_reducible refine (lexer_inWord.calls k1 (bt a0 x1_1) false _ A7.out).mono ?_); rintro e w' ⟨rfl, ⟨nd, rfl⟩⟩))
  go_ret
  exact ⟨by first | rfl | (simp; done) | (simp [*]; done), by repeat (first | exact Drawn0.refl _ | apply Drawn0.step)⟩
def lexer_plain.f (a0 : Int) : Option (Bool) := if a0 ≥ 32 then (if a0 ≤ 126 then (if a0 = 34 then (some false) else (if a0 = 92 then (some false) else (some (a0 != 124)))) else (some false)) else (some false)
theorem lexer_plain.calls (a0 : Int) (r : Bool) (w : World) (h : lexer_plain.f a0 = some r) :
 Calls Tryz.prog 146 #[.int .u8 a0] w fun e w' => e = .returned (.bool r) ∧ Drawn0 w w' := by
 unfold lexer_plain.f at h; have H := h
 clear h
 by_cases c2 : a0 ≥ 32
 rotate_left
 · rw [if_neg c2] at H
   have c2b0 : decide (32 ≤ a0) = false := decide_eq_false c2; clear c2
   obtain rfl := Option.some.inj H
   go_enter Tryz.func146, Tryz.ntmps146
   go_wp2
   go_ret
   exact ⟨by first | rfl | (simp; done) | (simp [*]; done), by repeat (first | exact Drawn0.refl _ | apply Drawn0.step)⟩
 rw [if_pos c2] at H
 have c2b0 : decide (32 ≤ a0) = true := decide_eq_true c2; clear c2
 by_cases c3 : a0 ≤ 126
 rotate_left
 · rw [if_neg c3] at H
   have c3b0 : decide (a0 ≤ 126) = false := decide_eq_false c3; clear c3
   obtain rfl := Option.some.inj H
   go_enter Tryz.func146, Tryz.ntmps146
   go_wp2
   go_ret
   exact ⟨by first | rfl | (simp; done) | (simp [*]; done), by repeat (first | exact Drawn0.refl _ | apply Drawn0.step)⟩
 rw [if_pos c3] at H
 have c3b0 : decide (a0 ≤ 126) = true := decide_eq_true c3; clear c3
 by_cases c4 : a0 = 34
 · rw [if_pos c4] at H
   have c4b0 : (a0 == 34) = true := beq_iff_eq.mpr c4; have c4b1 : (a0 != 34) = false := bne_eq_false_iff_eq.mpr c4; clear c4
   obtain rfl := Option.some.inj H
   go_enter Tryz.func146, Tryz.ntmps146
   go_wp2
   go_ret
   exact ⟨by first | rfl | (simp; done) | (simp [*]; done), by repeat (first | exact Drawn0.refl _ | apply Drawn0.step)⟩
 rw [if_neg c4] at H
 have c4b0 : (a0 == 34) = false := beq_eq_false_iff_ne.mpr c4
 have c4b1 : (a0 != 34) = true := bne_iff_ne.mpr c4
 by_cases c5 : a0 = 92
 · rw [if_pos c5] at H
   have c5b0 : (a0 == 92) = true := beq_iff_eq.mpr c5; have c5b1 : (a0 != 92) = false := bne_eq_false_iff_eq.mpr c5; clear c5
   obtain rfl := Option.some.inj H
   go_enter Tryz.func146, Tryz.ntmps146
   go_wp2
   go_ret
   exact ⟨by first | rfl | (simp; done) | (simp [*]; done), by repeat (first | exact Drawn0.refl _ | apply Drawn0.step)⟩
 rw [if_neg c5] at H
 have c5b0 : (a0 == 92) = false := beq_eq_false_iff_ne.mpr c5
 have c5b1 : (a0 != 92) = true := bne_iff_ne.mpr c5
 obtain rfl := Option.some.inj H
 go_enter Tryz.func146, Tryz.ntmps146
 go_wp2
 go_ret
 exact ⟨by first | rfl | (simp; done) | (simp [*]; done), by repeat (first | exact Drawn0.refl _ | apply Drawn0.step)⟩
end Go.Proofs.YtnphnhkinjppjaaGreatDoor.Q
end

section
set_option maxHeartbeats 8000000
set_option maxRecDepth 100000
namespace Go.Proofs.YtnphnhkinjppjaaGreatDoor.Q
open Go.RowKit Go.Proofs.YtnphnhkinjppjaaGreatDoorW.PrintWords Go.Proofs.YtnphnhkinjppjaaGreatDoorW.PrintLast Go.Proofs.YtnphnhkinjppjaaGreatDoorW.PrintMore
attribute [local go_sem] max2_int min2_int max_two min_two max_three min_three max_four min_four
mutual
def lexer_hex.j0 : Nat → Int → Bool → Option (Int)
  | 0, _, _ => none
  | k + 1, x0, x3 => if x3 = true then (some ((x0 - 48) % 256)) else (if x0 ≥ 97 then (lexer_hex.j1 k x0 (decide (x0 ≤ 102))) else (lexer_hex.j1 k x0 false))
def lexer_hex.j1 : Nat → Int → Bool → Option (Int)
  | 0, _, _ => none
  | k + 1, x0, x13 => if x13 = true then (some (((x0 - 97) % 256) + 10)) else (if x0 ≥ 65 then (if x0 ≤ 70 then (some (((x0 - 65) % 256) + 10)) else (some (-1))) else (some (-1)))
end
def lexer_hex.f (k : Nat) (a0 : Int) : Option (Int) := if a0 ≥ 48 then (lexer_hex.j0 k a0 (decide (a0 ≤ 57))) else (lexer_hex.j0 k a0 false)
theorem lexer_hex.mono_l : ∀ k, (∀ y0 y1, LeO (lexer_hex.j0 k y0 y1) (lexer_hex.j0 (k + 1) y0 y1)) ∧ (∀ y0 y1, LeO (lexer_hex.j1 k y0 y1) (lexer_hex.j1 (k + 1) y0 y1))
  | 0 => ⟨fun _ _ r h => by simp [lexer_hex.j0] at h, fun _ _ r h => by simp [lexer_hex.j1] at h⟩
  | k + 1 => by
    obtain ⟨ih0, ih1⟩ := lexer_hex.mono_l k
    refine ⟨?_, ?_⟩
    · intro y0 y1
      unfold lexer_hex.j0
      repeat' first
      | (with_reducible exact ih0 _ _)
      | (with_reducible exact ih1 _ _)
      | (with_reducible exact LeO.refl _)
      | (with_reducible exact LeO.none _)
      | (with_reducible refine LeO.ite ?_ ?_)
      | (with_reducible refine LeO.bind ?_ (fun _ => ?_))
    · intro y0 y1
      unfold lexer_hex.j1
      repeat' first
      | (with_reducible exact ih0 _ _)
      | (with_reducible exact ih1 _ _)
      | (with_reducible exact LeO.refl _)
      | (with_reducible exact LeO.none _)
      | (with_reducible refine LeO.ite ?_ ?_)
      | (with_reducible refine LeO.bind ?_ (fun _ => ?_))
theorem lexer_hex.mono : ∀ a0 k, LeO (lexer_hex.f k a0) (lexer_hex.f (k + 1) a0) := by
  intro a0 k
  obtain ⟨ih0, ih1⟩ := lexer_hex.mono_l k
  unfold lexer_hex.f
  repeat' first
      | (with_reducible exact ih0 _ _)
      | (with_reducible exact ih1 _ _)
      | (with_reducible exact LeO.refl _)
      | (with_reducible exact LeO.none _)
      | (with_reducible refine LeO.ite ?_ ?_)
      | (with_reducible refine LeO.bind ?_ (fun _ => ?_))
theorem lexer_hex.calls (k : Nat) (a0 : Int) (r : Int) (w : World) (h : lexer_hex.f k a0 = some r) :
 Calls Tryz.prog 160 #[.int .u8 a0] w fun e w' => e = .returned (.int .i64 r) ∧ Drawn0 w w' := by
 unfold lexer_hex.f at h; have H := h
 clear h; have HC2 := Aside0.mk H; clear H
 go_enter Tryz.func160, Tryz.ntmps160
 go_upto_region 1 with (fail)
 go_cut [3] (fun v3 wc => ∃ (kq : Nat) (x3_1 : Bool), v3 = .bool x3_1 ∧ Aside0 (lexer_hex.j0 kq a0 x3_1 = some r) ∧ Aside0 (kq ≤ k) ∧ Drawn0 w wc)
 case first =>
  have H := HC2.out
  clear HC2
  by_cases c3 : a0 ≥ 48
  · rw [if_pos c3] at H
    have c3b0 : decide (48 ≤ a0) = true := decide_eq_true c3; clear c3
    (first | rw [c3b0] | (simp only [i64_w, i32_w]; rw [c3b0]) | skip)
    have H' := Aside0.mk H
    clear H
    go_wp2
    go_meet
    case rel => exact ⟨_, (decide (a0 ≤ 57)), zI, H', ⟨by first | omega | exact Nat.le_refl _⟩, by repeat (first | exact Drawn0.refl _ | apply Drawn0.step)⟩
  rw [if_neg c3] at H
  have c3b0 : decide (48 ≤ a0) = false := decide_eq_false c3; clear c3
  (first | rw [c3b0] | (simp only [i64_w, i32_w]; rw [c3b0]) | skip)
  have H' := Aside0.mk H
  clear H
  go_wp2
  go_meet
  case rel => exact ⟨_, (false), zI, H', ⟨by first | omega | exact Nat.le_refl _⟩, by repeat (first | exact Drawn0.refl _ | apply Drawn0.step)⟩
 case rest =>
  clear HC2
  obtain ⟨kq, x3_1, rfl, HA, HJ1, ⟨mc1, rfl⟩⟩ := hcut
  rcases kq with _ | kj1
  · exact absurd HA.out (by simp [lexer_hex.j0])
  have H := HA.out
  clear HA
  simp only [lexer_hex.j0] at H
  by_cases c4 : x3_1 = true
  · subst c4
    rw [if_pos rfl] at H
    obtain rfl := Option.some.inj H
    go_wp2
    go_ret
    exact ⟨by first | rfl | (simp; done) | (simp [*]; done), by repeat (first | exact Drawn0.refl _ | apply Drawn0.step)⟩
  replace c4 := Bool.eq_false_iff.mpr c4
  subst c4; rw [if_neg zF] at H; have HC5 := Aside0.mk H; clear H
  go_upto_region 3 with (fail)
  go_cut [13] (fun v13 wc => ∃ (kq : Nat) (x13_4 : Bool), v13 = .bool x13_4 ∧ Aside0 (lexer_hex.j1 kq a0 x13_4 = some r) ∧ Aside0 (kq ≤ kj1) ∧ Drawn0 w wc)
  case first =>
   have H := HC5.out
   clear HC5
   by_cases c6 : a0 ≥ 97
   · rw [if_pos c6] at H
     have c6b0 : decide (97 ≤ a0) = true := decide_eq_true c6; clear c6
     (first | rw [c6b0] | (simp only [i64_w, i32_w]; rw [c6b0]) | skip)
     have H' := Aside0.mk H
     clear H
     go_wp2
     go_meet
     case rel => exact ⟨_, (decide (a0 ≤ 102)), zI, H', ⟨by have := HJ1.out; first | omega | exact Nat.le_refl _⟩, by repeat (first | exact Drawn0.refl _ | apply Drawn0.step)⟩
   rw [if_neg c6] at H
   have c6b0 : decide (97 ≤ a0) = false := decide_eq_false c6; clear c6
   (first | rw [c6b0] | (simp only [i64_w, i32_w]; rw [c6b0]) | skip)
   have H' := Aside0.mk H
   clear H
   go_wp2
   go_meet
   case rel => exact ⟨_, (false), zI, H', ⟨by have := HJ1.out; first | omega | exact Nat.le_refl _⟩, by repeat (first | exact Drawn0.refl _ | apply Drawn0.step)⟩
  case rest =>
   clear HC5
   try clear c4
   obtain ⟨kq, x13_4, rfl, HA, HJ4, ⟨mc4, rfl⟩⟩ := hcut
   rcases kq with _ | kj4
   · exact absurd HA.out (by simp [lexer_hex.j1])
   have H := HA.out
   clear HA
   simp only [lexer_hex.j1] at H
   by_cases c7 : x13_4 = true
   · subst c7
     rw [if_pos rfl] at H
     obtain rfl := Option.some.inj H
     go_wp2
     go_ret
     exact ⟨by first | rfl | (simp; done) | (simp [*]; done), by repeat (first | exact Drawn0.refl _ | apply Drawn0.step)⟩
   replace c7 := Bool.eq_false_iff.mpr c7
   subst c7; rw [if_neg zF] at H
   by_cases c8 : a0 ≥ 65
   · rw [if_pos c8] at H
     have c8b0 : decide (65 ≤ a0) = true := decide_eq_true c8; clear c8
     by_cases c9 : a0 ≤ 70
     · rw [if_pos c9] at H
       have c9b0 : decide (a0 ≤ 70) = true := decide_eq_true c9; clear c9
       obtain rfl := Option.some.inj H
       go_wp2
       go_ret
       exact ⟨by first | rfl | (simp; done) | (simp [*]; done), by repeat (first | exact Drawn0.refl _ | apply Drawn0.step)⟩
     rw [if_neg c9] at H
     have c9b0 : decide (a0 ≤ 70) = false := decide_eq_false c9; clear c9
     obtain rfl := Option.some.inj H
     go_wp2
     go_ret
     exact ⟨by first | rfl | (simp; done) | (simp [*]; done), by repeat (first | exact Drawn0.refl _ | apply Drawn0.step)⟩
   rw [if_neg c8] at H
   have c8b0 : decide (65 ≤ a0) = false := decide_eq_false c8; clear c8
   obtain rfl := Option.some.inj H
   go_wp2
   go_ret
   exact ⟨by first | rfl | (simp; done) | (simp [*]; done), by repeat (first | exact Drawn0.refl _ | apply Drawn0.step)⟩
end Go.Proofs.YtnphnhkinjppjaaGreatDoor.Q
end

section
set_option maxHeartbeats 8000000
set_option maxRecDepth 100000
namespace Go.Proofs.YtnphnhkinjppjaaGreatDoor.Q
open Go.RowKit Go.Proofs.YtnphnhkinjppjaaGreatDoorW.PrintWords Go.Proofs.YtnphnhkinjppjaaGreatDoorW.PrintLast Go.Proofs.YtnphnhkinjppjaaGreatDoorW.PrintMore
attribute [local go_sem] max2_int min2_int max_two min_two max_three min_three max_four min_four
mutual
def lexer_group.l0 : Nat → ByteArray → Int → List Int → Option (ByteArray × Int × Bool)
  | 0, _, _, _ => none
  | k + 1, x0, x1, x7 => lexer_group.l1 k x0 x1 x7 0
def lexer_group.l1 : Nat → ByteArray → Int → List Int → Int → Option (ByteArray × Int × Bool)
  | 0, _, _, _, _ => none
  | k + 1, x0, x1, x7, x9 => if x9 < 2 then (if (wrap64 (x1 + x9)) ≥ (x0.size : Int) then (some ((⟨#[]⟩ : ByteArray), mn (wrap64 (x1 + x9)) (x0.size : Int), false)) else (if 0 ≤ (wrap64 (x1 + x9)) then (if (wrap64 (x1 + x9)) < (x0.size : Int) then ((lexer_hex.f k (bt x0 (wrap64 (x1 + x9)))).bind fun t154 => (if t154 < 0 then (some ((⟨#[]⟩ : ByteArray), mn (wrap64 (x1 + x9)) (x0.size : Int), false)) else (lexer_group.l1 k x0 x1 x7 (wrap64 (x9 + 1))))) else (none)) else (none))) else (if 0 ≤ x1 then (if x1 < (x0.size : Int) then ((lexer_hex.f k (bt x0 x1)).bind fun t155 => (if 0 ≤ (wrap64 (x1 + 1)) then (if (wrap64 (x1 + 1)) < (x0.size : Int) then ((lexer_hex.f k (bt x0 (wrap64 (x1 + 1)))).bind fun t156 => (if x7.length < 140737488355328 then ((some (x7 ++ [(Go.bits .or .i64 (wrap64 (t155 * 16)) t156) % 256] : List Int)).bind fun y157 => (if (wrap64 (x1 + 2)) < (x0.size : Int) then (if 0 ≤ (wrap64 (x1 + 2)) then (lexer_group.j2 k x0 (wrap64 (x1 + 2)) y157 ((bt x0 (wrap64 (x1 + 2))) == 124)) else (none)) else (lexer_group.j2 k x0 (wrap64 (x1 + 2)) y157 false))) else (none))) else (none)) else (none))) else (none)) else (none))
def lexer_group.j2 : Nat → ByteArray → Int → List Int → Bool → Option (ByteArray × Int × Bool)
  | 0, _, _, _, _ => none
  | k + 1, x0, x1, x7, x51 => if x51 = true then (some (strOfNums x7, wrap64 (x1 + 1), true)) else (if x1 ≥ (x0.size : Int) then (some ((⟨#[]⟩ : ByteArray), x1, false)) else (if 0 ≤ x1 then (if x1 < (x0.size : Int) then (if (bt x0 x1) = 32 then (lexer_group.l0 k x0 (wrap64 (x1 + 1)) x7) else (some ((⟨#[]⟩ : ByteArray), x1, false))) else (none)) else (none)))
end
def lexer_group.f (k : Nat) (a0 : ByteArray) (a1 : Int) : Option (ByteArray × Int × Bool) := lexer_group.l0 k a0 a1 ([] : List Int)
theorem lexer_group.mono_l : ∀ k, (∀ y0 y1 y2, LeO (lexer_group.l0 k y0 y1 y2) (lexer_group.l0 (k + 1) y0 y1 y2)) ∧ (∀ y0 y1 y2 y3, LeO (lexer_group.l1 k y0 y1 y2 y3) (lexer_group.l1 (k + 1) y0 y1 y2 y3)) ∧ (∀ y0 y1 y2 y3, LeO (lexer_group.j2 k y0 y1 y2 y3) (lexer_group.j2 (k + 1) y0 y1 y2 y3))
  | 0 => ⟨fun _ _ _ r h => by simp [lexer_group.l0] at h, fun _ _ _ _ r h => by simp [lexer_group.l1] at h, fun _ _ _ _ r h => by simp [lexer_group.j2] at h⟩
  | k + 1 => by
    obtain ⟨ih0, ih1, ih2⟩ := lexer_group.mono_l k
    refine ⟨?_, ?_, ?_⟩
    · intro y0 y1 y2
      unfold lexer_group.l0
      repeat' first
      | (with_reducible exact ih0 _ _ _)
      | (with_reducible exact ih1 _ _ _ _)
      | (with_reducible exact ih2 _ _ _ _)
      | (with_reducible exact lexer_hex.mono _ _)
      | (with_reducible exact LeO.refl _)
      | (with_reducible exact LeO.none _)
      | (with_reducible refine LeO.ite ?_ ?_)
      | (with_reducible refine LeO.bind ?_ (fun _ => ?_))
    · intro y0 y1 y2 y3
      unfold lexer_group.l1
      repeat' first
      | (with_reducible exact ih0 _ _ _)
      | (with_reducible exact ih1 _ _ _ _)
      | (with_reducible exact ih2 _ _ _ _)
      | (with_reducible exact lexer_hex.mono _ _)
      | (with_reducible exact LeO.refl _)
      | (with_reducible exact LeO.none _)
      | (with_reducible refine LeO.ite ?_ ?_)
      | (with_reducible refine LeO.bind ?_ (fun _ => ?_))
    · intro y0 y1 y2 y3
      unfold lexer_group.j2
      repeat' first
      | (with_reducible exact ih0 _ _ _)
      | (with_reducible exact ih1 _ _ _ _)
      | (with_reducible exact ih2 _ _ _ _)
      | (with_reducible exact lexer_hex.mono _ _)
      | (with_reducible exact LeO.refl _)
      | (with_reducible exact LeO.none _)
      | (with_reducible refine LeO.ite ?_ ?_)
      | (with_reducible refine LeO.bind ?_ (fun _ => ?_))
theorem lexer_group.mono : ∀ a0 a1 k, LeO (lexer_group.f k a0 a1) (lexer_group.f (k + 1) a0 a1) := by
  intro a0 a1 k
  obtain ⟨ih0, ih1, ih2⟩ := lexer_group.mono_l k
  unfold lexer_group.f
  repeat' first
      | (with_reducible exact ih0 _ _ _)
      | (with_reducible exact ih1 _ _ _ _)
      | (with_reducible exact ih2 _ _ _ _)
      | (with_reducible exact lexer_hex.mono _ _)
      | (with_reducible exact LeO.refl _)
      | (with_reducible exact LeO.none _)
      | (with_reducible refine LeO.ite ?_ ?_)
      | (with_reducible refine LeO.bind ?_ (fun _ => ?_))
def lexer_group.T8 : Bool × List (List Nat × List Nat) := (true, [([], []), ([], []), ([], []), ([1, 2], [1, 2]), ([3], [3]), ([4], [4]), ([], []), ([], []), ([7], [7]), ([6, 8], [6, 8]), ([9, 4], [9]), ([5, 10], [5, 10]), ([11], [11]), ([12], [12]), ([0, 13, 10], [0, 13]), ([14, 14, 0, 1, 2, 3, 4, 5, 6, 7, 8, 9, 10, 11, 12, 13, 14], [0, 14])])
def lexer_group.B8 : List Nat := [0, 0, 0, 6, 14, 30, 0, 0, 128, 448, 990, 2046, 4094, 8190, 16383, 32767]
theorem lexer_group.tab8 : rtab .any (opsOf Tryz.f148 8) = lexer_group.T8 := by kernel_rfl
theorem lexer_group.bits8 : waitsOk lexer_group.T8.2 lexer_group.B8 = true := by kernel_rfl
theorem lexer_group.calls (k : Nat) (a0 : ByteArray) (a1 : Int) (r1 : ByteArray) (r2 : Int) (r3 : Bool) (w : World) (h : lexer_group.f k a0 a1 = some (r1, r2, r3)) :
 Calls Tryz.prog 148 #[.string a0, .int .i64 a1] w fun e w' => e = .returned (.tuple #[.string r1, .int .i64 r2, .bool r3]) ∧ Below w.heap.size w w' := by
 have HB := Aside0.mk (Below.refl w.heap.size w)
 unfold lexer_group.f at h; have H := h
 clear h
 have H' := Aside0.mk H
 clear H
 go_enter Tryz.func148, Tryz.ntmps148
 go_wp2
 go_loopg [1, 7] k (fun kq v1 v7 w' => ∃ (x1_1 : Int) (x7_1 : List Int), v1 = .int .i64 x1_1 ∧ Aside0 (lexer_group.l0 kq a0 x1_1 x7_1 = some (r1, r2, r3)) ∧ Aside0 (kq ≤ k) ∧ Aside0 (Kd.R (Kd.int .u8) 5 w' w.heap.size (fun _ => True) v7 x7_1) ∧ Aside0 (Below w.heap.size w w'))
 case atStart => exact ⟨(a1), (([] : List Int)), zI, H', ⟨Nat.le_refl _⟩, ⟨by first | exact Kd.R_nil _ _ _ _ _ | exact Kd.N_nil _ _ _ _ _ | exact Kd.V_nil _ _ _ _ _ | exact Kd.Q_nil _ _ _ _ _ | exact Kd.S_nil _ _ _ _ _⟩, ⟨zB HB⟩⟩
 case round =>
  clear H'
  obtain ⟨x1_1, x7_1, rfl, HA, HK1, HO_7, HB⟩ := hrel
  rcases gk with _ | k1
  · exact absurd HA.out (by simp [lexer_group.l0])
  have H := HA.out
  clear HA
  simp only [lexer_group.l0] at H
  have H' := Aside0.mk H
  clear H
  go_wp2
  go_loopg [9] k1 (fun kq v9 w' => ∃ (x9_2 : Int), v9 = .int .i64 x9_2 ∧ Aside0 (lexer_group.l1 kq a0 x1_1 x7_1 x9_2 = some (r1, r2, r3)) ∧ Aside0 (kq ≤ k1) ∧ Aside0 (Kd.R (Kd.int .u8) 5 w' w.heap.size (fun _ => True) u7 x7_1) ∧ Aside0 (Below w.heap.size w w'))
  case atStart => exact ⟨(0), zI, H', ⟨Nat.le_refl _⟩, ⟨zR HO_7⟩, ⟨zB HB⟩⟩
  case round =>
   clear H'
   obtain ⟨x9_2, rfl, HA, HK2, HO_7, HB⟩ := hrel
   rcases gk with _ | k2
   · exact absurd HA.out (by simp [lexer_group.l1])
   have H := HA.out
   clear HA
   simp only [lexer_group.l1] at H
   by_cases c3 : x9_2 < 2
   · rw [if_pos c3] at H
     have c3b0 : decide (x9_2 < 2) = true := decide_eq_true c3; clear c3
     by_cases c4 : (wrap64 (x1_1 + x9_2)) ≥ (a0.size : Int)
     · rw [if_pos c4] at H
       have c4b0 : decide ((a0.size : Int) ≤ (wrap64 (x1_1 + x9_2))) = true := decide_eq_true c4; clear c4
       obtain ⟨ji5, hji5⟩ : ∃ j_ : Int, (mn (wrap64 (x1_1 + x9_2)) (a0.size : Int)) = j_ := ⟨_, rfl⟩
       replace H : (some ((⟨#[]⟩ : ByteArray), ji5, false)) = some (r1, r2, r3) := by first | (rw [hji5] at H; exact H) | (simp only [hji5] at H ⊢; exact H)
       have hji5_ : (if (a0.size : Int) < (wrap64 (x1_1 + x9_2)) then (a0.size : Int) else (wrap64 (x1_1 + x9_2))) = ji5 := hji5
       simp only [Option.some.injEq, Prod.mk.injEq] at H
       obtain ⟨rfl, rfl, rfl⟩ := H
       go_wp2
       go_ret3
       exact ⟨by first | rfl | (simp [errW_none, errW_some] <;> rfl) | (simp only [← hji5]; first | rfl | (simp [errW_none, errW_some] <;> rfl)) | (simp [*, errW_none, errW_some] <;> rfl), by repeat (first | (with_reducible first | exact HB.out | apply below_alloc | apply pw_below_drewN | apply below_drew1) | exact HB.out)⟩
     rw [if_neg c4] at H
     have c4b0 : decide ((a0.size : Int) ≤ (wrap64 (x1_1 + x9_2))) = false := decide_eq_false c4; clear c4
     obtain ⟨ji6, hji6⟩ : ∃ j_ : Int, (wrap64 (x1_1 + x9_2)) = j_ := ⟨_, rfl⟩
     replace H : (if 0 ≤ (ji6) then (if (ji6) < (a0.size : Int) then ((lexer_hex.f k2 (bt a0 (ji6))).bind fun t154 => (if t154 < 0 then (some ((⟨#[]⟩ : ByteArray), mn (ji6) (a0.size : Int), false)) else (lexer_group.l1 k2 a0 x1_1 x7_1 (wrap64 (x9_2 + 1))))) else (none)) else (none)) = some (r1, r2, r3) := by first | (rw [hji6] at H; exact H) | (simp only [hji6] at H ⊢; exact H)
     (try rw [hji6] at c4b0)
     have hji6w : (IntKind.i64.wrap (x1_1 + x9_2)) = ji6 := (i64_w _).trans hji6
     by_cases c7 : 0 ≤ (ji6)
     rotate_left
     · rw [if_neg c7] at H
       exact absurd H (by simp)
     rw [if_pos c7] at H
     have c7b0 : decide (0 ≤ (ji6)) = true := decide_eq_true c7; clear c7
     by_cases c8 : (ji6) < (a0.size : Int)
     rotate_left
     · rw [if_neg c8] at H
       exact absurd H (by simp)
     rw [if_pos c8] at H
     have c8b0 : decide ((ji6) < (a0.size : Int)) = true := decide_eq_true c8; clear c8
     replace H := Option.bind_eq_some_iff.mp H
     obtain ⟨t154, A100, H⟩ := H
     replace H : (if t154 < 0 then (some ((⟨#[]⟩ : ByteArray), mn (ji6) (a0.size : Int), false)) else (lexer_group.l1 k2 a0 x1_1 x7_1 (wrap64 (x9_2 + 1)))) = some (r1, r2, r3) := H
     have A10 := Aside0.mk A100; clear A100
     by_cases c11 : t154 < 0
     · rw [if_pos c11] at H
       have c11b0 : decide (t154 < 0) = true := decide_eq_true c11; clear c11
       obtain ⟨ji12, hji12⟩ : ∃ j_ : Int, (mn (ji6) (a0.size : Int)) = j_ := ⟨_, rfl⟩
       replace H : (some ((⟨#[]⟩ : ByteArray), ji12, false)) = some (r1, r2, r3) := by first | (rw [hji12] at H; exact H) | (simp only [hji12] at H ⊢; exact H)
       (try rw [hji12] at A10)
       have hji12_ : (if (a0.size : Int) < (ji6) then (a0.size : Int) else (ji6)) = ji12 := hji12
       simp only [Option.some.injEq, Prod.mk.injEq] at H
       obtain ⟨rfl, rfl, rfl⟩ := H
       have p9 : 0 ≤ ((ji6) : Int) := za
       have q9 : (ji6) < (a0.size : Int) := za
       have hx9 := bt_at a0 (ji6)
       replace p9 := eq_true p9
       replace q9 := eq_true q9
       go_wp2_with (first | (go_at_call 160; (with_reducible refine (lexer_hex.calls k2 (bt a0 (ji6)) t154 _ A10.out).mono ?_); rintro e w' ⟨rfl, ⟨nd, rfl⟩⟩))
       go_ret3
       exact ⟨by first | rfl | (simp [errW_none, errW_some] <;> rfl) | (simp only [← hji6, ← hji12]; first | rfl | (simp [errW_none, errW_some] <;> rfl)) | (simp [*, errW_none, errW_some] <;> rfl), by repeat (first | (with_reducible first | exact HB.out | apply below_alloc | apply pw_below_drewN | apply below_drew1) | exact HB.out)⟩
     rw [if_neg c11] at H
     have c11b0 : decide (t154 < 0) = false := decide_eq_false c11; clear c11
     have H' := Aside0.mk H
     clear H
     have p9 : 0 ≤ ((ji6) : Int) := za
     have q9 : (ji6) < (a0.size : Int) := za
     have hx9 := bt_at a0 (ji6)
     replace p9 := eq_true p9
     replace q9 := eq_true q9
     go_wp2_with (first | (go_at_call 160; (with_reducible refine (lexer_hex.calls k2 (bt a0 (ji6)) t154 _ A10.out).mono ?_); rintro e w' ⟨rfl, ⟨nd, rfl⟩⟩))
     go_roundg k2
     case measure => have := HK1.out; have := HK2.out; omega
     case rel => exact ⟨(wrap64 (x9_2 + 1)), zI, H', ⟨by have := HK1.out; have := HK2.out; omega⟩, ⟨zR HO_7⟩, ⟨zB HB⟩⟩
   rw [if_neg c3] at H
   have c3b0 : decide (x9_2 < 2) = false := decide_eq_false c3; clear c3
   by_cases c13 : 0 ≤ x1_1
   rotate_left
   · rw [if_neg c13] at H
     exact absurd H (by simp)
   rw [if_pos c13] at H
   have c13b0 : decide (0 ≤ x1_1) = true := decide_eq_true c13; clear c13
   by_cases c14 : x1_1 < (a0.size : Int)
   rotate_left
   · rw [if_neg c14] at H
     exact absurd H (by simp)
   rw [if_pos c14] at H
   have c14b0 : decide (x1_1 < (a0.size : Int)) = true := decide_eq_true c14; clear c14
   replace H := Option.bind_eq_some_iff.mp H
   obtain ⟨t155, A160, H⟩ := H
   replace H : (if 0 ≤ (wrap64 (x1_1 + 1)) then (if (wrap64 (x1_1 + 1)) < (a0.size : Int) then ((lexer_hex.f k2 (bt a0 (wrap64 (x1_1 + 1)))).bind fun t156 => (if x7_1.length < 140737488355328 then ((some (x7_1 ++ [(Go.bits .or .i64 (wrap64 (t155 * 16)) t156) % 256] : List Int)).bind fun y157 => (if (wrap64 (x1_1 + 2)) < (a0.size : Int) then (if 0 ≤ (wrap64 (x1_1 + 2)) then (lexer_group.j2 k2 a0 (wrap64 (x1_1 + 2)) y157 ((bt a0 (wrap64 (x1_1 + 2))) == 124)) else (none)) else (lexer_group.j2 k2 a0 (wrap64 (x1_1 + 2)) y157 false))) else (none))) else (none)) else (none)) = some (r1, r2, r3) := H
   have A16 := Aside0.mk A160; clear A160
   obtain ⟨ji17, hji17⟩ : ∃ j_ : Int, (wrap64 (x1_1 + 1)) = j_ := ⟨_, rfl⟩
   replace H : (if 0 ≤ (ji17) then (if (ji17) < (a0.size : Int) then ((lexer_hex.f k2 (bt a0 (ji17))).bind fun t156 => (if x7_1.length < 140737488355328 then ((some (x7_1 ++ [(Go.bits .or .i64 (wrap64 (t155 * 16)) t156) % 256] : List Int)).bind fun y157 => (if (wrap64 (x1_1 + 2)) < (a0.size : Int) then (if 0 ≤ (wrap64 (x1_1 + 2)) then (lexer_group.j2 k2 a0 (wrap64 (x1_1 + 2)) y157 ((bt a0 (wrap64 (x1_1 + 2))) == 124)) else (none)) else (lexer_group.j2 k2 a0 (wrap64 (x1_1 + 2)) y157 false))) else (none))) else (none)) else (none)) = some (r1, r2, r3) := by first | (rw [hji17] at H; exact H) | (simp only [hji17] at H ⊢; exact H)
   (try rw [hji17] at A16)
   have hji17w : (IntKind.i64.wrap (x1_1 + 1)) = ji17 := (i64_w _).trans hji17
   by_cases c18 : 0 ≤ (ji17)
   rotate_left
   · rw [if_neg c18] at H
     exact absurd H (by simp)
   rw [if_pos c18] at H
   have c18b0 : decide (0 ≤ (ji17)) = true := decide_eq_true c18; clear c18
   by_cases c19 : (ji17) < (a0.size : Int)
   rotate_left
   · rw [if_neg c19] at H
     exact absurd H (by simp)
   rw [if_pos c19] at H
   have c19b0 : decide ((ji17) < (a0.size : Int)) = true := decide_eq_true c19; clear c19
   replace H := Option.bind_eq_some_iff.mp H
   obtain ⟨t156, A210, H⟩ := H
   replace H : (if x7_1.length < 140737488355328 then ((some (x7_1 ++ [(Go.bits .or .i64 (wrap64 (t155 * 16)) t156) % 256] : List Int)).bind fun y157 => (if (wrap64 (x1_1 + 2)) < (a0.size : Int) then (if 0 ≤ (wrap64 (x1_1 + 2)) then (lexer_group.j2 k2 a0 (wrap64 (x1_1 + 2)) y157 ((bt a0 (wrap64 (x1_1 + 2))) == 124)) else (none)) else (lexer_group.j2 k2 a0 (wrap64 (x1_1 + 2)) y157 false))) else (none)) = some (r1, r2, r3) := H
   have A21 := Aside0.mk A210; clear A210
   by_cases c22 : x7_1.length < 140737488355328
   rotate_left
   · rw [if_neg c22] at H
     exact absurd H (by simp)
   rw [if_pos c22] at H; have LMc22 := Aside0.mk c22; clear c22
   obtain ⟨y157, hy157⟩ : ∃ y_ : List Int, y_ = (x7_1 ++ [(Go.bits .or .i64 (wrap64 (t155 * 16)) t156) % 256]) := ⟨_, rfl⟩
   rw [← hy157] at H; try dsimp only [Option.bind_some] at H
   have Ny157 := Aside0.mk hy157; clear hy157; have HC23 := Aside0.mk H; clear H
   try go_wp2
   replace HO_7 := Aside0.mk (Kd.R_drew HO_7.out); replace HB := Aside0.mk (below_drew1 HB.out)
   have p15 : 0 ≤ (x1_1 : Int) := za
   have q15 : x1_1 < (a0.size : Int) := za
   have hx15 := bt_at a0 x1_1
   replace p15 := eq_true p15
   replace q15 := eq_true q15
   have p20 : 0 ≤ ((ji17) : Int) := za
   have q20 : (ji17) < (a0.size : Int) := za
   have hx20 := bt_at a0 (ji17)
   replace p20 := eq_true p20
   replace q20 := eq_true q20
   refine start_ (n := 16) (S := fun w' => True) (ds := []) #[false, false, false, false, false, false, false, false, false, false, false, false, false, false, false, false] (by kernel_rfl) rfl rfl trivial (fun hHeld => ?_); refine with_tabW lexer_group.tab8 lexer_group.bits8 (fun HT_ HW_ => ?_)
   generalize wr.drew = w24 at HO_7 HB hHeld ⊢
   refine zp 0 34 HT_ ?_; refine zp 1 35 HT_ ?_; refine zp 2 36 HT_ ?_; refine zp 6 40 HT_ ?_; refine zp 7 41 HT_ ?_; refine zp 8 42 HT_ ?_
   refine take_ (i := 3) (N := some 37) (v := ?_) (a' := ?_) #[true, true, true, true, false, false, true, true, true, false, false, false, false, false, false, false] rfl rfl (take_ofW HT_.out HW_.out (by kernel_rfl)) (fun _ _ _ h => h) (Or.inl ⟨by rfl, ?_⟩) hHeld ?_ ?_
   rotate_left
   · intro w' _
     go_simp
     with_reducible rfl
   rotate_left
   · simp only [Act.put, List.setIfInBounds_toArray, List.set_cons_zero, List.set_cons_succ, i64_w, i32_w]
     rfl
   refine take_ (i := 9) (N := some 43) (v := ?_) (a' := ?_) #[true, true, true, true, false, false, true, true, true, true, false, false, false, false, false, false] rfl rfl (take_ofW HT_.out HW_.out (by kernel_rfl)) (fun _ _ _ h => h) (Or.inl ⟨by rfl, ?_⟩) hHeld ?_ ?_
   rotate_left
   · intro w' _
     go_simp
     with_reducible rfl
   rotate_left
   · simp only [Act.put, List.setIfInBounds_toArray, List.set_cons_zero, List.set_cons_succ, i64_w, i32_w]
     rfl
   refine zo 4 38 HT_ (fun K hK => ?_)
   refine zg Tryz.func160 #[.int .u8 (bt a0 x1_1)] ?_
   with_reducible refine (lexer_hex.calls k2 (bt a0 x1_1) t155 _ A16.out).mono ?_
   rintro e w' ⟨rfl, ⟨nd, rfl⟩⟩
   refine ⟨_, rfl, ?_⟩
   refine hK.out _ _ trivial (fun hHeld => ?_)
   clear hK K
   refine zn 38 ?_; refine zp 5 39 HT_ ?_; refine zo 10 44 HT_ (fun K hK => ?_)
   refine goes_ Tryz.func160 (by kernel_rfl) rfl #[.int .u8 (bt a0 (ji17))] (by rfl) rfl rfl (by (try simp only [List.map_toArray, List.map_cons, List.map_nil]); first | done | (simp only [hji17]; rfl) | rfl | (simp only [List.length_drop, List.length_take]; rfl)) ?_
   with_reducible refine (lexer_hex.calls k2 (bt a0 (ji17)) t156 _ A21.out).mono ?_
   rintro e w' ⟨rfl, ⟨nd, rfl⟩⟩
   refine ⟨_, rfl, ?_⟩
   refine hK.out _ _ trivial (fun hHeld => ?_)
   clear hK K
   refine zn 44 ?_; refine zp 11 45 HT_ ?_; refine zp 12 46 HT_ ?_; refine zo 13 47 HT_ (fun K hK => ?_)
   refine value_ (w1 := ?_) (v := ?_) (by rfl) rfl ?_ ?_
   rotate_left 2
   · go_simp
     constructor
     · rfl
     rfl
   refine hK.out _ _ trivial (fun hHeld => ?_)
   clear hK K
   refine zn 47 ?_; refine zo 14 48 HT_ (fun K hK => ?_)
   refine Kd.R_append_step (Kd.int .u8) (w0 := w) w.heap.size (by rfl) (.tmp 34) (.tmp 47) 60 5 (.int .u8 0) 1 rfl Tryz.underlying60 info5 rfl (by decide) (by omega) u7 x7_1 ((Go.bits .or .i64 (wrap64 (t155 * 16)) t156) % 256) [.int .u8 ((Go.bits .or .i64 (wrap64 (t155 * 16)) t156) % 256)] (fun _ => True) (fun _ => False) rfl rfl ?aP (fun _ hk => hk.elim) ?aF ?aO ?aB ?aS ?aL ?_
   (case aP => exact rfl)
   (case aB => exact (zB HB))
   (case aF => exact (fun _ _ => trivial))
   (case aO => exact (zR HO_7))
   (case aS => exact (below_size (zB HB)))
   (case aL => have := LMc22.out; omega)
   intro v158 w25 ho hb hg hat
   rw [← Ny157.out] at ho
   replace HB := Aside0.mk (hb); have HO159 := Aside0.mk (ho); clear HO_7; clear ho hb hg hat
   refine hK.out _ _ trivial (fun hHeld => ?_)
   clear hK K
   refine zn 48 ?_; refine zp 15 7 HT_ ?_; refine zd HT_ ?_
   go_upto_region 10 with (fail)
   go_cut [51] (fun v51 wc => ∃ (kq : Nat) (x51_22 : Bool), v51 = .bool x51_22 ∧ Aside0 (lexer_group.j2 kq a0 (wrap64 (x1_1 + 2)) y157 x51_22 = some (r1, r2, r3)) ∧ Aside0 (kq ≤ k2) ∧ Aside0 (Kd.R (Kd.int .u8) 5 wc w.heap.size (fun _ => True) v158 y157) ∧ Aside0 (Below w.heap.size w wc))
   case first =>
    have H := HC23.out
    clear HC23
    by_cases c26 : (wrap64 (x1_1 + 2)) < (a0.size : Int)
    · rw [if_pos c26] at H
      have c26b0 : decide ((wrap64 (x1_1 + 2)) < (a0.size : Int)) = true := decide_eq_true c26; clear c26
      (first | rw [c26b0] | (simp only [i64_w, i32_w]; rw [c26b0]) | skip)
      obtain ⟨ji27, hji27⟩ : ∃ j_ : Int, (wrap64 (x1_1 + 2)) = j_ := ⟨_, rfl⟩
      replace H : (if 0 ≤ (ji27) then (lexer_group.j2 k2 a0 ji27 y157 ((bt a0 (ji27)) == 124)) else (none)) = some (r1, r2, r3) := by first | (rw [hji27] at H; exact H) | (simp only [hji27] at H ⊢; exact H)
      (try rw [hji27] at c26b0)
      have hji27w : (IntKind.i64.wrap (x1_1 + 2)) = ji27 := (i64_w _).trans hji27
      by_cases c28 : 0 ≤ (ji27)
      · rw [if_pos c28] at H
        have c28b0 : decide (0 ≤ (ji27)) = true := decide_eq_true c28; clear c28
        have H' := Aside0.mk H
        clear H
        have p29 : 0 ≤ ((ji27) : Int) := za
        have q29 : (ji27) < (a0.size : Int) := za
        have hx29 := bt_at a0 (ji27)
        replace p29 := eq_true p29
        replace q29 := eq_true q29
        go_wp2
        go_meet
        case rel => exact ⟨_, (((bt a0 (ji27)) == 124)), (by first | rfl | (simp; done) | (simp only [← hji27] <;> (first | rfl | simp)) | (simp [*]; done)), (by first | exact H' | (rw [hji27]; exact H') | (rw [← hji27]; exact H') | (simp only [hji27] at H' ⊢; exact H') | (simp only [← hji27] at H' ⊢; exact H')), ⟨by have := HK1.out; have := HK2.out; first | omega | exact Nat.le_refl _⟩, ⟨zR HO159⟩, ⟨zB HB⟩⟩
      rw [if_neg c28] at H
      exact absurd H (by simp)
    rw [if_neg c26] at H
    have c26b0 : decide ((wrap64 (x1_1 + 2)) < (a0.size : Int)) = false := decide_eq_false c26; clear c26
    (first | rw [c26b0] | (simp only [i64_w, i32_w]; rw [c26b0]) | skip)
    have H' := Aside0.mk H
    clear H
    go_wp2
    go_meet
    case rel => exact ⟨_, (false), zI, (by first | exact H' | (rw [hji17]; exact H') | (rw [← hji17]; exact H') | (simp only [hji17] at H' ⊢; exact H') | (simp only [← hji17] at H' ⊢; exact H')), ⟨by have := HK1.out; have := HK2.out; first | omega | exact Nat.le_refl _⟩, ⟨zR HO159⟩, ⟨zB HB⟩⟩
   case rest =>
    clear HC23
    (try clear c3); (try clear c3b0); (try clear c13); (try clear c13b0); (try clear c14); (try clear c14b0); (try clear p15); (try clear q15); (try clear hx15); (try clear c18); (try clear c18b0); (try clear c19); (try clear c19b0); (try clear p20); (try clear q20); (try clear hx20); (try clear c22)
    obtain ⟨kq, x51_22, rfl, HA, HJ22, HO_7, HB⟩ := hcut
    rcases kq with _ | kj22
    · exact absurd HA.out (by simp [lexer_group.j2])
    have H := HA.out
    clear HA
    simp only [lexer_group.j2] at H
    by_cases c30 : x51_22 = true
    · subst c30
      rw [if_pos rfl] at H
      simp only [Option.some.injEq, Prod.mk.injEq] at H
      obtain ⟨rfl, rfl, rfl⟩ := H
      have hcv31 := own_string (P := Tryz.prog) Tryz.underlying60 Tryz.underlying5 Tryz.underlying9 (Kd.own_of_R HO_7.out)
      go_wp2
      go_ret3
      exact ⟨by first | rfl | (simp [errW_none, errW_some] <;> rfl) | (simp only [← hji17]; first | rfl | (simp [errW_none, errW_some] <;> rfl)) | (simp [*, errW_none, errW_some] <;> rfl), by repeat (first | (with_reducible first | exact HB.out | apply below_alloc | apply pw_below_drewN | apply below_drew1) | exact HB.out)⟩
    replace c30 := Bool.eq_false_iff.mpr c30
    subst c30; rw [if_neg zF] at H
    by_cases c32 : (wrap64 (x1_1 + 2)) ≥ (a0.size : Int)
    · rw [if_pos c32] at H
      have c32b0 : decide ((a0.size : Int) ≤ (wrap64 (x1_1 + 2))) = true := decide_eq_true c32; clear c32
      simp only [Option.some.injEq, Prod.mk.injEq] at H
      obtain ⟨rfl, rfl, rfl⟩ := H
      go_wp2
      go_ret3
      exact ⟨by first | rfl | (simp [errW_none, errW_some] <;> rfl) | (simp only [← hji17]; first | rfl | (simp [errW_none, errW_some] <;> rfl)) | (simp [*, errW_none, errW_some] <;> rfl), by repeat (first | (with_reducible first | exact HB.out | apply below_alloc | apply pw_below_drewN | apply below_drew1) | exact HB.out)⟩
    rw [if_neg c32] at H
    have c32b0 : decide ((a0.size : Int) ≤ (wrap64 (x1_1 + 2))) = false := decide_eq_false c32; clear c32
    obtain ⟨ji33, hji33⟩ : ∃ j_ : Int, (wrap64 (x1_1 + 2)) = j_ := ⟨_, rfl⟩
    replace H : (if 0 ≤ (ji33) then (if (ji33) < (a0.size : Int) then (if (bt a0 (ji33)) = 32 then (lexer_group.l0 kj22 a0 (wrap64 ((ji33) + 1)) y157) else (some ((⟨#[]⟩ : ByteArray), (ji33), false))) else (none)) else (none)) = some (r1, r2, r3) := by first | (rw [hji33] at H; exact H) | (simp only [hji33] at H ⊢; exact H)
    (try rw [hji33] at c32b0)
    have hji33w : (IntKind.i64.wrap (x1_1 + 2)) = ji33 := (i64_w _).trans hji33
    by_cases c34 : 0 ≤ (ji33)
    rotate_left
    · rw [if_neg c34] at H
      exact absurd H (by simp)
    rw [if_pos c34] at H
    have c34b0 : decide (0 ≤ (ji33)) = true := decide_eq_true c34; clear c34
    by_cases c35 : (ji33) < (a0.size : Int)
    rotate_left
    · rw [if_neg c35] at H
      exact absurd H (by simp)
    rw [if_pos c35] at H
    have c35b0 : decide ((ji33) < (a0.size : Int)) = true := decide_eq_true c35; clear c35
    by_cases c37 : (bt a0 (ji33)) = 32
    · rw [if_pos c37] at H
      have c37b0 : ((bt a0 (ji33)) == 32) = true := beq_iff_eq.mpr c37; have c37b1 : ((bt a0 (ji33)) != 32) = false := bne_eq_false_iff_eq.mpr c37; clear c37
      have H' := Aside0.mk H
      clear H
      have p36 : 0 ≤ ((ji33) : Int) := za
      have q36 : (ji33) < (a0.size : Int) := za
      have hx36 := bt_at a0 (ji33)
      replace p36 := eq_true p36
      replace q36 := eq_true q36
      go_wp2
      go_roundg kj22
      case measure => have := HK1.out; have := HK2.out; have := HJ22.out; omega
      case rel => exact ⟨(wrap64 ((ji33) + 1)), (y157), (by first | rfl | (simp; done) | (simp only [← hji33] <;> (first | rfl | simp)) | (simp [*]; done)), (by first | exact H' | (rw [hji33]; exact H') | (rw [← hji33]; exact H') | (simp only [hji33] at H' ⊢; exact H') | (simp only [← hji33] at H' ⊢; exact H')), ⟨by have := HK1.out; have := HK2.out; have := HJ22.out; omega⟩, ⟨zR HO_7⟩, ⟨zB HB⟩⟩
    rw [if_neg c37] at H
    have c37b0 : ((bt a0 (ji33)) == 32) = false := beq_eq_false_iff_ne.mpr c37
    have c37b1 : ((bt a0 (ji33)) != 32) = true := bne_iff_ne.mpr c37
    simp only [Option.some.injEq, Prod.mk.injEq] at H
    obtain ⟨rfl, rfl, rfl⟩ := H
    have p36 : 0 ≤ ((ji33) : Int) := za
    have q36 : (ji33) < (a0.size : Int) := za
    have hx36 := bt_at a0 (ji33)
    replace p36 := eq_true p36
    replace q36 := eq_true q36
    go_wp2
    go_ret3
    exact ⟨by first | rfl | (simp [errW_none, errW_some] <;> rfl) | (simp only [← hji17, ← hji33]; first | rfl | (simp [errW_none, errW_some] <;> rfl)) | (simp [*, errW_none, errW_some] <;> rfl), by repeat (first | (with_reducible first | exact HB.out | apply below_alloc | apply pw_below_drewN | apply below_drew1) | exact HB.out)⟩
end Go.Proofs.YtnphnhkinjppjaaGreatDoor.Q
end

section
set_option maxHeartbeats 8000000
set_option maxRecDepth 100000
namespace Go.Proofs.YtnphnhkinjppjaaGreatDoor.Q
open Go.RowKit Go.Proofs.YtnphnhkinjppjaaGreatDoorW.PrintWords Go.Proofs.YtnphnhkinjppjaaGreatDoorW.PrintLast Go.Proofs.YtnphnhkinjppjaaGreatDoorW.PrintMore
def byt (x : Int) : UInt8 := UInt8.ofNat x.toNat
def plainB (x : Int) : Bool := decide (32 ≤ x) && decide (x ≤ 126) && !(x == 34) && !(x == 92) && !(x == 124)
theorem plain_eq (x : Int) : lexer_plain.f x = some (plainB x) := by
  unfold lexer_plain.f plainB
  by_cases h1 : x ≥ 32 <;> by_cases h2 : x ≤ 126 <;> by_cases h3 : x = 34 <;> by_cases h4 : x = 92 <;> by_cases h5 : x = 124 <;> first | (exfalso; omega) | (simp [h1, h2, h3, h4, h5]; done) | (simp [h1, h2, h3, h4, h5]; omega) | (subst h3; decide) | (subst h4; decide) | (subst h5; decide) | (have e3 := beq_eq_false_iff_ne.mpr h3; have e4 := beq_eq_false_iff_ne.mpr h4; have e5 := beq_eq_false_iff_ne.mpr h5; have h1' : 32 ≤ x := h1; simp only [h1, h1', h2, h3, h4, if_true, if_false, e3, e4, e5, bne, decide_true, Bool.not_false, Bool.and_true])
def lexer_text.l0 : Nat → ByteArray → Int → List UInt8 → Option (ByteArray × Int × Bool)
  | 0, _, _, _ => none
  | k + 1, s, x, out =>
    if x < (s.size : Int) then
      if bt s x = 34 then some (⟨out.toArray⟩, x + 1, true)
      else if plainB (bt s x) = true then (if out.length < 1000000 then lexer_text.l0 k s (x + 1) (out ++ [byt (bt s x)]) else none)
      else if bt s x = 92 then
        if x + 1 < (s.size : Int) then
          if (plainB (bt s (x + 1)) || decide (bt s (x + 1) < 32) || decide (bt s (x + 1) > 126)) = true then some (⟨#[]⟩, x + 1, false)
          else (if out.length < 1000000 then lexer_text.l0 k s (x + 2) (out ++ [byt (bt s (x + 1))]) else none)
        else some (⟨#[]⟩, x + 1, false)
      else if bt s x = 124 then
        (lexer_group.f k s (x + 1)).bind fun t => if t.2.2 = true then (if out.length + t.1.size ≤ 1000000 then (if 0 ≤ t.2.1 then lexer_text.l0 k s t.2.1 (out ++ t.1.data.toList) else none) else none) else some (⟨#[]⟩, t.2.1, false)
      else some (⟨#[]⟩, x, false)
    else some (⟨#[]⟩, x, false)
def lexer_text.f (k : Nat) (a0 : ByteArray) (a1 : Int) : Option (ByteArray × Int × Bool) := if 0 ≤ a1 then (if a0.size ≤ 1000000 then lexer_text.l0 k a0 a1 [] else none) else none
theorem lexer_text.mono_l : ∀ (k : Nat) (s : ByteArray) (x : Int) (out : List UInt8), LeO (lexer_text.l0 k s x out) (lexer_text.l0 (k + 1) s x out) := by
  intro k
  induction k with
  | zero => intro s x out; exact LeO.none _
  | succ k ih =>
    intro s x out
    rw [lexer_text.l0, lexer_text.l0]
    refine LeO.ite (LeO.ite (LeO.refl _) (LeO.ite (LeO.ite (ih _ _ _) (LeO.refl _)) (LeO.ite (LeO.ite (LeO.ite (LeO.refl _) (LeO.ite (ih _ _ _) (LeO.refl _))) (LeO.refl _)) (LeO.ite (LeO.bind (lexer_group.mono _ _ _) fun t => ?_) (LeO.refl _))))) (LeO.refl _)
    exact LeO.ite (LeO.ite (LeO.ite (ih _ _ _) (LeO.refl _)) (LeO.refl _)) (LeO.refl _)
theorem lexer_text.mono : ∀ a0 a1 k, LeO (lexer_text.f k a0 a1) (lexer_text.f (k + 1) a0 a1) := fun a0 a1 k => LeO.ite (LeO.ite (lexer_text.mono_l _ _ _ _) (LeO.refl _)) (LeO.refl _)
structure TextI (s : ByteArray) (gg : Nat) (x : Int) (out : List UInt8) (r : ByteArray × Int × Bool) : Prop where
  val : lexer_text.l0 gg s x out = some r
  pos : 0 ≤ x
  sz : s.size ≤ 1000000
section
variable {s : ByteArray} {gg : Nat} {x : Int} {out : List UInt8} {r : ByteArray × Int × Bool}
theorem TextI.suc (h : TextI s gg x out r) : ∃ g, gg = g + 1 := by
  cases gg with
  | zero => have := h.val; simp [lexer_text.l0] at this
  | succ g => exact ⟨g, rfl⟩
theorem TextI.fin (h : TextI s gg x out r) (hx : ¬ x < (s.size : Int)) : r = (⟨#[]⟩, x, false) := by
  obtain ⟨g, rfl⟩ := h.suc
  have := h.val
  rw [lexer_text.l0, if_neg hx] at this
  exact (Option.some.inj this).symm
theorem TextI.quote (h : TextI s gg x out r) (hx : x < (s.size : Int)) (h1 : bt s x = 34) : r = (⟨out.toArray⟩, x + 1, true) := by
  obtain ⟨g, rfl⟩ := h.suc
  have := h.val
  rw [lexer_text.l0, if_pos hx, if_pos h1] at this
  exact (Option.some.inj this).symm
theorem TextI.plain (h : TextI s gg x out r) (hx : x < (s.size : Int)) (h1 : ¬ bt s x = 34) (h2 : plainB (bt s x) = true) : ∃ g, gg = g + 1 ∧ out.length < 1000000 ∧ TextI s g (x + 1) (out ++ [byt (bt s x)]) r := by
  obtain ⟨g, rfl⟩ := h.suc
  have := h.val
  rw [lexer_text.l0, if_pos hx, if_neg h1, if_pos h2] at this
  split at this
  · rename_i hl
    exact ⟨g, rfl, hl, this, by have := h.pos; omega, h.sz⟩
  · cases this
theorem TextI.esc0 (h : TextI s gg x out r) (hx : x < (s.size : Int)) (h1 : ¬ bt s x = 34) (h2 : ¬ plainB (bt s x) = true) (h3 : bt s x = 92) (h4 : ¬ x + 1 < (s.size : Int)) : r = (⟨#[]⟩, x + 1, false) := by
  obtain ⟨g, rfl⟩ := h.suc
  have := h.val
  rw [lexer_text.l0, if_pos hx, if_neg h1, if_neg h2, if_pos h3, if_neg h4] at this
  exact (Option.some.inj this).symm
theorem TextI.esc1 (h : TextI s gg x out r) (hx : x < (s.size : Int)) (h1 : ¬ bt s x = 34) (h2 : ¬ plainB (bt s x) = true) (h3 : bt s x = 92) (h4 : x + 1 < (s.size : Int)) (h5 : (plainB (bt s (x + 1)) || decide (bt s (x + 1) < 32) || decide (bt s (x + 1) > 126)) = true) : r = (⟨#[]⟩, x + 1, false) := by
  obtain ⟨g, rfl⟩ := h.suc
  have := h.val
  rw [lexer_text.l0, if_pos hx, if_neg h1, if_neg h2, if_pos h3, if_pos h4, if_pos h5] at this
  exact (Option.some.inj this).symm
theorem TextI.esc2 (h : TextI s gg x out r) (hx : x < (s.size : Int)) (h1 : ¬ bt s x = 34) (h2 : ¬ plainB (bt s x) = true) (h3 : bt s x = 92) (h4 : x + 1 < (s.size : Int)) (h5 : ¬ (plainB (bt s (x + 1)) || decide (bt s (x + 1) < 32) || decide (bt s (x + 1) > 126)) = true) : ∃ g, gg = g + 1 ∧ out.length < 1000000 ∧ TextI s g (x + 2) (out ++ [byt (bt s (x + 1))]) r := by
  obtain ⟨g, rfl⟩ := h.suc
  have := h.val
  rw [lexer_text.l0, if_pos hx, if_neg h1, if_neg h2, if_pos h3, if_pos h4, if_neg h5] at this
  split at this
  · rename_i hl
    exact ⟨g, rfl, hl, this, by have := h.pos; omega, h.sz⟩
  · cases this
theorem TextI.bar (h : TextI s gg x out r) (hx : x < (s.size : Int)) (h1 : ¬ bt s x = 34) (h2 : ¬ plainB (bt s x) = true) (h3 : ¬ bt s x = 92) (h4 : bt s x = 124) : ∃ g t, gg = g + 1 ∧ lexer_group.f g s (x + 1) = some t ∧ ((t.2.2 = true ∧ out.length + t.1.size ≤ 1000000 ∧ TextI s g t.2.1 (out ++ t.1.data.toList) r) ∨ (t.2.2 = false ∧ r = (⟨#[]⟩, t.2.1, false))) := by
  obtain ⟨g, rfl⟩ := h.suc
  have := h.val
  rw [lexer_text.l0, if_pos hx, if_neg h1, if_neg h2, if_neg h3, if_pos h4] at this
  obtain ⟨t, ht, h5⟩ := Option.bind_eq_some_iff.1 this
  refine ⟨g, t, rfl, ht, ?_⟩
  split at h5
  · rename_i h6
    split at h5
    · rename_i h7
      split at h5
      · rename_i h8
        exact .inl ⟨h6, h7, h5, h8, h.sz⟩
      · cases h5
    · cases h5
  · rename_i h6
    exact .inr ⟨by simpa using h6, (Option.some.inj h5).symm⟩
theorem TextI.bad (h : TextI s gg x out r) (hx : x < (s.size : Int)) (h1 : ¬ bt s x = 34) (h2 : ¬ plainB (bt s x) = true) (h3 : ¬ bt s x = 92) (h4 : ¬ bt s x = 124) : r = (⟨#[]⟩, x, false) := by
  obtain ⟨g, rfl⟩ := h.suc
  have := h.val
  rw [lexer_text.l0, if_pos hx, if_neg h1, if_neg h2, if_neg h3, if_neg h4] at this
  exact (Option.some.inj this).symm
end
theorem u8_bt (s : ByteArray) (x : Int) : (((byt (bt s x)).toNat : Nat) : Int) = bt s x := by
  have := bt_range s x
  unfold byt
  rw [UInt8.toNat_ofNat']
  omega
theorem wplus {x : Int} (h0 : 0 ≤ x) (h : x ≤ 1000000) (j : Int) (hj : 0 ≤ j) (hj2 : j ≤ 5) : wrap64 (x + j) = x + j := by unfold wrap64; omega
theorem ret_text {r1 a : ByteArray} {r2 b : Int} {r3 c : Bool} (h : (r1, r2, r3) = (a, b, c)) : Ending.returned (.tuple #[.string a, .int .i64 b, .bool c]) = .returned (.tuple #[.string r1, .int .i64 r2, .bool r3]) := by
  simp only [Prod.mk.injEq] at h
  obtain ⟨rfl, rfl, rfl⟩ := h
  rfl
theorem lexer_text.calls (k : Nat) (a0 : ByteArray) (a1 : Int) (r1 : ByteArray) (r2 : Int) (r3 : Bool) (w : World) (h : lexer_text.f k a0 a1 = some (r1, r2, r3)) :
    Calls Tryz.prog 130 #[.string a0, .int .i64 a1] w fun e w' => e = .returned (.tuple #[.string r1, .int .i64 r2, .bool r3]) ∧ Below w.heap.size w w' := by
  unfold lexer_text.f at h
  split at h
  case isFalse => cases h
  rename_i hp
  split at h
  case isFalse => cases h
  rename_i hs
  have HT : Aside0 (TextI a0 k a1 [] (r1, r2, r3)) := ⟨⟨h, hp, hs⟩⟩
  have HB := Aside0.mk (bld_new w)
  have HW := Aside0.mk (below_alloc (Below.refl w.heap.size w) (.cells #[.pointer none, .slice none 0 0] 62))
  clear h hp hs
  go_enter Tryz.func130, Tryz.ntmps130
  go_upto_region 2 with (fail)
  obtain ⟨B, hBB⟩ : ∃ B, w.heap.size = B := ⟨_, rfl⟩
  rw [hBB] at HB HW
  simp only [hBB]
  have HBB := Aside0.mk hBB
  clear hBB
  generalize w.alloc (.cells #[.pointer none, .slice none 0 0] 62) = W at HB HW ⊢
  go_loopg [1] k (fun gg v1 wr => ∃ (x : Int) (out : List UInt8), v1 = .int .i64 x ∧ Aside0 (TextI a0 gg x out (r1, r2, r3)) ∧ Aside0 (IsBld B B out wr) ∧ Aside0 (Below B w wr))
  case atStart => exact ⟨_, _, rfl, HT, HB, HW⟩
  case round =>
    obtain ⟨x, out, rfl, HI, HC, HD⟩ := hrel
    clear HT HB HW
    have hp : 0 ≤ x := HI.out.pos
    have hq : a0.size ≤ 1000000 := HI.out.sz
    have HS : Aside0 (B ≤ wr.heap.size) := ⟨HBB.out ▸ HD.out.size⟩
    by_cases hx : x < (a0.size : Int)
    · have c0 : decide (x < (a0.size : Int)) = true := decide_eq_true hx
      have hx0 : ∀ h : x.toNat < a0.size, ((a0[x.toNat]'h).toNat : Int) = bt a0 x := bt_at a0 x
      have hz0 : x.toNat < a0.size := by omega
      have hz1 : (x.toNat < a0.size) = True := eq_true hz0
      have W1 := Aside0.mk (wplus hp (Int.le_trans (Int.le_of_lt hx) (by omega)) 1 (by omega) (by omega))
      by_cases h34 : bt a0 x = 34
      · have HR := Aside0.mk (HI.out.quote hx h34)
        have c1 : (bt a0 x == 34) = true := beq_iff_eq.mpr h34
        clear h34
        have w1 := W1.out
        go_wp2_with fail
        refine (bld_string B B out wr HC.out HS.out).mono ?_
        rintro e w2 ⟨rfl, hb1, hb2, hb3⟩
        have HD2 := Aside0.mk (HD.out.trans hb2)
        clear hb1 hb2 hb3
        go_wp2
        go_ret3
        exact ⟨ret_text HR.out, by rw [HBB.out]; exact HD2.out⟩
      · have c1 : (bt a0 x == 34) = false := beq_eq_false_iff_ne.mpr h34
        by_cases hpl : plainB (bt a0 x) = true
        · obtain ⟨g, hg, hl, hT⟩ := HI.out.plain hx h34 hpl
          have HT := Aside0.mk hT
          have HL := Aside0.mk hl
          have HG := Aside0.mk hg
          have HP := Aside0.mk ((plain_eq (bt a0 x)).trans (congrArg some hpl))
          have HU := Aside0.mk (u8_bt a0 x)
          clear hT hl hg hpl h34
          have w1 := W1.out
          go_wp2_with fail
          refine (lexer_plain.calls (bt a0 x) true wr HP.out).mono ?_
          rintro e w2 ⟨rfl, hb⟩
          have HC2 : Aside0 (IsBld B B out w2) := ⟨bld_below HC.out hb.below⟩
          have HD2 := Aside0.mk (HD.out.trans (hb.below.mono HS.out))
          have HS2 : Aside0 (B ≤ w2.heap.size) := ⟨Nat.le_trans HS.out hb.below.size⟩
          clear hb
          go_wp2_with fail
          rw [← HU.out]
          refine (bld_byte B B out (byt (bt a0 x)) w2 HC2.out (Nat.lt_of_lt_of_le HL.out (by decide)) HS2.out).mono ?_
          rintro e w3 ⟨rfl, hc1, hc2, hc3⟩
          have HC3 := Aside0.mk hc1
          have HD3 := Aside0.mk (HD2.out.trans hc2)
          clear hc1 hc2 hc3
          go_wp2
          have hg := HG.out
          clear HG
          subst hg
          go_roundg g
          case measure => exact Nat.lt_succ_self g
          case rel => exact ⟨_, _, rfl, HT, HC3, HD3⟩
        · have HP := Aside0.mk ((plain_eq (bt a0 x)).trans (congrArg some (Bool.eq_false_iff.2 hpl)))
          by_cases h92 : bt a0 x = 92
          · have c2 : (bt a0 x == 92) = true := beq_iff_eq.mpr h92
            by_cases hx1 : x + 1 < (a0.size : Int)
            · have c3 : decide (x + 1 ≥ (a0.size : Int)) = false := decide_eq_false (by omega)
              have hy0 : ∀ h : (x + 1).toNat < a0.size, ((a0[(x + 1).toNat]'h).toNat : Int) = bt a0 (x + 1) := bt_at a0 (x + 1)
              have hv0 : (x + 1).toNat < a0.size := by omega
              have hv1 : ((x + 1).toNat < a0.size) = True := eq_true hv0
              have hv2 : 0 ≤ x + 1 := by omega
              have HQ := Aside0.mk (plain_eq (bt a0 (x + 1)))
              by_cases h5 : (plainB (bt a0 (x + 1)) || decide (bt a0 (x + 1) < 32) || decide (bt a0 (x + 1) > 126)) = true
              · have HR := Aside0.mk (HI.out.esc1 hx h34 hpl h92 hx1 h5)
                clear h34 hpl h92
                have HQ5 := Aside0.mk h5
                clear h5
                have w1 := W1.out
                go_wp2_with fail
                refine (lexer_plain.calls (bt a0 x) false wr HP.out).mono ?_
                rintro e w2 ⟨rfl, hb⟩
                have HD2 := Aside0.mk (HD.out.trans (hb.below.mono HS.out))
                have HS2 : Aside0 (B ≤ w2.heap.size) := ⟨Nat.le_trans HS.out hb.below.size⟩
                clear hb
                go_wp2_with fail
                refine (lexer_plain.calls (bt a0 (x + 1)) _ w2 HQ.out).mono ?_
                rintro e w3 ⟨rfl, hb⟩
                have HD3 := Aside0.mk (HD2.out.trans (hb.below.mono HS2.out))
                clear hb
                have h5 := HQ5.out
                cases hq1 : plainB (bt a0 (x + 1)) with
                | true =>
                  clear h5 hq1
                  go_wp2
                  go_ret3
                  exact ⟨ret_text HR.out, by rw [HBB.out]; exact HD3.out⟩
                | false =>
                  cases hq2 : decide (bt a0 (x + 1) < 32) with
                  | true =>
                    clear h5 hq1
                    go_wp2
                    go_ret3
                    exact ⟨ret_text HR.out, by rw [HBB.out]; exact HD3.out⟩
                  | false =>
                    have hq3 : decide (bt a0 (x + 1) > 126) = true := by simpa [hq1, hq2] using h5
                    clear h5 hq1
                    go_wp2
                    go_ret3
                    exact ⟨ret_text HR.out, by rw [HBB.out]; exact HD3.out⟩
              · obtain ⟨g, hg, hl, hT⟩ := HI.out.esc2 hx h34 hpl h92 hx1 h5
                have HT := Aside0.mk hT
                have HL := Aside0.mk hl
                have HG := Aside0.mk hg
                have HU := Aside0.mk (u8_bt a0 (x + 1))
                have h5' : (plainB (bt a0 (x + 1)) = false ∧ decide (bt a0 (x + 1) < 32) = false) ∧ decide (bt a0 (x + 1) > 126) = false := by
                  have := Bool.eq_false_iff.2 h5
                  rw [Bool.or_eq_false_iff, Bool.or_eq_false_iff] at this
                  exact this
                have HQ2 := Aside0.mk (HQ.out.trans (congrArg some h5'.1.1))
                have q2 := h5'.1.2
                have q3 := h5'.2
                have W2 := Aside0.mk (wplus hv2 (Int.le_trans (Int.le_of_lt hx1) (by omega)) 1 (by omega) (by omega))
                clear hT hl hg hpl h34 h92 h5 h5'
                have w1 := W1.out
                go_wp2_with fail
                refine (lexer_plain.calls (bt a0 x) false wr HP.out).mono ?_
                rintro e w2 ⟨rfl, hb⟩
                have HC2 : Aside0 (IsBld B B out w2) := ⟨bld_below HC.out hb.below⟩
                have HD2 := Aside0.mk (HD.out.trans (hb.below.mono HS.out))
                have HS2 : Aside0 (B ≤ w2.heap.size) := ⟨Nat.le_trans HS.out hb.below.size⟩
                clear hb
                go_wp2_with fail
                refine (lexer_plain.calls (bt a0 (x + 1)) false w2 HQ2.out).mono ?_
                rintro e w3 ⟨rfl, hb⟩
                have HC3 : Aside0 (IsBld B B out w3) := ⟨bld_below HC2.out hb.below⟩
                have HD3 := Aside0.mk (HD2.out.trans (hb.below.mono HS2.out))
                have HS3 : Aside0 (B ≤ w3.heap.size) := ⟨Nat.le_trans HS2.out hb.below.size⟩
                clear hb
                have w2' := W2.out
                go_wp2_with fail
                rw [← HU.out]
                refine (bld_byte B B out (byt (bt a0 (x + 1))) w3 HC3.out (Nat.lt_of_lt_of_le HL.out (by decide)) HS3.out).mono ?_
                rintro e w4 ⟨rfl, hc1, hc2, hc3⟩
                have HC4 := Aside0.mk hc1
                have HD4 := Aside0.mk (HD3.out.trans hc2)
                clear hc1 hc2 hc3
                go_wp2
                have hg := HG.out
                clear HG
                subst hg
                go_roundg g
                case measure => exact Nat.lt_succ_self g
                case rel => exact ⟨x + 2, _, congrArg (Value.int .i64) (Int.add_assoc x 1 1), HT, HC4, HD4⟩
            · have HR := Aside0.mk (HI.out.esc0 hx h34 hpl h92 hx1)
              have c3 : decide (x + 1 ≥ (a0.size : Int)) = true := decide_eq_true (by omega)
              clear h34 hpl h92
              have w1 := W1.out
              go_wp2_with fail
              refine (lexer_plain.calls (bt a0 x) false wr HP.out).mono ?_
              rintro e w2 ⟨rfl, hb⟩
              have HD2 := Aside0.mk (HD.out.trans (hb.below.mono HS.out))
              clear hb
              go_wp2
              go_ret3
              exact ⟨ret_text HR.out, by rw [HBB.out]; exact HD2.out⟩
          · have c2 : (bt a0 x == 92) = false := beq_eq_false_iff_ne.mpr h92
            by_cases h124 : bt a0 x = 124
            · have c3 : (bt a0 x == 124) = true := beq_iff_eq.mpr h124
              obtain ⟨g, ⟨t1, t2, t3⟩, hg, hgr, hT⟩ := HI.out.bar hx h34 hpl h92 h124
              have HT := Aside0.mk hT
              have HGR := Aside0.mk hgr
              have HG := Aside0.mk hg
              clear h34 hpl h92 h124 hT hgr hg
              have w1 := W1.out
              go_wp2_with fail
              refine (lexer_plain.calls (bt a0 x) false wr HP.out).mono ?_
              rintro e w2 ⟨rfl, hb⟩
              have HC2 : Aside0 (IsBld B B out w2) := ⟨bld_below HC.out hb.below⟩
              have HD2 := Aside0.mk (HD.out.trans (hb.below.mono HS.out))
              have HS2 : Aside0 (B ≤ w2.heap.size) := ⟨Nat.le_trans HS.out hb.below.size⟩
              clear hb
              go_wp2_with fail
              refine (lexer_group.calls g a0 (x + 1) t1 t2 t3 w2 HGR.out).mono ?_
              rintro e w3 ⟨rfl, hb⟩
              have HC3 : Aside0 (IsBld B B out w3) := ⟨bld_below HC2.out hb⟩
              have HD3 := Aside0.mk (HD2.out.trans (hb.mono HS2.out))
              have HS3 : Aside0 (B ≤ w3.heap.size) := ⟨Nat.le_trans HS2.out hb.size⟩
              clear hb
              rcases HT.out with ⟨h6, hl, hT⟩ | ⟨h6, hR⟩
              · have HL := Aside0.mk hl
                have HT' := Aside0.mk hT
                change t3 = true at h6
                subst h6
                clear hl hT HT
                go_wp2_with fail
                refine (bld_str B B out t1 w3 HC3.out (Nat.le_trans HL.out (by decide)) HS3.out).mono ?_
                rintro e w4 ⟨rfl, hc1, hc2, hc3⟩
                have HC4 := Aside0.mk hc1
                have HD4 := Aside0.mk (HD3.out.trans hc2)
                clear hc1 hc2 hc3
                go_wp2
                have hg := HG.out
                clear HG
                subst hg
                go_roundg g
                case measure => exact Nat.lt_succ_self g
                case rel => exact ⟨_, _, rfl, HT', HC4, HD4⟩
              · have HR := Aside0.mk hR
                change t3 = false at h6
                subst h6
                clear hR HT
                go_wp2
                go_ret3
                exact ⟨ret_text HR.out, by rw [HBB.out]; exact HD3.out⟩
            · have c3 : (bt a0 x == 124) = false := beq_eq_false_iff_ne.mpr h124
              have HR := Aside0.mk (HI.out.bad hx h34 hpl h92 h124)
              clear h34 hpl h92 h124
              have w1 := W1.out
              go_wp2_with fail
              refine (lexer_plain.calls (bt a0 x) false wr HP.out).mono ?_
              rintro e w2 ⟨rfl, hb⟩
              have HD2 := Aside0.mk (HD.out.trans (hb.below.mono HS.out))
              clear hb
              go_wp2
              go_ret3
              exact ⟨ret_text HR.out, by rw [HBB.out]; exact HD2.out⟩
    · have HR := Aside0.mk (HI.out.fin hx)
      have c0 : decide (x < (a0.size : Int)) = false := decide_eq_false hx
      skip
      go_wp2
      go_ret3
      exact ⟨ret_text HR.out, by rw [HBB.out]; exact HD.out⟩
end Go.Proofs.YtnphnhkinjppjaaGreatDoor.Q
end
