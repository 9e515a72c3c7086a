/- The law AssetFinds answers true for every input and leaves its arguments as they were. No condition. (Part 5 of 5: the kit's printed words and walks, hand-made contracts and plain laws, joined in build order, without what the theorem does not reach.) -/
import Derived.ArgAppend
import Derived.Test.YtnphnhkinjppjaaGreatDoorRows
import Derived.ProofKit
import Derived.OpenShut
import Derived.LaidMore
import Derived.Lay
import Derived.SevenTiedAt
import Derived.Stop.Joined
import Derived.Lib.LaidTab
import Derived.Shelf.Vars
import Derived.HandedShaped
import Derived.WalkKit
import Derived.ShutString
import Derived.ChangeOld
import Derived.Below
import Derived.SizedLaws
import Derived.Carry
import Derived.Test.YtnphnhkinjppjaaGreatDoorTie
import Derived.Test.YtnphnhkinjppjaaGreatDoorCards
import Derived.Test.YtnphnhkinjppjaaGreatDoorGAssetFinds4
set_option linter.unusedVariables false
set_option linter.unusedSimpArgs false
section
set_option maxHeartbeats 8000000
set_option maxRecDepth 100000
namespace Go.Proofs.YtnphnhkinjppjaaGreatDoor.Q
open Go.RowKit Go.Proofs.YtnphnhkinjppjaaGreatDoorW.PrintWords Go.Proofs.YtnphnhkinjppjaaGreatDoorW.PrintLast Go.Proofs.YtnphnhkinjppjaaGreatDoorW.PrintMore
attribute [local go_sem] max2_int min2_int max_two min_two max_three min_three max_four min_four
def lexer_skip_1.f (a0 : Int) : Option (Bool) := some (a0 != 10)
theorem lexer_skip_1.calls (a0 : Int) (r : Bool) (w : World) (h : lexer_skip_1.f a0 = some r) :
 Calls Tryz.prog 128 #[.int .u8 a0] w fun e w' => e = .returned (.bool r) ∧ Drawn0 w w' := by
 unfold lexer_skip_1.f at h; have H := h
 clear h
 obtain rfl := Option.some.inj H
 go_enter Tryz.func128, Tryz.ntmps128
 go_wp2
 go_ret
 exact ⟨by first | rfl | (simp; done) | (simp [*]; done), by repeat (first | exact Drawn0.refl _ | apply Drawn0.step)⟩
def lexer_while_at_lexer_skip_1.l0 : Nat → ByteArray → Int → Option (Int)
  | 0, _, _ => none
  | k + 1, x0, x1 => if x1 < (x0.size : Int) then (if 0 ≤ x1 then ((lexer_skip_1.f (bt x0 x1)).bind fun t150 => (if t150 = true then (lexer_while_at_lexer_skip_1.l0 k x0 (wrap64 (x1 + 1))) else (some x1))) else (none)) else (some x1)
def lexer_while_at_lexer_skip_1.f (k : Nat) (a0 : ByteArray) (a1 : Int)  : Option (Int) := lexer_while_at_lexer_skip_1.l0 k a0 a1
theorem lexer_while_at_lexer_skip_1.mono_l : ∀ k, (∀ y0 y1, LeO (lexer_while_at_lexer_skip_1.l0 k y0 y1) (lexer_while_at_lexer_skip_1.l0 (k + 1) y0 y1))
  | 0 => fun _ _ r h => by simp [lexer_while_at_lexer_skip_1.l0] at h
  | k + 1 => by
    have ih0 := lexer_while_at_lexer_skip_1.mono_l k
    · intro y0 y1
      unfold lexer_while_at_lexer_skip_1.l0
      repeat' first
      | (with_reducible exact ih0 _ _)
      | (with_reducible exact LeO.refl _)
      | (with_reducible exact LeO.none _)
      | (with_reducible refine LeO.ite ?_ ?_)
      | (with_reducible refine LeO.bind ?_ (fun _ => ?_))
theorem lexer_while_at_lexer_skip_1.mono : ∀ a0 a1 k, LeO (lexer_while_at_lexer_skip_1.f k a0 a1) (lexer_while_at_lexer_skip_1.f (k + 1) a0 a1) := by
  intro a0 a1 k
  have ih0 := lexer_while_at_lexer_skip_1.mono_l k
  unfold lexer_while_at_lexer_skip_1.f
  repeat' first
      | (with_reducible exact ih0 _ _)
      | (with_reducible exact LeO.refl _)
      | (with_reducible exact LeO.none _)
      | (with_reducible refine LeO.ite ?_ ?_)
      | (with_reducible refine LeO.bind ?_ (fun _ => ?_))
theorem lexer_while_at_lexer_skip_1.calls (k : Nat) (a0 : ByteArray) (a1 : Int)  (r : Int) (w : World) (h : lexer_while_at_lexer_skip_1.f k a0 a1 = some r) :
 Calls Tryz.prog 89 #[.string a0, .int .i64 a1, (.func (.func 128) #[] #[])] w fun e w' => e = .returned (.int .i64 r) ∧ Drawn0 w w' := by
 unfold lexer_while_at_lexer_skip_1.f at h; have H := h
 clear h
 have H' := Aside0.mk H
 clear H
 go_enter Tryz.func89, Tryz.ntmps89
 go_wp2
 go_loopg [1] k (fun kq v1 w' => ∃ (x1_1 : Int), v1 = .int .i64 x1_1 ∧ Aside0 (lexer_while_at_lexer_skip_1.l0 kq a0 x1_1 = some r) ∧ Aside0 (kq ≤ k) ∧ Drawn0 w w')
 case atStart => exact ⟨(a1), zI, H', ⟨Nat.le_refl _⟩, by repeat (first | exact Drawn0.refl _ | apply Drawn0.step)⟩
 case round =>
  clear H'
  obtain ⟨x1_1, rfl, HA, HK1, ⟨m1, rfl⟩⟩ := hrel
  rcases gk with _ | k1
  · exact absurd HA.out (by simp [lexer_while_at_lexer_skip_1.l0])
  have H := HA.out
  clear HA
  simp only [lexer_while_at_lexer_skip_1.l0] at H
  by_cases c4 : x1_1 < (a0.size : Int)
  rotate_left
  · rw [if_neg c4] at H
    have c4b0 : decide (x1_1 < (a0.size : Int)) = false := decide_eq_false c4; clear c4
    obtain rfl := Option.some.inj H
    go_wp2
    go_ret
    exact ⟨by first | rfl | (simp; done) | (simp [*]; done), by repeat (first | exact Drawn0.refl _ | apply Drawn0.step)⟩
  rw [if_pos c4] at H
  have c4b0 : decide (x1_1 < (a0.size : Int)) = true := decide_eq_true c4; clear c4
  by_cases c5 : 0 ≤ x1_1
  rotate_left
  · rw [if_neg c5] at H
    exact absurd H (by simp)
  rw [if_pos c5] at H
  have c5b0 : decide (0 ≤ x1_1) = true := decide_eq_true c5; clear c5
  replace H := Option.bind_eq_some_iff.mp H
  obtain ⟨t150, A70, H⟩ := H
  try dsimp only at H
  have A7 := Aside0.mk A70; clear A70
  by_cases c8 : t150 = true
  · subst c8
    rw [if_pos rfl] at H
    have H' := Aside0.mk H
    clear H
    have p6 : 0 ≤ (x1_1 : Int) := za
    have q6 : x1_1 < (a0.size : Int) := za
    have hx6 := bt_at a0 x1_1
    replace p6 := eq_true p6
    replace q6 := eq_true q6
    go_wp2_with (first | (go_at_call 128; (with_reducible refine (lexer_skip_1.calls (bt a0 x1_1) true _ A7.out).mono ?_); rintro e w' ⟨rfl, ⟨nd, rfl⟩⟩))
    go_roundg k1
    case measure => have := HK1.out; omega
    case rel => exact ⟨(wrap64 (x1_1 + 1)), zI, H', ⟨by have := HK1.out; omega⟩, by repeat (first | exact Drawn0.refl _ | apply Drawn0.step)⟩
  replace c8 := Bool.eq_false_iff.mpr c8
  subst c8; rw [if_neg zF] at H
  obtain rfl := Option.some.inj H
  have p6 : 0 ≤ (x1_1 : Int) := za
  have q6 : x1_1 < (a0.size : Int) := za
  have hx6 := bt_at a0 x1_1
  replace p6 := eq_true p6
  replace q6 := eq_true q6
  go_wp2_with (first | (go_at_call 128; (with_reducible refine (lexer_skip_1.calls (bt a0 x1_1) false _ A7.out).mono ?_); rintro e w' ⟨rfl, ⟨nd, rfl⟩⟩))
  go_ret
  exact ⟨by first | rfl | (simp; done) | (simp [*]; done), by repeat (first | exact Drawn0.refl _ | apply Drawn0.step)⟩
def lexer_skip.l0 : Nat → ByteArray → Int → Option (Int)
  | 0, _, _ => none
  | k + 1, x0, x1 => if x1 < (x0.size : Int) then (if 0 ≤ x1 then ((lexer_class.f k (bt x0 x1)).bind fun t151 => (if t151 = 1 then (lexer_skip.l0 k x0 (wrap64 (x1 + 1))) else (if (bt x0 x1) = 35 then ((lexer_while_at_lexer_skip_1.f k x0 x1).bind fun t152 => (lexer_skip.l0 k x0 t152)) else (some x1)))) else (none)) else (some x1)
def lexer_skip.f (k : Nat) (a0 : ByteArray) (a1 : Int) : Option (Int) := lexer_skip.l0 k a0 a1
theorem lexer_skip.mono_l : ∀ k, (∀ y0 y1, LeO (lexer_skip.l0 k y0 y1) (lexer_skip.l0 (k + 1) y0 y1))
  | 0 => fun _ _ r h => by simp [lexer_skip.l0] at h
  | k + 1 => by
    have ih0 := lexer_skip.mono_l k
    · intro y0 y1
      unfold lexer_skip.l0
      repeat' first
      | (with_reducible exact ih0 _ _)
      | (with_reducible exact lexer_class.mono _ _)
      | (with_reducible exact lexer_while_at_lexer_skip_1.mono _ _ _)
      | (with_reducible exact LeO.refl _)
      | (with_reducible exact LeO.none _)
      | (with_reducible refine LeO.ite ?_ ?_)
      | (with_reducible refine LeO.bind ?_ (fun _ => ?_))
theorem lexer_skip.mono : ∀ a0 a1 k, LeO (lexer_skip.f k a0 a1) (lexer_skip.f (k + 1) a0 a1) := by
  intro a0 a1 k
  have ih0 := lexer_skip.mono_l k
  unfold lexer_skip.f
  repeat' first
      | (with_reducible exact ih0 _ _)
      | (with_reducible exact lexer_class.mono _ _)
      | (with_reducible exact lexer_while_at_lexer_skip_1.mono _ _ _)
      | (with_reducible exact LeO.refl _)
      | (with_reducible exact LeO.none _)
      | (with_reducible refine LeO.ite ?_ ?_)
      | (with_reducible refine LeO.bind ?_ (fun _ => ?_))
theorem lexer_skip.calls (k : Nat) (a0 : ByteArray) (a1 : Int) (r : Int) (w : World) (h : lexer_skip.f k a0 a1 = some r) :
 Calls Tryz.prog 101 #[.string a0, .int .i64 a1] w fun e w' => e = .returned (.int .i64 r) ∧ Drawn0 w w' := by
 unfold lexer_skip.f at h; have H := h
 clear h
 have H' := Aside0.mk H
 clear H
 go_enter Tryz.func101, Tryz.ntmps101
 go_wp2
 go_loopg [1] k (fun kq v1 w' => ∃ (x1_1 : Int), v1 = .int .i64 x1_1 ∧ Aside0 (lexer_skip.l0 kq a0 x1_1 = some r) ∧ Aside0 (kq ≤ k) ∧ Drawn0 w w')
 case atStart => exact ⟨(a1), zI, H', ⟨Nat.le_refl _⟩, by repeat (first | exact Drawn0.refl _ | apply Drawn0.step)⟩
 case round =>
  clear H'
  obtain ⟨x1_1, rfl, HA, HK1, ⟨m1, rfl⟩⟩ := hrel
  rcases gk with _ | k1
  · exact absurd HA.out (by simp [lexer_skip.l0])
  have H := HA.out
  clear HA
  simp only [lexer_skip.l0] at H
  by_cases c3 : x1_1 < (a0.size : Int)
  rotate_left
  · rw [if_neg c3] at H
    have c3b0 : decide (x1_1 < (a0.size : Int)) = false := decide_eq_false c3; clear c3
    obtain rfl := Option.some.inj H
    go_wp2
    go_ret
    exact ⟨by first | rfl | (simp; done) | (simp [*]; done), by repeat (first | exact Drawn0.refl _ | apply Drawn0.step)⟩
  rw [if_pos c3] at H
  have c3b0 : decide (x1_1 < (a0.size : Int)) = true := decide_eq_true c3; clear c3
  by_cases c4 : 0 ≤ x1_1
  rotate_left
  · rw [if_neg c4] at H
    exact absurd H (by simp)
  rw [if_pos c4] at H
  have c4b0 : decide (0 ≤ x1_1) = true := decide_eq_true c4; clear c4
  replace H := Option.bind_eq_some_iff.mp H
  obtain ⟨t151, A60, H⟩ := H
  try dsimp only at H
  have A6 := Aside0.mk A60; clear A60
  by_cases c7 : t151 = 1
  · rw [if_pos c7] at H
    have c7b0 : (t151 == 1) = true := beq_iff_eq.mpr c7; have c7b1 : (t151 != 1) = false := bne_eq_false_iff_eq.mpr c7; clear c7
    have H' := Aside0.mk H
    clear H
    have p5 : 0 ≤ (x1_1 : Int) := za
    have q5 : x1_1 < (a0.size : Int) := za
    have hx5 := bt_at a0 x1_1
    replace p5 := eq_true p5
    replace q5 := eq_true q5
    go_wp2_with (first | ((with_reducible refine gate_callee (f := 88) rfl ?_); refine zgl 14 Tryz.func88 #[.int .u8 (bt a0 x1_1)] ?_; (with_reducible refine (lexer_class.calls k1 (bt a0 x1_1) t151 _ A6.out).mono ?_); rintro e w' ⟨rfl, ⟨nd, rfl⟩⟩; refine ⟨_, rfl, ?_⟩))
    go_roundg k1
    case measure => have := HK1.out; omega
    case rel => exact ⟨(wrap64 (x1_1 + 1)), zI, H', ⟨by have := HK1.out; omega⟩, by repeat (first | exact Drawn0.refl _ | apply Drawn0.step)⟩
  rw [if_neg c7] at H
  have c7b0 : (t151 == 1) = false := beq_eq_false_iff_ne.mpr c7
  have c7b1 : (t151 != 1) = true := bne_iff_ne.mpr c7
  by_cases c9 : (bt a0 x1_1) = 35
  · rw [if_pos c9] at H
    have c9b0 : ((bt a0 x1_1) == 35) = true := beq_iff_eq.mpr c9; have c9b1 : ((bt a0 x1_1) != 35) = false := bne_eq_false_iff_eq.mpr c9; clear c9
    replace H := Option.bind_eq_some_iff.mp H
    obtain ⟨t152, A100, H⟩ := H
    try dsimp only at H
    have A10 := Aside0.mk A100; clear A100
    have H' := Aside0.mk H
    clear H
    have p5 : 0 ≤ (x1_1 : Int) := za
    have q5 : x1_1 < (a0.size : Int) := za
    have hx5 := bt_at a0 x1_1
    replace p5 := eq_true p5
    replace q5 := eq_true q5
    go_wp2_with (first | ((with_reducible refine gate_callee (f := 88) rfl ?_); refine zgl 14 Tryz.func88 #[.int .u8 (bt a0 x1_1)] ?_; (with_reducible refine (lexer_class.calls k1 (bt a0 x1_1) t151 _ A6.out).mono ?_); rintro e w' ⟨rfl, ⟨nd, rfl⟩⟩; refine ⟨_, rfl, ?_⟩; have p8 : 0 ≤ (x1_1 : Int) := za; have q8 : x1_1 < (a0.size : Int) := za; have hx8 := bt_at a0 x1_1; replace p8 := eq_true p8; replace q8 := eq_true q8) | ((with_reducible refine gate_callee (f := 89) rfl ?_); refine zgl 25 Tryz.func89 #[.string a0, .int .i64 x1_1, (.func (.func 128) #[] #[])] ?_; (with_reducible refine (lexer_while_at_lexer_skip_1.calls k1 a0 x1_1  t152 _ A10.out).mono ?_); rintro e w' ⟨rfl, ⟨nd, rfl⟩⟩; refine ⟨_, rfl, ?_⟩))
    go_roundg k1
    case measure => have := HK1.out; omega
    case rel => exact ⟨(t152), zI, H', ⟨by have := HK1.out; omega⟩, by repeat (first | exact Drawn0.refl _ | apply Drawn0.step)⟩
  rw [if_neg c9] at H
  have c9b0 : ((bt a0 x1_1) == 35) = false := beq_eq_false_iff_ne.mpr c9
  have c9b1 : ((bt a0 x1_1) != 35) = true := bne_iff_ne.mpr c9
  obtain rfl := Option.some.inj H
  have p5 : 0 ≤ (x1_1 : Int) := za
  have q5 : x1_1 < (a0.size : Int) := za
  have hx5 := bt_at a0 x1_1
  replace p5 := eq_true p5
  replace q5 := eq_true q5
  go_wp2_with (first | ((with_reducible refine gate_callee (f := 88) rfl ?_); refine zgl 14 Tryz.func88 #[.int .u8 (bt a0 x1_1)] ?_; (with_reducible refine (lexer_class.calls k1 (bt a0 x1_1) t151 _ A6.out).mono ?_); rintro e w' ⟨rfl, ⟨nd, rfl⟩⟩; refine ⟨_, rfl, ?_⟩; have p8 : 0 ≤ (x1_1 : Int) := za; have q8 : x1_1 < (a0.size : Int) := za; have hx8 := bt_at a0 x1_1; replace p8 := eq_true p8; replace q8 := eq_true q8))
  go_ret
  exact ⟨by first | rfl | (simp; done) | (simp [*]; done), by repeat (first | exact Drawn0.refl _ | apply Drawn0.step)⟩
def lexer_inWord.f (k : Nat) (a0 : Int) : Option (Bool) := (lexer_class.f k a0).bind fun t153 => (some (decide (t153 ≥ 2)))
theorem lexer_inWord.mono : ∀ a0 k, LeO (lexer_inWord.f k a0) (lexer_inWord.f (k + 1) a0) := by
  intro a0 k
  unfold lexer_inWord.f
  repeat' first
      | (with_reducible exact lexer_class.mono _ _)
      | (with_reducible exact LeO.refl _)
      | (with_reducible exact LeO.none _)
      | (with_reducible refine LeO.ite ?_ ?_)
      | (with_reducible refine LeO.bind ?_ (fun _ => ?_))
theorem lexer_inWord.calls (k : Nat) (a0 : Int) (r : Bool) (w : World) (h : lexer_inWord.f k a0 = some r) :
 Calls Tryz.prog 129 #[.int .u8 a0] w fun e w' => e = .returned (.bool r) ∧ Drawn0 w w' := by
 unfold lexer_inWord.f at h; have H := h
 clear h
 replace H := Option.bind_eq_some_iff.mp H
 obtain ⟨t153, A20, H⟩ := H
 try dsimp only at H
 have A2 := Aside0.mk A20; clear A20
 obtain rfl := Option.some.inj H
 go_enter Tryz.func129, Tryz.ntmps129
 go_wp2_with (first | ((with_reducible refine gate_callee (f := 88) rfl ?_); refine zgl 4 Tryz.func88 #[.int .u8 a0] ?_; (with_reducible refine (lexer_class.calls k a0 t153 _ A2.out).mono ?_); rintro e w' ⟨rfl, ⟨nd, rfl⟩⟩; refine ⟨_, rfl, ?_⟩))
 go_ret
 exact ⟨by first | rfl | (simp; done) | (simp [*]; done), by repeat (first | exact Drawn0.refl _ | apply Drawn0.step)⟩
end Go.Proofs.YtnphnhkinjppjaaGreatDoor.Q
end

section
namespace Go.Proofs.YtnphnhkinjppjaaGreatDoor.Q
open Go.RowKit Go.Proofs.YtnphnhkinjppjaaGreatDoorW.PrintWords Go.Proofs.YtnphnhkinjppjaaGreatDoorW.PrintLast Go.Proofs.YtnphnhkinjppjaaGreatDoorW.PrintMore
def strings_IndexByte.f (s : ByteArray) (c : Int) : Option Int := some (Lib.indexByte s.data.toList c.toNat.toUInt8)
theorem strings_IndexByte.calls (s : ByteArray) (c : Int) (r : Int) (w : World) (h : strings_IndexByte.f s c = some r) :
    Calls Tryz.prog 149 #[.string s, .int .u8 c] w fun e w' => e = .returned (.int .i64 r) ∧ Below w.heap.size w w' := by
  unfold strings_IndexByte.f at h
  injection h with h
  subst h
  refine (Tryz.strings_IndexByte s c w).mono ?_
  rintro e w' ⟨rfl, rfl⟩
  exact ⟨rfl, Below.refl _ _⟩
end Go.Proofs.YtnphnhkinjppjaaGreatDoor.Q
end

section
set_option maxHeartbeats 8000000
set_option maxRecDepth 100000
namespace Go.Proofs.YtnphnhkinjppjaaGreatDoor.Q
open Go.RowKit Go.Proofs.YtnphnhkinjppjaaGreatDoorW.PrintWords Go.Proofs.YtnphnhkinjppjaaGreatDoorW.PrintLast Go.Proofs.YtnphnhkinjppjaaGreatDoorW.PrintMore
attribute [local go_sem] max2_int min2_int max_two min_two max_three min_three max_four min_four
def lexer_mark.j0 : Nat → ByteArray → Int → ByteArray → Bool → Option (ByteArray)
  | 0, _, _, _, _ => none
  | k + 1, x0, x1, x5, x25 => if x25 = true then (some x5) else (if 0 ≤ x1 then (if x1 < (x0.size : Int) then ((strings_IndexByte.f (⟨#[40, 41, 91, 93, 123, 125, 44, 59, 33, 61, 60, 62, 38, 43]⟩ : ByteArray) (bt x0 x1)).bind fun t160 => (if t160 ≥ 0 then (if x1 ≤ (wrap64 (x1 + 1)) then (if (wrap64 (x1 + 1)) ≤ (x0.size : Int) then (some (x0.extract (x1 : Int).toNat ((wrap64 (x1 + 1)) : Int).toNat)) else (none)) else (none)) else (some (⟨#[]⟩ : ByteArray)))) else (none)) else (none))
def lexer_mark.f (k : Nat) (a0 : ByteArray) (a1 : Int) : Option (ByteArray) := if (wrap64 (a1 + 2)) ≤ (a0.size : Int) then (if 0 ≤ a1 then (if a1 ≤ (wrap64 (a1 + 2)) then (if (a0.extract (a1 : Int).toNat ((wrap64 (a1 + 2)) : Int).toNat).toList = ([45, 62] : List UInt8) then (lexer_mark.j0 k a0 a1 (a0.extract (a1 : Int).toNat ((wrap64 (a1 + 2)) : Int).toNat) true) else (if (a0.extract (a1 : Int).toNat ((wrap64 (a1 + 2)) : Int).toNat).toList = ([60, 62] : List UInt8) then (lexer_mark.j0 k a0 a1 (a0.extract (a1 : Int).toNat ((wrap64 (a1 + 2)) : Int).toNat) true) else (lexer_mark.j0 k a0 a1 (a0.extract (a1 : Int).toNat ((wrap64 (a1 + 2)) : Int).toNat) ((a0.extract (a1 : Int).toNat ((wrap64 (a1 + 2)) : Int).toNat).toList == ([60, 61] : List UInt8))))) else (none)) else (none)) else (if 0 ≤ a1 then (if a1 < (a0.size : Int) then ((strings_IndexByte.f (⟨#[40, 41, 91, 93, 123, 125, 44, 59, 33, 61, 60, 62, 38, 43]⟩ : ByteArray) (bt a0 a1)).bind fun t161 => (if t161 ≥ 0 then (if a1 ≤ (wrap64 (a1 + 1)) then (if (wrap64 (a1 + 1)) ≤ (a0.size : Int) then (some (a0.extract (a1 : Int).toNat ((wrap64 (a1 + 1)) : Int).toNat)) else (none)) else (none)) else (some (⟨#[]⟩ : ByteArray)))) else (none)) else (none))
theorem lexer_mark.mono_l : ∀ k, (∀ y0 y1 y2 y3, LeO (lexer_mark.j0 k y0 y1 y2 y3) (lexer_mark.j0 (k + 1) y0 y1 y2 y3))
  | 0 => fun _ _ _ _ r h => by simp [lexer_mark.j0] at h
  | k + 1 => by
    have ih0 := lexer_mark.mono_l k
    · intro y0 y1 y2 y3
      unfold lexer_mark.j0
      repeat' first
      | (with_reducible exact ih0 _ _ _ _)
      | (with_reducible exact LeO.refl _)
      | (with_reducible exact LeO.none _)
      | (with_reducible refine LeO.ite ?_ ?_)
      | (with_reducible refine LeO.bind ?_ (fun _ => ?_))
theorem lexer_mark.mono : ∀ a0 a1 k, LeO (lexer_mark.f k a0 a1) (lexer_mark.f (k + 1) a0 a1) := by
  intro a0 a1 k
  have ih0 := lexer_mark.mono_l k
  unfold lexer_mark.f
  repeat' first
      | (with_reducible exact ih0 _ _ _ _)
      | (with_reducible exact LeO.refl _)
      | (with_reducible exact LeO.none _)
      | (with_reducible refine LeO.ite ?_ ?_)
      | (with_reducible refine LeO.bind ?_ (fun _ => ?_))
theorem lexer_mark.calls (k : Nat) (a0 : ByteArray) (a1 : Int) (r : ByteArray) (w : World) (h : lexer_mark.f k a0 a1 = some r) :
 Calls Tryz.prog 131 #[.string a0, .int .i64 a1] w fun e w' => e = .returned (.string r) ∧ Below w.heap.size w w' := by
 have HB := Aside0.mk (Below.refl w.heap.size w)
 unfold lexer_mark.f at h; have H := h
 clear h
 by_cases c3 : (wrap64 (a1 + 2)) ≤ (a0.size : Int)
 rotate_left
 · rw [if_neg c3] at H
   have c3b0 : decide ((wrap64 (a1 + 2)) ≤ (a0.size : Int)) = false := decide_eq_false c3; clear c3
   by_cases c21 : 0 ≤ a1
   rotate_left
   · rw [if_neg c21] at H
     exact absurd H (by simp)
   rw [if_pos c21] at H
   have c21b0 : decide (0 ≤ a1) = true := decide_eq_true c21; clear c21
   by_cases c22 : a1 < (a0.size : Int)
   rotate_left
   · rw [if_neg c22] at H
     exact absurd H (by simp)
   rw [if_pos c22] at H
   have c22b0 : decide (a1 < (a0.size : Int)) = true := decide_eq_true c22; clear c22
   replace H := Option.bind_eq_some_iff.mp H
   obtain ⟨t161, A240, H⟩ := H
   try dsimp only at H
   have A24 := Aside0.mk A240; clear A240
   by_cases c25 : t161 ≥ 0
   · rw [if_pos c25] at H
     have c25b0 : decide (0 ≤ t161) = true := decide_eq_true c25; clear c25
     have c26b0 := eq_true (of_decide_eq_true (by first | (with_reducible assumption) | assumption) : 0 ≤ a1)
     by_cases c27 : a1 ≤ (wrap64 (a1 + 1))
     rotate_left
     · rw [if_neg c27] at H
       exact absurd H (by simp)
     rw [if_pos c27] at H
     have c27b0 := eq_true c27
     have c27b1 : decide (a1 ≤ (wrap64 (a1 + 1))) = true := decide_eq_true c27
     by_cases c28 : (wrap64 (a1 + 1)) ≤ (a0.size : Int)
     rotate_left
     · rw [if_neg c28] at H
       exact absurd H (by simp)
     rw [if_pos c28] at H
     have c28b0 := eq_true c28
     have c28b1 : decide ((wrap64 (a1 + 1)) ≤ (a0.size : Int)) = true := decide_eq_true c28
     obtain rfl := Option.some.inj H
     have p23 : 0 ≤ (a1 : Int) := za
     have q23 : a1 < (a0.size : Int) := za
     have hx23 := bt_at a0 a1
     replace p23 := eq_true p23
     replace q23 := eq_true q23
     go_enter Tryz.func131, Tryz.ntmps131
     go_wp2_with (first | ((with_reducible refine gate_callee (f := 149) rfl ?_); refine zgl 30 Tryz.func149 #[.string (⟨#[40, 41, 91, 93, 123, 125, 44, 59, 33, 61, 60, 62, 38, 43]⟩ : ByteArray), .int .u8 (bt a0 a1)] ?_; (with_reducible refine (strings_IndexByte.calls (⟨#[40, 41, 91, 93, 123, 125, 44, 59, 33, 61, 60, 62, 38, 43]⟩ : ByteArray) (bt a0 a1) t161 _ A24.out).mono ?_); rintro e w29 ⟨rfl, hb⟩; refine ⟨_, rfl, ?_⟩; replace HB := Aside0.mk (below_step (zB HB) hb); (try clear hb)))
     go_ret
     exact ⟨zr, zB HB⟩
   rw [if_neg c25] at H
   have c25b0 : decide (0 ≤ t161) = false := decide_eq_false c25; clear c25
   obtain rfl := Option.some.inj H
   have p23 : 0 ≤ (a1 : Int) := za
   have q23 : a1 < (a0.size : Int) := za
   have hx23 := bt_at a0 a1
   replace p23 := eq_true p23
   replace q23 := eq_true q23
   go_enter Tryz.func131, Tryz.ntmps131
   go_wp2_with (first | ((with_reducible refine gate_callee (f := 149) rfl ?_); refine zgl 30 Tryz.func149 #[.string (⟨#[40, 41, 91, 93, 123, 125, 44, 59, 33, 61, 60, 62, 38, 43]⟩ : ByteArray), .int .u8 (bt a0 a1)] ?_; (with_reducible refine (strings_IndexByte.calls (⟨#[40, 41, 91, 93, 123, 125, 44, 59, 33, 61, 60, 62, 38, 43]⟩ : ByteArray) (bt a0 a1) t161 _ A24.out).mono ?_); rintro e w30 ⟨rfl, hb⟩; refine ⟨_, rfl, ?_⟩; replace HB := Aside0.mk (below_step (zB HB) hb); (try clear hb)))
   go_ret
   exact ⟨zr, zB HB⟩
 rw [if_pos c3] at H
 have c3b0 : decide ((wrap64 (a1 + 2)) ≤ (a0.size : Int)) = true := decide_eq_true c3; clear c3
 by_cases c4 : 0 ≤ a1
 rotate_left
 · rw [if_neg c4] at H
   exact absurd H (by simp)
 rw [if_pos c4] at H
 have c4b0 := eq_true c4
 have c4b1 : decide (0 ≤ a1) = true := decide_eq_true c4; clear c4
 by_cases c5 : a1 ≤ (wrap64 (a1 + 2))
 rotate_left
 · rw [if_neg c5] at H
   exact absurd H (by simp)
 rw [if_pos c5] at H
 have c5b0 := eq_true c5
 have c5b1 : decide (a1 ≤ (wrap64 (a1 + 2))) = true := decide_eq_true c5
 have c6b0 := eq_true (of_decide_eq_true (by first | (with_reducible assumption) | assumption) : (wrap64 (a1 + 2)) ≤ (a0.size : Int))
 have HC7 := Aside0.mk H; clear H
 go_enter Tryz.func131, Tryz.ntmps131
 go_upto_region 3 with (fail)
 go_cut [25] (fun v25 wc => ∃ (kq : Nat) (x25_6 : Bool), v25 = .bool x25_6 ∧ Aside0 (lexer_mark.j0 kq a0 a1 (a0.extract (a1 : Int).toNat ((wrap64 (a1 + 2)) : Int).toNat) x25_6 = some r) ∧ Aside0 (kq ≤ k) ∧ Aside0 (Below w.heap.size w wc))
 case first =>
  have H := HC7.out
  clear HC7
  by_cases c8 : (a0.extract (a1 : Int).toNat ((wrap64 (a1 + 2)) : Int).toNat).toList = ([45, 62] : List UInt8)
  · rw [if_pos c8] at H
    have c8b0 : ((a0.extract (a1 : Int).toNat ((wrap64 (a1 + 2)) : Int).toNat).toList == ([45, 62] : List UInt8)) = true := beq_iff_eq.mpr c8; have c8b1 : ((a0.extract (a1 : Int).toNat ((wrap64 (a1 + 2)) : Int).toNat).toList != ([45, 62] : List UInt8)) = false := bne_eq_false_iff_eq.mpr c8; clear c8
    (first | rw [c8b0] | (simp only [i64_w, i32_w]; rw [c8b0]) | skip)
    have H' := Aside0.mk H
    clear H
    go_wp2
    go_meet
    case rel => exact ⟨_, (true), zI, H', ⟨by first | omega | exact Nat.le_refl _⟩, ⟨zB HB⟩⟩
  rw [if_neg c8] at H
  have c8b0 : ((a0.extract (a1 : Int).toNat ((wrap64 (a1 + 2)) : Int).toNat).toList == ([45, 62] : List UInt8)) = false := beq_eq_false_iff_ne.mpr c8
  have c8b1 : ((a0.extract (a1 : Int).toNat ((wrap64 (a1 + 2)) : Int).toNat).toList != ([45, 62] : List UInt8)) = true := bne_iff_ne.mpr c8
  (first | rw [c8b0] | (simp only [i64_w, i32_w]; rw [c8b0]) | skip)
  by_cases c9 : (a0.extract (a1 : Int).toNat ((wrap64 (a1 + 2)) : Int).toNat).toList = ([60, 62] : List UInt8)
  · rw [if_pos c9] at H
    have c9b0 : ((a0.extract (a1 : Int).toNat ((wrap64 (a1 + 2)) : Int).toNat).toList == ([60, 62] : List UInt8)) = true := beq_iff_eq.mpr c9; have c9b1 : ((a0.extract (a1 : Int).toNat ((wrap64 (a1 + 2)) : Int).toNat).toList != ([60, 62] : List UInt8)) = false := bne_eq_false_iff_eq.mpr c9; clear c9
    have H' := Aside0.mk H
    clear H
    go_wp2
    go_meet
    case rel => exact ⟨_, (true), zI, H', ⟨by first | omega | exact Nat.le_refl _⟩, ⟨zB HB⟩⟩
  rw [if_neg c9] at H
  have c9b0 : ((a0.extract (a1 : Int).toNat ((wrap64 (a1 + 2)) : Int).toNat).toList == ([60, 62] : List UInt8)) = false := beq_eq_false_iff_ne.mpr c9
  have c9b1 : ((a0.extract (a1 : Int).toNat ((wrap64 (a1 + 2)) : Int).toNat).toList != ([60, 62] : List UInt8)) = true := bne_iff_ne.mpr c9
  have H' := Aside0.mk H
  clear H
  go_wp2
  go_meet
  case rel => exact ⟨_, (((a0.extract (a1 : Int).toNat ((wrap64 (a1 + 2)) : Int).toNat).toList == ([60, 61] : List UInt8))), zI, H', ⟨by first | omega | exact Nat.le_refl _⟩, ⟨zB HB⟩⟩
 case rest =>
  clear HC7
  (try clear c3); (try clear c3b0); (try clear c4); (try clear c4b0); (try clear c4b1); (try clear c5); (try clear c5b0); (try clear c5b1); (try clear c6b0)
  obtain ⟨kq, x25_6, rfl, HA, HJ6, HB⟩ := hcut
  rcases kq with _ | kj6
  · exact absurd HA.out (by simp [lexer_mark.j0])
  have H := HA.out
  clear HA
  simp only [lexer_mark.j0] at H
  by_cases c10 : x25_6 = true
  · subst c10
    rw [if_pos rfl] at H
    obtain rfl := Option.some.inj H
    go_wp2
    go_ret
    exact ⟨zr, zB HB⟩
  replace c10 := Bool.eq_false_iff.mpr c10
  subst c10; rw [if_neg zF] at H
  by_cases c11 : 0 ≤ a1
  rotate_left
  · rw [if_neg c11] at H
    exact absurd H (by simp)
  rw [if_pos c11] at H
  have c11b0 : decide (0 ≤ a1) = true := decide_eq_true c11; clear c11
  by_cases c12 : a1 < (a0.size : Int)
  rotate_left
  · rw [if_neg c12] at H
    exact absurd H (by simp)
  rw [if_pos c12] at H
  have c12b0 : decide (a1 < (a0.size : Int)) = true := decide_eq_true c12; clear c12
  replace H := Option.bind_eq_some_iff.mp H
  obtain ⟨t160, A140, H⟩ := H
  try dsimp only at H
  have A14 := Aside0.mk A140; clear A140
  by_cases c15 : t160 ≥ 0
  · rw [if_pos c15] at H
    have c15b0 : decide (0 ≤ t160) = true := decide_eq_true c15; clear c15
    have c16b0 := eq_true (of_decide_eq_true (by first | (with_reducible assumption) | assumption) : 0 ≤ a1)
    by_cases c17 : a1 ≤ (wrap64 (a1 + 1))
    rotate_left
    · rw [if_neg c17] at H
      exact absurd H (by simp)
    rw [if_pos c17] at H
    have c17b0 := eq_true c17
    have c17b1 : decide (a1 ≤ (wrap64 (a1 + 1))) = true := decide_eq_true c17
    by_cases c18 : (wrap64 (a1 + 1)) ≤ (a0.size : Int)
    · rw [if_pos c18] at H
      have c18b0 := eq_true c18
      have c18b1 : decide ((wrap64 (a1 + 1)) ≤ (a0.size : Int)) = true := decide_eq_true c18
      obtain rfl := Option.some.inj H
      have p13 : 0 ≤ (a1 : Int) := za
      have q13 : a1 < (a0.size : Int) := za
      have hx13 := bt_at a0 a1
      replace p13 := eq_true p13
      replace q13 := eq_true q13
      go_wp2_with (first | ((with_reducible refine gate_callee (f := 149) rfl ?_); refine zgl 30 Tryz.func149 #[.string (⟨#[40, 41, 91, 93, 123, 125, 44, 59, 33, 61, 60, 62, 38, 43]⟩ : ByteArray), .int .u8 (bt a0 a1)] ?_; (with_reducible refine (strings_IndexByte.calls (⟨#[40, 41, 91, 93, 123, 125, 44, 59, 33, 61, 60, 62, 38, 43]⟩ : ByteArray) (bt a0 a1) t160 _ A14.out).mono ?_); rintro e w19 ⟨rfl, hb⟩; refine ⟨_, rfl, ?_⟩; replace HB := Aside0.mk (below_step (zB HB) hb); (try clear hb)))
      go_ret
      exact ⟨zr, zB HB⟩
    rw [if_neg c18] at H
    exact absurd H (by simp)
  rw [if_neg c15] at H
  have c15b0 : decide (0 ≤ t160) = false := decide_eq_false c15; clear c15
  obtain rfl := Option.some.inj H
  have p13 : 0 ≤ (a1 : Int) := za
  have q13 : a1 < (a0.size : Int) := za
  have hx13 := bt_at a0 a1
  replace p13 := eq_true p13
  replace q13 := eq_true q13
  go_wp2_with (first | ((with_reducible refine gate_callee (f := 149) rfl ?_); refine zgl 30 Tryz.func149 #[.string (⟨#[40, 41, 91, 93, 123, 125, 44, 59, 33, 61, 60, 62, 38, 43]⟩ : ByteArray), .int .u8 (bt a0 a1)] ?_; (with_reducible refine (strings_IndexByte.calls (⟨#[40, 41, 91, 93, 123, 125, 44, 59, 33, 61, 60, 62, 38, 43]⟩ : ByteArray) (bt a0 a1) t160 _ A14.out).mono ?_); rintro e w20 ⟨rfl, hb⟩; refine ⟨_, rfl, ?_⟩; replace HB := Aside0.mk (below_step (zB HB) hb); (try clear hb)))
  go_ret
  exact ⟨zr, zB HB⟩
def lexer_while_at_lexer_inWord.l0 : Nat → ByteArray → Int → Option (Int)
  | 0, _, _ => none
  | k + 1, x0, x1 => if x1 < (x0.size : Int) then (if 0 ≤ x1 then ((lexer_inWord.f k (bt x0 x1)).bind fun t162 => (if t162 = true then (lexer_while_at_lexer_inWord.l0 k x0 (wrap64 (x1 + 1))) else (some x1))) else (none)) else (some x1)
def lexer_while_at_lexer_inWord.f (k : Nat) (a0 : ByteArray) (a1 : Int)  : Option (Int) := lexer_while_at_lexer_inWord.l0 k a0 a1
theorem lexer_while_at_lexer_inWord.mono_l : ∀ k, (∀ y0 y1, LeO (lexer_while_at_lexer_inWord.l0 k y0 y1) (lexer_while_at_lexer_inWord.l0 (k + 1) y0 y1))
  | 0 => fun _ _ r h => by simp [lexer_while_at_lexer_inWord.l0] at h
  | k + 1 => by
    have ih0 := lexer_while_at_lexer_inWord.mono_l k
    · intro y0 y1
      unfold lexer_while_at_lexer_inWord.l0
      repeat' first
      | (with_reducible exact ih0 _ _)
      | (with_reducible exact lexer_inWord.mono _ _)
      | (with_reducible exact LeO.refl _)
      | (with_reducible exact LeO.none _)
      | (with_reducible refine LeO.ite ?_ ?_)
      | (with_reducible refine LeO.bind ?_ (fun _ => ?_))
theorem lexer_while_at_lexer_inWord.mono : ∀ a0 a1 k, LeO (lexer_while_at_lexer_inWord.f k a0 a1) (lexer_while_at_lexer_inWord.f (k + 1) a0 a1) := by
  intro a0 a1 k
  have ih0 := lexer_while_at_lexer_inWord.mono_l k
  unfold lexer_while_at_lexer_inWord.f
  repeat' first
      | (with_reducible exact ih0 _ _)
      | (with_reducible exact lexer_inWord.mono _ _)
      | (with_reducible exact LeO.refl _)
      | (with_reducible exact LeO.none _)
      | (with_reducible refine LeO.ite ?_ ?_)
      | (with_reducible refine LeO.bind ?_ (fun _ => ?_))
theorem lexer_while_at_lexer_inWord.calls (k : Nat) (a0 : ByteArray) (a1 : Int)  (r : Int) (w : World) (h : lexer_while_at_lexer_inWord.f k a0 a1 = some r) :
 Calls Tryz.prog 89 #[.string a0, .int .i64 a1, (.func (.func 129) #[] #[])] w fun e w' => e = .returned (.int .i64 r) ∧ Drawn0 w w' := by
 unfold lexer_while_at_lexer_inWord.f at h; have H := h
 clear h
 have H' := Aside0.mk H
 clear H
 go_enter Tryz.func89, Tryz.ntmps89
 go_wp2
 go_loopg [1] k (fun kq v1 w' => ∃ (x1_1 : Int), v1 = .int .i64 x1_1 ∧ Aside0 (lexer_while_at_lexer_inWord.l0 kq a0 x1_1 = some r) ∧ Aside0 (kq ≤ k) ∧ Drawn0 w w')
 case atStart => exact ⟨(a1), zI, H', ⟨Nat.le_refl _⟩, by repeat (first | exact Drawn0.refl _ | apply Drawn0.step)⟩
 case round =>
  clear H'
  obtain ⟨x1_1, rfl, HA, HK1, ⟨m1, rfl⟩⟩ := hrel
  rcases gk with _ | k1
  · exact absurd HA.out (by simp [lexer_while_at_lexer_inWord.l0])
  have H := HA.out
  clear HA
  simp only [lexer_while_at_lexer_inWord.l0] at H
  by_cases c4 : x1_1 < (a0.size : Int)
  rotate_left
  · rw [if_neg c4] at H
    have c4b0 : decide (x1_1 < (a0.size : Int)) = false := decide_eq_false c4; clear c4
    obtain rfl := Option.some.inj H
    go_wp2
    go_ret
    exact ⟨by first | rfl | (simp; done) | (simp [*]; done), by repeat (first | exact Drawn0.refl _ | apply Drawn0.step)⟩
  rw [if_pos c4] at H
  have c4b0 : decide (x1_1 < (a0.size : Int)) = true := decide_eq_true c4; clear c4
  by_cases c5 : 0 ≤ x1_1
  rotate_left
  · rw [if_neg c5] at H
    exact absurd H (by simp)
  rw [if_pos c5] at H
  have c5b0 : decide (0 ≤ x1_1) = true := decide_eq_true c5; clear c5
  replace H := Option.bind_eq_some_iff.mp H
  obtain ⟨t162, A70, H⟩ := H
  try dsimp only at H
  have A7 := Aside0.mk A70; clear A70
  by_cases c8 : t162 = true
  · subst c8
    rw [if_pos rfl] at H
    have H' := Aside0.mk H
    clear H
    have p6 : 0 ≤ (x1_1 : Int) := za
    have q6 : x1_1 < (a0.size : Int) := za
    have hx6 := bt_at a0 x1_1
    replace p6 := eq_true p6
    replace q6 := eq_true q6
    go_wp2_with (first | (go_at_call 129; (with_reducible refine (lexer_inWord.calls k1 (bt a0 x1_1) true _ A7.out).mono ?_); rintro e w' ⟨rfl, ⟨nd, rfl⟩⟩))
    go_roundg k1
    case measure => have := HK1.out; omega
    case rel => exact ⟨(wrap64 (x1_1 + 1)), zI, H', ⟨by have := HK1.out; omega⟩, by repeat (first | exact Drawn0.refl _ | apply Drawn0.step)⟩
  replace c8 := Bool.eq_false_iff.mpr c8
  subst c8; rw [if_neg zF] at H
  obtain rfl := Option.some.inj H
  have p6 : 0 ≤ (x1_1 : Int) := za
  have q6 : x1_1 < (a0.size : Int) := za
  have hx6 := bt_at a0 x1_1
  replace p6 := eq_true p6
  replace q6 := eq_true q6
  go_wp2_with (first | (go_at_call 129; (with_reducible refine (lexer_inWord.calls k1 (bt a0 x1_1) false _ A7.out).mono ?_); rintro e w' ⟨rfl, ⟨nd, rfl⟩⟩))
  go_ret
  exact ⟨by first | rfl | (simp; done) | (simp [*]; done), by repeat (first | exact Drawn0.refl _ | apply Drawn0.step)⟩
def lexer_plain.f (a0 : Int) : Option (Bool) := if a0 ≥ 32 then (if a0 ≤ 126 then (if a0 = 34 then (some false) else (if a0 = 92 then (some false) else (some (a0 != 124)))) else (some false)) else (some false)
theorem lexer_plain.calls (a0 : Int) (r : Bool) (w : World) (h : lexer_plain.f a0 = some r) :
 Calls Tryz.prog 146 #[.int .u8 a0] w fun e w' => e = .returned (.bool r) ∧ Drawn0 w w' := by
 unfold lexer_plain.f at h; have H := h
 clear h
 by_cases c2 : a0 ≥ 32
 rotate_left
 · rw [if_neg c2] at H
   have c2b0 : decide (32 ≤ a0) = false := decide_eq_false c2; clear c2
   obtain rfl := Option.some.inj H
   go_enter Tryz.func146, Tryz.ntmps146
   go_wp2
   go_ret
   exact ⟨by first | rfl | (simp; done) | (simp [*]; done), by repeat (first | exact Drawn0.refl _ | apply Drawn0.step)⟩
 rw [if_pos c2] at H
 have c2b0 : decide (32 ≤ a0) = true := decide_eq_true c2; clear c2
 by_cases c3 : a0 ≤ 126
 rotate_left
 · rw [if_neg c3] at H
   have c3b0 : decide (a0 ≤ 126) = false := decide_eq_false c3; clear c3
   obtain rfl := Option.some.inj H
   go_enter Tryz.func146, Tryz.ntmps146
   go_wp2
   go_ret
   exact ⟨by first | rfl | (simp; done) | (simp [*]; done), by repeat (first | exact Drawn0.refl _ | apply Drawn0.step)⟩
 rw [if_pos c3] at H
 have c3b0 : decide (a0 ≤ 126) = true := decide_eq_true c3; clear c3
 by_cases c4 : a0 = 34
 · rw [if_pos c4] at H
   have c4b0 : (a0 == 34) = true := beq_iff_eq.mpr c4; have c4b1 : (a0 != 34) = false := bne_eq_false_iff_eq.mpr c4; clear c4
   obtain rfl := Option.some.inj H
   go_enter Tryz.func146, Tryz.ntmps146
   go_wp2
   go_ret
   exact ⟨by first | rfl | (simp; done) | (simp [*]; done), by repeat (first | exact Drawn0.refl _ | apply Drawn0.step)⟩
 rw [if_neg c4] at H
 have c4b0 : (a0 == 34) = false := beq_eq_false_iff_ne.mpr c4
 have c4b1 : (a0 != 34) = true := bne_iff_ne.mpr c4
 by_cases c5 : a0 = 92
 · rw [if_pos c5] at H
   have c5b0 : (a0 == 92) = true := beq_iff_eq.mpr c5; have c5b1 : (a0 != 92) = false := bne_eq_false_iff_eq.mpr c5; clear c5
   obtain rfl := Option.some.inj H
   go_enter Tryz.func146, Tryz.ntmps146
   go_wp2
   go_ret
   exact ⟨by first | rfl | (simp; done) | (simp [*]; done), by repeat (first | exact Drawn0.refl _ | apply Drawn0.step)⟩
 rw [if_neg c5] at H
 have c5b0 : (a0 == 92) = false := beq_eq_false_iff_ne.mpr c5
 have c5b1 : (a0 != 92) = true := bne_iff_ne.mpr c5
 obtain rfl := Option.some.inj H
 go_enter Tryz.func146, Tryz.ntmps146
 go_wp2
 go_ret
 exact ⟨by first | rfl | (simp; done) | (simp [*]; done), by repeat (first | exact Drawn0.refl _ | apply Drawn0.step)⟩
end Go.Proofs.YtnphnhkinjppjaaGreatDoor.Q
end

section
set_option maxHeartbeats 8000000
set_option maxRecDepth 100000
namespace Go.Proofs.YtnphnhkinjppjaaGreatDoor.Q
open Go.RowKit Go.Proofs.YtnphnhkinjppjaaGreatDoorW.PrintWords Go.Proofs.YtnphnhkinjppjaaGreatDoorW.PrintLast Go.Proofs.YtnphnhkinjppjaaGreatDoorW.PrintMore
attribute [local go_sem] max2_int min2_int max_two min_two max_three min_three max_four min_four
mutual
def lexer_hex.j0 : Nat → Int → Bool → Option (Int)
  | 0, _, _ => none
  | k + 1, x0, x3 => if x3 = true then (some ((x0 - 48) % 256)) else (if x0 ≥ 97 then (lexer_hex.j1 k x0 (decide (x0 ≤ 102))) else (lexer_hex.j1 k x0 false))
def lexer_hex.j1 : Nat → Int → Bool → Option (Int)
  | 0, _, _ => none
  | k + 1, x0, x13 => if x13 = true then (some (((x0 - 97) % 256) + 10)) else (if x0 ≥ 65 then (if x0 ≤ 70 then (some (((x0 - 65) % 256) + 10)) else (some (-1))) else (some (-1)))
end
def lexer_hex.f (k : Nat) (a0 : Int) : Option (Int) := if a0 ≥ 48 then (lexer_hex.j0 k a0 (decide (a0 ≤ 57))) else (lexer_hex.j0 k a0 false)
theorem lexer_hex.mono_l : ∀ k, (∀ y0 y1, LeO (lexer_hex.j0 k y0 y1) (lexer_hex.j0 (k + 1) y0 y1)) ∧ (∀ y0 y1, LeO (lexer_hex.j1 k y0 y1) (lexer_hex.j1 (k + 1) y0 y1))
  | 0 => ⟨fun _ _ r h => by simp [lexer_hex.j0] at h, fun _ _ r h => by simp [lexer_hex.j1] at h⟩
  | k + 1 => by
    obtain ⟨ih0, ih1⟩ := lexer_hex.mono_l k
    refine ⟨?_, ?_⟩
    · intro y0 y1
      unfold lexer_hex.j0
      repeat' first
      | (with_reducible exact ih0 _ _)
      | (with_reducible exact ih1 _ _)
      | (with_reducible exact LeO.refl _)
      | (with_reducible exact LeO.none _)
      | (with_reducible refine LeO.ite ?_ ?_)
      | (with_reducible refine LeO.bind ?_ (fun _ => ?_))
    · intro y0 y1
      unfold lexer_hex.j1
      repeat' first
      | (with_reducible exact ih0 _ _)
      | (with_reducible exact ih1 _ _)
      | (with_reducible exact LeO.refl _)
      | (with_reducible exact LeO.none _)
      | (with_reducible refine LeO.ite ?_ ?_)
      | (with_reducible refine LeO.bind ?_ (fun _ => ?_))
theorem lexer_hex.mono : ∀ a0 k, LeO (lexer_hex.f k a0) (lexer_hex.f (k + 1) a0) := by
  intro a0 k
  obtain ⟨ih0, ih1⟩ := lexer_hex.mono_l k
  unfold lexer_hex.f
  repeat' first
      | (with_reducible exact ih0 _ _)
      | (with_reducible exact ih1 _ _)
      | (with_reducible exact LeO.refl _)
      | (with_reducible exact LeO.none _)
      | (with_reducible refine LeO.ite ?_ ?_)
      | (with_reducible refine LeO.bind ?_ (fun _ => ?_))
theorem lexer_hex.calls (k : Nat) (a0 : Int) (r : Int) (w : World) (h : lexer_hex.f k a0 = some r) :
 Calls Tryz.prog 160 #[.int .u8 a0] w fun e w' => e = .returned (.int .i64 r) ∧ Drawn0 w w' := by
 unfold lexer_hex.f at h; have H := h
 clear h; have HC2 := Aside0.mk H; clear H
 go_enter Tryz.func160, Tryz.ntmps160
 go_upto_region 1 with (fail)
 go_cut [3] (fun v3 wc => ∃ (kq : Nat) (x3_1 : Bool), v3 = .bool x3_1 ∧ Aside0 (lexer_hex.j0 kq a0 x3_1 = some r) ∧ Aside0 (kq ≤ k) ∧ Drawn0 w wc)
 case first =>
  have H := HC2.out
  clear HC2
  by_cases c3 : a0 ≥ 48
  · rw [if_pos c3] at H
    have c3b0 : decide (48 ≤ a0) = true := decide_eq_true c3; clear c3
    (first | rw [c3b0] | (simp only [i64_w, i32_w]; rw [c3b0]) | skip)
    have H' := Aside0.mk H
    clear H
    go_wp2
    go_meet
    case rel => exact ⟨_, (decide (a0 ≤ 57)), zI, H', ⟨by first | omega | exact Nat.le_refl _⟩, by repeat (first | exact Drawn0.refl _ | apply Drawn0.step)⟩
  rw [if_neg c3] at H
  have c3b0 : decide (48 ≤ a0) = false := decide_eq_false c3; clear c3
  (first | rw [c3b0] | (simp only [i64_w, i32_w]; rw [c3b0]) | skip)
  have H' := Aside0.mk H
  clear H
  go_wp2
  go_meet
  case rel => exact ⟨_, (false), zI, H', ⟨by first | omega | exact Nat.le_refl _⟩, by repeat (first | exact Drawn0.refl _ | apply Drawn0.step)⟩
 case rest =>
  clear HC2
  obtain ⟨kq, x3_1, rfl, HA, HJ1, ⟨mc1, rfl⟩⟩ := hcut
  rcases kq with _ | kj1
  · exact absurd HA.out (by simp [lexer_hex.j0])
  have H := HA.out
  clear HA
  simp only [lexer_hex.j0] at H
  by_cases c4 : x3_1 = true
  · subst c4
    rw [if_pos rfl] at H
    obtain rfl := Option.some.inj H
    go_wp2
    go_ret
    exact ⟨by first | rfl | (simp; done) | (simp [*]; done), by repeat (first | exact Drawn0.refl _ | apply Drawn0.step)⟩
  replace c4 := Bool.eq_false_iff.mpr c4
  subst c4; rw [if_neg zF] at H; have HC5 := Aside0.mk H; clear H
  go_upto_region 3 with (fail)
  go_cut [13] (fun v13 wc => ∃ (kq : Nat) (x13_4 : Bool), v13 = .bool x13_4 ∧ Aside0 (lexer_hex.j1 kq a0 x13_4 = some r) ∧ Aside0 (kq ≤ kj1) ∧ Drawn0 w wc)
  case first =>
   have H := HC5.out
   clear HC5
   by_cases c6 : a0 ≥ 97
   · rw [if_pos c6] at H
     have c6b0 : decide (97 ≤ a0) = true := decide_eq_true c6; clear c6
     (first | rw [c6b0] | (simp only [i64_w, i32_w]; rw [c6b0]) | skip)
     have H' := Aside0.mk H
     clear H
     go_wp2
     go_meet
     case rel => exact ⟨_, (decide (a0 ≤ 102)), zI, H', ⟨by have := HJ1.out; first | omega | exact Nat.le_refl _⟩, by repeat (first | exact Drawn0.refl _ | apply Drawn0.step)⟩
   rw [if_neg c6] at H
   have c6b0 : decide (97 ≤ a0) = false := decide_eq_false c6; clear c6
   (first | rw [c6b0] | (simp only [i64_w, i32_w]; rw [c6b0]) | skip)
   have H' := Aside0.mk H
   clear H
   go_wp2
   go_meet
   case rel => exact ⟨_, (false), zI, H', ⟨by have := HJ1.out; first | omega | exact Nat.le_refl _⟩, by repeat (first | exact Drawn0.refl _ | apply Drawn0.step)⟩
  case rest =>
   clear HC5
   try clear c4
   obtain ⟨kq, x13_4, rfl, HA, HJ4, ⟨mc4, rfl⟩⟩ := hcut
   rcases kq with _ | kj4
   · exact absurd HA.out (by simp [lexer_hex.j1])
   have H := HA.out
   clear HA
   simp only [lexer_hex.j1] at H
   by_cases c7 : x13_4 = true
   · subst c7
     rw [if_pos rfl] at H
     obtain rfl := Option.some.inj H
     go_wp2
     go_ret
     exact ⟨by first | rfl | (simp; done) | (simp [*]; done), by repeat (first | exact Drawn0.refl _ | apply Drawn0.step)⟩
   replace c7 := Bool.eq_false_iff.mpr c7
   subst c7; rw [if_neg zF] at H
   by_cases c8 : a0 ≥ 65
   · rw [if_pos c8] at H
     have c8b0 : decide (65 ≤ a0) = true := decide_eq_true c8; clear c8
     by_cases c9 : a0 ≤ 70
     · rw [if_pos c9] at H
       have c9b0 : decide (a0 ≤ 70) = true := decide_eq_true c9; clear c9
       obtain rfl := Option.some.inj H
       go_wp2
       go_ret
       exact ⟨by first | rfl | (simp; done) | (simp [*]; done), by repeat (first | exact Drawn0.refl _ | apply Drawn0.step)⟩
     rw [if_neg c9] at H
     have c9b0 : decide (a0 ≤ 70) = false := decide_eq_false c9; clear c9
     obtain rfl := Option.some.inj H
     go_wp2
     go_ret
     exact ⟨by first | rfl | (simp; done) | (simp [*]; done), by repeat (first | exact Drawn0.refl _ | apply Drawn0.step)⟩
   rw [if_neg c8] at H
   have c8b0 : decide (65 ≤ a0) = false := decide_eq_false c8; clear c8
   obtain rfl := Option.some.inj H
   go_wp2
   go_ret
   exact ⟨by first | rfl | (simp; done) | (simp [*]; done), by repeat (first | exact Drawn0.refl _ | apply Drawn0.step)⟩
end Go.Proofs.YtnphnhkinjppjaaGreatDoor.Q
end

section
set_option maxHeartbeats 8000000
set_option maxRecDepth 100000
namespace Go.Proofs.YtnphnhkinjppjaaGreatDoor.Q
open Go.RowKit Go.Proofs.YtnphnhkinjppjaaGreatDoorW.PrintWords Go.Proofs.YtnphnhkinjppjaaGreatDoorW.PrintLast Go.Proofs.YtnphnhkinjppjaaGreatDoorW.PrintMore
attribute [local go_sem] max2_int min2_int max_two min_two max_three min_three max_four min_four
mutual
def lexer_group.l0 : Nat → ByteArray → Int → List Int → Option (ByteArray × Int × Bool)
  | 0, _, _, _ => none
  | k + 1, x0, x1, x7 => lexer_group.l1 k x0 x1 x7 0
def lexer_group.l1 : Nat → ByteArray → Int → List Int → Int → Option (ByteArray × Int × Bool)
  | 0, _, _, _, _ => none
  | k + 1, x0, x1, x7, x9 => if x9 < 2 then (if (wrap64 (x1 + x9)) ≥ (x0.size : Int) then (some ((⟨#[]⟩ : ByteArray), mn (wrap64 (x1 + x9)) (x0.size : Int), false)) else (if 0 ≤ (wrap64 (x1 + x9)) then (if (wrap64 (x1 + x9)) < (x0.size : Int) then ((lexer_hex.f k (bt x0 (wrap64 (x1 + x9)))).bind fun t154 => (if t154 < 0 then (some ((⟨#[]⟩ : ByteArray), mn (wrap64 (x1 + x9)) (x0.size : Int), false)) else (lexer_group.l1 k x0 x1 x7 (wrap64 (x9 + 1))))) else (none)) else (none))) else (if 0 ≤ x1 then (if x1 < (x0.size : Int) then ((lexer_hex.f k (bt x0 x1)).bind fun t155 => (if 0 ≤ (wrap64 (x1 + 1)) then (if (wrap64 (x1 + 1)) < (x0.size : Int) then ((lexer_hex.f k (bt x0 (wrap64 (x1 + 1)))).bind fun t156 => (if x7.length < 140737488355328 then ((some (x7 ++ [(Go.bits .or .i64 (wrap64 (t155 * 16)) t156) % 256] : List Int)).bind fun y157 => (if (wrap64 (x1 + 2)) < (x0.size : Int) then (if 0 ≤ (wrap64 (x1 + 2)) then (lexer_group.j2 k x0 (wrap64 (x1 + 2)) y157 ((bt x0 (wrap64 (x1 + 2))) == 124)) else (none)) else (lexer_group.j2 k x0 (wrap64 (x1 + 2)) y157 false))) else (none))) else (none)) else (none))) else (none)) else (none))
def lexer_group.j2 : Nat → ByteArray → Int → List Int → Bool → Option (ByteArray × Int × Bool)
  | 0, _, _, _, _ => none
  | k + 1, x0, x1, x7, x51 => if x51 = true then (some (strOfNums x7, wrap64 (x1 + 1), true)) else (if x1 ≥ (x0.size : Int) then (some ((⟨#[]⟩ : ByteArray), x1, false)) else (if 0 ≤ x1 then (if x1 < (x0.size : Int) then (if (bt x0 x1) = 32 then (lexer_group.l0 k x0 (wrap64 (x1 + 1)) x7) else (some ((⟨#[]⟩ : ByteArray), x1, false))) else (none)) else (none)))
end
def lexer_group.f (k : Nat) (a0 : ByteArray) (a1 : Int) : Option (ByteArray × Int × Bool) := lexer_group.l0 k a0 a1 ([] : List Int)
theorem lexer_group.mono_l : ∀ k, (∀ y0 y1 y2, LeO (lexer_group.l0 k y0 y1 y2) (lexer_group.l0 (k + 1) y0 y1 y2)) ∧ (∀ y0 y1 y2 y3, LeO (lexer_group.l1 k y0 y1 y2 y3) (lexer_group.l1 (k + 1) y0 y1 y2 y3)) ∧ (∀ y0 y1 y2 y3, LeO (lexer_group.j2 k y0 y1 y2 y3) (lexer_group.j2 (k + 1) y0 y1 y2 y3))
  | 0 => ⟨fun _ _ _ r h => by simp [lexer_group.l0] at h, fun _ _ _ _ r h => by simp [lexer_group.l1] at h, fun _ _ _ _ r h => by simp [lexer_group.j2] at h⟩
  | k + 1 => by
    obtain ⟨ih0, ih1, ih2⟩ := lexer_group.mono_l k
    refine ⟨?_, ?_, ?_⟩
    · intro y0 y1 y2
      unfold lexer_group.l0
      repeat' first
      | (with_reducible exact ih0 _ _ _)
      | (with_reducible exact ih1 _ _ _ _)
      | (with_reducible exact ih2 _ _ _ _)
      | (with_reducible exact lexer_hex.mono _ _)
      | (with_reducible exact LeO.refl _)
      | (with_reducible exact LeO.none _)
      | (with_reducible refine LeO.ite ?_ ?_)
      | (with_reducible refine LeO.bind ?_ (fun _ => ?_))
    · intro y0 y1 y2 y3
      unfold lexer_group.l1
      repeat' first
      | (with_reducible exact ih0 _ _ _)
      | (with_reducible exact ih1 _ _ _ _)
      | (with_reducible exact ih2 _ _ _ _)
      | (with_reducible exact lexer_hex.mono _ _)
      | (with_reducible exact LeO.refl _)
      | (with_reducible exact LeO.none _)
      | (with_reducible refine LeO.ite ?_ ?_)
      | (with_reducible refine LeO.bind ?_ (fun _ => ?_))
    · intro y0 y1 y2 y3
      unfold lexer_group.j2
      repeat' first
      | (with_reducible exact ih0 _ _ _)
      | (with_reducible exact ih1 _ _ _ _)
      | (with_reducible exact ih2 _ _ _ _)
      | (with_reducible exact lexer_hex.mono _ _)
      | (with_reducible exact LeO.refl _)
      | (with_reducible exact LeO.none _)
      | (with_reducible refine LeO.ite ?_ ?_)
      | (with_reducible refine LeO.bind ?_ (fun _ => ?_))
theorem lexer_group.mono : ∀ a0 a1 k, LeO (lexer_group.f k a0 a1) (lexer_group.f (k + 1) a0 a1) := by
  intro a0 a1 k
  obtain ⟨ih0, ih1, ih2⟩ := lexer_group.mono_l k
  unfold lexer_group.f
  repeat' first
      | (with_reducible exact ih0 _ _ _)
      | (with_reducible exact ih1 _ _ _ _)
      | (with_reducible exact ih2 _ _ _ _)
      | (with_reducible exact lexer_hex.mono _ _)
      | (with_reducible exact LeO.refl _)
      | (with_reducible exact LeO.none _)
      | (with_reducible refine LeO.ite ?_ ?_)
      | (with_reducible refine LeO.bind ?_ (fun _ => ?_))
def lexer_group.T8 : Bool × List (List Nat × List Nat) := (true, [([], []), ([], []), ([], []), ([1, 2], [1, 2]), ([3], [3]), ([4], [4]), ([], []), ([], []), ([7], [7]), ([6, 8], [6, 8]), ([9, 4], [9]), ([5, 10], [5, 10]), ([11], [11]), ([12], [12]), ([0, 13, 10], [0, 13]), ([14, 14, 0, 1, 2, 3, 4, 5, 6, 7, 8, 9, 10, 11, 12, 13, 14], [0, 14])])
def lexer_group.B8 : List Nat := [0, 0, 0, 6, 14, 30, 0, 0, 128, 448, 990, 2046, 4094, 8190, 16383, 32767]
theorem lexer_group.tab8 : rtab .any (opsOf Tryz.f148 8) = lexer_group.T8 := by kernel_rfl
theorem lexer_group.bits8 : waitsOk lexer_group.T8.2 lexer_group.B8 = true := by kernel_rfl
theorem lexer_group.calls (k : Nat) (a0 : ByteArray) (a1 : Int) (r1 : ByteArray) (r2 : Int) (r3 : Bool) (w : World) (h : lexer_group.f k a0 a1 = some (r1, r2, r3)) :
 Calls Tryz.prog 148 #[.string a0, .int .i64 a1] w fun e w' => e = .returned (.tuple #[.string r1, .int .i64 r2, .bool r3]) ∧ Below w.heap.size w w' := by
 have HB := Aside0.mk (Below.refl w.heap.size w)
 unfold lexer_group.f at h; have H := h
 clear h
 have H' := Aside0.mk H
 clear H
 go_enter Tryz.func148, Tryz.ntmps148
 go_wp2
 go_loopg [1, 7] k (fun kq v1 v7 w' => ∃ (x1_1 : Int) (x7_1 : List Int), v1 = .int .i64 x1_1 ∧ Aside0 (lexer_group.l0 kq a0 x1_1 x7_1 = some (r1, r2, r3)) ∧ Aside0 (kq ≤ k) ∧ Aside0 (Kd.R (Kd.int .u8) 5 w' w.heap.size (fun _ => True) v7 x7_1) ∧ Aside0 (Below w.heap.size w w'))
 case atStart => exact ⟨(a1), (([] : List Int)), zI, H', ⟨Nat.le_refl _⟩, ⟨by first | exact Kd.R_nil _ _ _ _ _ | exact Kd.N_nil _ _ _ _ _ | exact Kd.V_nil _ _ _ _ _ | exact Kd.Q_nil _ _ _ _ _ | exact Kd.S_nil _ _ _ _ _⟩, ⟨zB HB⟩⟩
 case round =>
  clear H'
  obtain ⟨x1_1, x7_1, rfl, HA, HK1, HO_7, HB⟩ := hrel
  rcases gk with _ | k1
  · exact absurd HA.out (by simp [lexer_group.l0])
  have H := HA.out
  clear HA
  simp only [lexer_group.l0] at H
  have H' := Aside0.mk H
  clear H
  go_wp2
  go_loopg [9] k1 (fun kq v9 w' => ∃ (x9_2 : Int), v9 = .int .i64 x9_2 ∧ Aside0 (lexer_group.l1 kq a0 x1_1 x7_1 x9_2 = some (r1, r2, r3)) ∧ Aside0 (kq ≤ k1) ∧ Aside0 (Kd.R (Kd.int .u8) 5 w' w.heap.size (fun _ => True) u7 x7_1) ∧ Aside0 (Below w.heap.size w w'))
  case atStart => exact ⟨(0), zI, H', ⟨Nat.le_refl _⟩, ⟨zR HO_7⟩, ⟨zB HB⟩⟩
  case round =>
   clear H'
   obtain ⟨x9_2, rfl, HA, HK2, HO_7, HB⟩ := hrel
   rcases gk with _ | k2
   · exact absurd HA.out (by simp [lexer_group.l1])
   have H := HA.out
   clear HA
   simp only [lexer_group.l1] at H
   by_cases c3 : x9_2 < 2
   · rw [if_pos c3] at H
     have c3b0 : decide (x9_2 < 2) = true := decide_eq_true c3; clear c3
     by_cases c4 : (wrap64 (x1_1 + x9_2)) ≥ (a0.size : Int)
     · rw [if_pos c4] at H
       have c4b0 : decide ((a0.size : Int) ≤ (wrap64 (x1_1 + x9_2))) = true := decide_eq_true c4; clear c4
       obtain ⟨ji5, hji5⟩ : ∃ j_ : Int, (mn (wrap64 (x1_1 + x9_2)) (a0.size : Int)) = j_ := ⟨_, rfl⟩
       replace H : (some ((⟨#[]⟩ : ByteArray), ji5, false)) = some (r1, r2, r3) := by first | (rw [hji5] at H; exact H) | (simp only [hji5] at H ⊢; exact H)
       have hji5_ : (if (a0.size : Int) < (wrap64 (x1_1 + x9_2)) then (a0.size : Int) else (wrap64 (x1_1 + x9_2))) = ji5 := hji5
       simp only [Option.some.injEq, Prod.mk.injEq] at H
       obtain ⟨rfl, rfl, rfl⟩ := H
       go_wp2
       go_ret3
       exact ⟨by first | rfl | (simp [errW_none, errW_some] <;> rfl) | (simp only [← hji5]; first | rfl | (simp [errW_none, errW_some] <;> rfl)) | (simp [*, errW_none, errW_some] <;> rfl), by repeat (first | (with_reducible first | exact HB.out | apply below_alloc | apply pw_below_drewN | apply below_drew1) | exact HB.out)⟩
     rw [if_neg c4] at H
     have c4b0 : decide ((a0.size : Int) ≤ (wrap64 (x1_1 + x9_2))) = false := decide_eq_false c4; clear c4
     obtain ⟨ji6, hji6⟩ : ∃ j_ : Int, (wrap64 (x1_1 + x9_2)) = j_ := ⟨_, rfl⟩
     replace H : (if 0 ≤ (ji6) then (if (ji6) < (a0.size : Int) then ((lexer_hex.f k2 (bt a0 (ji6))).bind fun t154 => (if t154 < 0 then (some ((⟨#[]⟩ : ByteArray), mn (ji6) (a0.size : Int), false)) else (lexer_group.l1 k2 a0 x1_1 x7_1 (wrap64 (x9_2 + 1))))) else (none)) else (none)) = some (r1, r2, r3) := by first | (rw [hji6] at H; exact H) | (simp only [hji6] at H ⊢; exact H)
     (try rw [hji6] at c4b0)
     have hji6w : (IntKind.i64.wrap (x1_1 + x9_2)) = ji6 := (i64_w _).trans hji6
     by_cases c7 : 0 ≤ (ji6)
     rotate_left
     · rw [if_neg c7] at H
       exact absurd H (by simp)
     rw [if_pos c7] at H
     have c7b0 : decide (0 ≤ (ji6)) = true := decide_eq_true c7; clear c7
     by_cases c8 : (ji6) < (a0.size : Int)
     rotate_left
     · rw [if_neg c8] at H
       exact absurd H (by simp)
     rw [if_pos c8] at H
     have c8b0 : decide ((ji6) < (a0.size : Int)) = true := decide_eq_true c8; clear c8
     replace H := Option.bind_eq_some_iff.mp H
     obtain ⟨t154, A100, H⟩ := H
     replace H : (if t154 < 0 then (some ((⟨#[]⟩ : ByteArray), mn (ji6) (a0.size : Int), false)) else (lexer_group.l1 k2 a0 x1_1 x7_1 (wrap64 (x9_2 + 1)))) = some (r1, r2, r3) := H
     have A10 := Aside0.mk A100; clear A100
     by_cases c11 : t154 < 0
     · rw [if_pos c11] at H
       have c11b0 : decide (t154 < 0) = true := decide_eq_true c11; clear c11
       obtain ⟨ji12, hji12⟩ : ∃ j_ : Int, (mn (ji6) (a0.size : Int)) = j_ := ⟨_, rfl⟩
       replace H : (some ((⟨#[]⟩ : ByteArray), ji12, false)) = some (r1, r2, r3) := by first | (rw [hji12] at H; exact H) | (simp only [hji12] at H ⊢; exact H)
       (try rw [hji12] at A10)
       have hji12_ : (if (a0.size : Int) < (ji6) then (a0.size : Int) else (ji6)) = ji12 := hji12
       simp only [Option.some.injEq, Prod.mk.injEq] at H
       obtain ⟨rfl, rfl, rfl⟩ := H
       have p9 : 0 ≤ ((ji6) : Int) := za
       have q9 : (ji6) < (a0.size : Int) := za
       have hx9 := bt_at a0 (ji6)
       replace p9 := eq_true p9
       replace q9 := eq_true q9
       go_wp2_with (first | (go_at_call 160; (with_reducible refine (lexer_hex.calls k2 (bt a0 (ji6)) t154 _ A10.out).mono ?_); rintro e w' ⟨rfl, ⟨nd, rfl⟩⟩))
       go_ret3
       exact ⟨by first | rfl | (simp [errW_none, errW_some] <;> rfl) | (simp only [← hji6, ← hji12]; first | rfl | (simp [errW_none, errW_some] <;> rfl)) | (simp [*, errW_none, errW_some] <;> rfl), by repeat (first | (with_reducible first | exact HB.out | apply below_alloc | apply pw_below_drewN | apply below_drew1) | exact HB.out)⟩
     rw [if_neg c11] at H
     have c11b0 : decide (t154 < 0) = false := decide_eq_false c11; clear c11
     have H' := Aside0.mk H
     clear H
     have p9 : 0 ≤ ((ji6) : Int) := za
     have q9 : (ji6) < (a0.size : Int) := za
     have hx9 := bt_at a0 (ji6)
     replace p9 := eq_true p9
     replace q9 := eq_true q9
     go_wp2_with (first | (go_at_call 160; (with_reducible refine (lexer_hex.calls k2 (bt a0 (ji6)) t154 _ A10.out).mono ?_); rintro e w' ⟨rfl, ⟨nd, rfl⟩⟩))
     go_roundg k2
     case measure => have := HK1.out; have := HK2.out; omega
     case rel => exact ⟨(wrap64 (x9_2 + 1)), zI, H', ⟨by have := HK1.out; have := HK2.out; omega⟩, ⟨zR HO_7⟩, ⟨zB HB⟩⟩
   rw [if_neg c3] at H
   have c3b0 : decide (x9_2 < 2) = false := decide_eq_false c3; clear c3
   by_cases c13 : 0 ≤ x1_1
   rotate_left
   · rw [if_neg c13] at H
     exact absurd H (by simp)
   rw [if_pos c13] at H
   have c13b0 : decide (0 ≤ x1_1) = true := decide_eq_true c13; clear c13
   by_cases c14 : x1_1 < (a0.size : Int)
   rotate_left
   · rw [if_neg c14] at H
     exact absurd H (by simp)
   rw [if_pos c14] at H
   have c14b0 : decide (x1_1 < (a0.size : Int)) = true := decide_eq_true c14; clear c14
   replace H := Option.bind_eq_some_iff.mp H
   obtain ⟨t155, A160, H⟩ := H
   replace H : (if 0 ≤ (wrap64 (x1_1 + 1)) then (if (wrap64 (x1_1 + 1)) < (a0.size : Int) then ((lexer_hex.f k2 (bt a0 (wrap64 (x1_1 + 1)))).bind fun t156 => (if x7_1.length < 140737488355328 then ((some (x7_1 ++ [(Go.bits .or .i64 (wrap64 (t155 * 16)) t156) % 256] : List Int)).bind fun y157 => (if (wrap64 (x1_1 + 2)) < (a0.size : Int) then (if 0 ≤ (wrap64 (x1_1 + 2)) then (lexer_group.j2 k2 a0 (wrap64 (x1_1 + 2)) y157 ((bt a0 (wrap64 (x1_1 + 2))) == 124)) else (none)) else (lexer_group.j2 k2 a0 (wrap64 (x1_1 + 2)) y157 false))) else (none))) else (none)) else (none)) = some (r1, r2, r3) := H
   have A16 := Aside0.mk A160; clear A160
   obtain ⟨ji17, hji17⟩ : ∃ j_ : Int, (wrap64 (x1_1 + 1)) = j_ := ⟨_, rfl⟩
   replace H : (if 0 ≤ (ji17) then (if (ji17) < (a0.size : Int) then ((lexer_hex.f k2 (bt a0 (ji17))).bind fun t156 => (if x7_1.length < 140737488355328 then ((some (x7_1 ++ [(Go.bits .or .i64 (wrap64 (t155 * 16)) t156) % 256] : List Int)).bind fun y157 => (if (wrap64 (x1_1 + 2)) < (a0.size : Int) then (if 0 ≤ (wrap64 (x1_1 + 2)) then (lexer_group.j2 k2 a0 (wrap64 (x1_1 + 2)) y157 ((bt a0 (wrap64 (x1_1 + 2))) == 124)) else (none)) else (lexer_group.j2 k2 a0 (wrap64 (x1_1 + 2)) y157 false))) else (none))) else (none)) else (none)) = some (r1, r2, r3) := by first | (rw [hji17] at H; exact H) | (simp only [hji17] at H ⊢; exact H)
   (try rw [hji17] at A16)
   have hji17w : (IntKind.i64.wrap (x1_1 + 1)) = ji17 := (i64_w _).trans hji17
   by_cases c18 : 0 ≤ (ji17)
   rotate_left
   · rw [if_neg c18] at H
     exact absurd H (by simp)
   rw [if_pos c18] at H
   have c18b0 : decide (0 ≤ (ji17)) = true := decide_eq_true c18; clear c18
   by_cases c19 : (ji17) < (a0.size : Int)
   rotate_left
   · rw [if_neg c19] at H
     exact absurd H (by simp)
   rw [if_pos c19] at H
   have c19b0 : decide ((ji17) < (a0.size : Int)) = true := decide_eq_true c19; clear c19
   replace H := Option.bind_eq_some_iff.mp H
   obtain ⟨t156, A210, H⟩ := H
   replace H : (if x7_1.length < 140737488355328 then ((some (x7_1 ++ [(Go.bits .or .i64 (wrap64 (t155 * 16)) t156) % 256] : List Int)).bind fun y157 => (if (wrap64 (x1_1 + 2)) < (a0.size : Int) then (if 0 ≤ (wrap64 (x1_1 + 2)) then (lexer_group.j2 k2 a0 (wrap64 (x1_1 + 2)) y157 ((bt a0 (wrap64 (x1_1 + 2))) == 124)) else (none)) else (lexer_group.j2 k2 a0 (wrap64 (x1_1 + 2)) y157 false))) else (none)) = some (r1, r2, r3) := H
   have A21 := Aside0.mk A210; clear A210
   by_cases c22 : x7_1.length < 140737488355328
   rotate_left
   · rw [if_neg c22] at H
     exact absurd H (by simp)
   rw [if_pos c22] at H; have LMc22 := Aside0.mk c22; clear c22
   obtain ⟨y157, hy157⟩ : ∃ y_ : List Int, y_ = (x7_1 ++ [(Go.bits .or .i64 (wrap64 (t155 * 16)) t156) % 256]) := ⟨_, rfl⟩
   rw [← hy157] at H; try dsimp only [Option.bind_some] at H
   have Ny157 := Aside0.mk hy157; clear hy157; have HC23 := Aside0.mk H; clear H
   try go_wp2
   replace HO_7 := Aside0.mk (Kd.R_drew HO_7.out); replace HB := Aside0.mk (below_drew1 HB.out)
   have p15 : 0 ≤ (x1_1 : Int) := za
   have q15 : x1_1 < (a0.size : Int) := za
   have hx15 := bt_at a0 x1_1
   replace p15 := eq_true p15
   replace q15 := eq_true q15
   have p20 : 0 ≤ ((ji17) : Int) := za
   have q20 : (ji17) < (a0.size : Int) := za
   have hx20 := bt_at a0 (ji17)
   replace p20 := eq_true p20
   replace q20 := eq_true q20
   refine start_ (n := 16) (S := fun w' => True) (ds := []) #[false, false, false, false, false, false, false, false, false, false, false, false, false, false, false, false] (by kernel_rfl) rfl rfl trivial (fun hHeld => ?_); refine with_tabW lexer_group.tab8 lexer_group.bits8 (fun HT_ HW_ => ?_)
   generalize wr.drew = w24 at HO_7 HB hHeld ⊢
   refine zp 0 34 HT_ ?_; refine zp 1 35 HT_ ?_; refine zp 2 36 HT_ ?_; refine zp 6 40 HT_ ?_; refine zp 7 41 HT_ ?_; refine zp 8 42 HT_ ?_
   refine take_ (i := 3) (N := some 37) (v := ?_) (a' := ?_) #[true, true, true, true, false, false, true, true, true, false, false, false, false, false, false, false] rfl rfl (take_ofW HT_.out HW_.out (by kernel_rfl)) (fun _ _ _ h => h) (Or.inl ⟨by rfl, ?_⟩) hHeld ?_ ?_
   rotate_left
   · intro w' _
     go_simp
     with_reducible rfl
   rotate_left
   · simp only [Act.put, List.setIfInBounds_toArray, List.set_cons_zero, List.set_cons_succ, i64_w, i32_w]
     rfl
   refine take_ (i := 9) (N := some 43) (v := ?_) (a' := ?_) #[true, true, true, true, false, false, true, true, true, true, false, false, false, false, false, false] rfl rfl (take_ofW HT_.out HW_.out (by kernel_rfl)) (fun _ _ _ h => h) (Or.inl ⟨by rfl, ?_⟩) hHeld ?_ ?_
   rotate_left
   · intro w' _
     go_simp
     with_reducible rfl
   rotate_left
   · simp only [Act.put, List.setIfInBounds_toArray, List.set_cons_zero, List.set_cons_succ, i64_w, i32_w]
     rfl
   refine zo 4 38 HT_ (fun K hK => ?_)
   refine zg Tryz.func160 #[.int .u8 (bt a0 x1_1)] ?_
   with_reducible refine (lexer_hex.calls k2 (bt a0 x1_1) t155 _ A16.out).mono ?_
   rintro e w' ⟨rfl, ⟨nd, rfl⟩⟩
   refine ⟨_, rfl, ?_⟩
   refine hK.out _ _ trivial (fun hHeld => ?_)
   clear hK K
   refine zn 38 ?_; refine zp 5 39 HT_ ?_; refine zo 10 44 HT_ (fun K hK => ?_)
   refine goes_ Tryz.func160 (by kernel_rfl) rfl #[.int .u8 (bt a0 (ji17))] (by rfl) rfl rfl (by (try simp only [List.map_toArray, List.map_cons, List.map_nil]); first | done | (simp only [hji17]; rfl) | rfl | (simp only [List.length_drop, List.length_take]; rfl)) ?_
   with_reducible refine (lexer_hex.calls k2 (bt a0 (ji17)) t156 _ A21.out).mono ?_
   rintro e w' ⟨rfl, ⟨nd, rfl⟩⟩
   refine ⟨_, rfl, ?_⟩
   refine hK.out _ _ trivial (fun hHeld => ?_)
   clear hK K
   refine zn 44 ?_; refine zp 11 45 HT_ ?_; refine zp 12 46 HT_ ?_; refine zo 13 47 HT_ (fun K hK => ?_)
   refine value_ (w1 := ?_) (v := ?_) (by rfl) rfl ?_ ?_
   rotate_left 2
   · go_simp
     constructor
     · rfl
     rfl
   refine hK.out _ _ trivial (fun hHeld => ?_)
   clear hK K
   refine zn 47 ?_; refine zo 14 48 HT_ (fun K hK => ?_)
   refine Kd.R_append_step (Kd.int .u8) (w0 := w) w.heap.size (by rfl) (.tmp 34) (.tmp 47) 60 5 (.int .u8 0) 1 rfl Tryz.underlying60 info5 rfl (by decide) (by omega) u7 x7_1 ((Go.bits .or .i64 (wrap64 (t155 * 16)) t156) % 256) [.int .u8 ((Go.bits .or .i64 (wrap64 (t155 * 16)) t156) % 256)] (fun _ => True) (fun _ => False) rfl rfl ?aP (fun _ hk => hk.elim) ?aF ?aO ?aB ?aS ?aL ?_
   (case aP => exact rfl)
   (case aB => exact (zB HB))
   (case aF => exact (fun _ _ => trivial))
   (case aO => exact (zR HO_7))
   (case aS => exact (below_size (zB HB)))
   (case aL => have := LMc22.out; omega)
   intro v158 w25 ho hb hg hat
   rw [← Ny157.out] at ho
   replace HB := Aside0.mk (hb); have HO159 := Aside0.mk (ho); clear HO_7; clear ho hb hg hat
   refine hK.out _ _ trivial (fun hHeld => ?_)
   clear hK K
   refine zn 48 ?_; refine zp 15 7 HT_ ?_; refine zd HT_ ?_
   go_upto_region 10 with (fail)
   go_cut [51] (fun v51 wc => ∃ (kq : Nat) (x51_22 : Bool), v51 = .bool x51_22 ∧ Aside0 (lexer_group.j2 kq a0 (wrap64 (x1_1 + 2)) y157 x51_22 = some (r1, r2, r3)) ∧ Aside0 (kq ≤ k2) ∧ Aside0 (Kd.R (Kd.int .u8) 5 wc w.heap.size (fun _ => True) v158 y157) ∧ Aside0 (Below w.heap.size w wc))
   case first =>
    have H := HC23.out
    clear HC23
    by_cases c26 : (wrap64 (x1_1 + 2)) < (a0.size : Int)
    · rw [if_pos c26] at H
      have c26b0 : decide ((wrap64 (x1_1 + 2)) < (a0.size : Int)) = true := decide_eq_true c26; clear c26
      (first | rw [c26b0] | (simp only [i64_w, i32_w]; rw [c26b0]) | skip)
      obtain ⟨ji27, hji27⟩ : ∃ j_ : Int, (wrap64 (x1_1 + 2)) = j_ := ⟨_, rfl⟩
      replace H : (if 0 ≤ (ji27) then (lexer_group.j2 k2 a0 ji27 y157 ((bt a0 (ji27)) == 124)) else (none)) = some (r1, r2, r3) := by first | (rw [hji27] at H; exact H) | (simp only [hji27] at H ⊢; exact H)
      (try rw [hji27] at c26b0)
      have hji27w : (IntKind.i64.wrap (x1_1 + 2)) = ji27 := (i64_w _).trans hji27
      by_cases c28 : 0 ≤ (ji27)
      · rw [if_pos c28] at H
        have c28b0 : decide (0 ≤ (ji27)) = true := decide_eq_true c28; clear c28
        have H' := Aside0.mk H
        clear H
        have p29 : 0 ≤ ((ji27) : Int) := za
        have q29 : (ji27) < (a0.size : Int) := za
        have hx29 := bt_at a0 (ji27)
        replace p29 := eq_true p29
        replace q29 := eq_true q29
        go_wp2
        go_meet
        case rel => exact ⟨_, (((bt a0 (ji27)) == 124)), (by first | rfl | (simp; done) | (simp only [← hji27] <;> (first | rfl | simp)) | (simp [*]; done)), (by first | exact H' | (rw [hji27]; exact H') | (rw [← hji27]; exact H') | (simp only [hji27] at H' ⊢; exact H') | (simp only [← hji27] at H' ⊢; exact H')), ⟨by have := HK1.out; have := HK2.out; first | omega | exact Nat.le_refl _⟩, ⟨zR HO159⟩, ⟨zB HB⟩⟩
      rw [if_neg c28] at H
      exact absurd H (by simp)
    rw [if_neg c26] at H
    have c26b0 : decide ((wrap64 (x1_1 + 2)) < (a0.size : Int)) = false := decide_eq_false c26; clear c26
    (first | rw [c26b0] | (simp only [i64_w, i32_w]; rw [c26b0]) | skip)
    have H' := Aside0.mk H
    clear H
    go_wp2
    go_meet
    case rel => exact ⟨_, (false), zI, (by first | exact H' | (rw [hji17]; exact H') | (rw [← hji17]; exact H') | (simp only [hji17] at H' ⊢; exact H') | (simp only [← hji17] at H' ⊢; exact H')), ⟨by have := HK1.out; have := HK2.out; first | omega | exact Nat.le_refl _⟩, ⟨zR HO159⟩, ⟨zB HB⟩⟩
   case rest =>
    clear HC23
    (try clear c3); (try clear c3b0); (try clear c13); (try clear c13b0); (try clear c14); (try clear c14b0); (try clear p15); (try clear q15); (try clear hx15); (try clear c18); (try clear c18b0); (try clear c19); (try clear c19b0); (try clear p20); (try clear q20); (try clear hx20); (try clear c22)
    obtain ⟨kq, x51_22, rfl, HA, HJ22, HO_7, HB⟩ := hcut
    rcases kq with _ | kj22
    · exact absurd HA.out (by simp [lexer_group.j2])
    have H := HA.out
    clear HA
    simp only [lexer_group.j2] at H
    by_cases c30 : x51_22 = true
    · subst c30
      rw [if_pos rfl] at H
      simp only [Option.some.injEq, Prod.mk.injEq] at H
      obtain ⟨rfl, rfl, rfl⟩ := H
      have hcv31 := own_string (P := Tryz.prog) Tryz.underlying60 Tryz.underlying5 Tryz.underlying9 (Kd.own_of_R HO_7.out)
      go_wp2
      go_ret3
      exact ⟨by first | rfl | (simp [errW_none, errW_some] <;> rfl) | (simp only [← hji17]; first | rfl | (simp [errW_none, errW_some] <;> rfl)) | (simp [*, errW_none, errW_some] <;> rfl), by repeat (first | (with_reducible first | exact HB.out | apply below_alloc | apply pw_below_drewN | apply below_drew1) | exact HB.out)⟩
    replace c30 := Bool.eq_false_iff.mpr c30
    subst c30; rw [if_neg zF] at H
    by_cases c32 : (wrap64 (x1_1 + 2)) ≥ (a0.size : Int)
    · rw [if_pos c32] at H
      have c32b0 : decide ((a0.size : Int) ≤ (wrap64 (x1_1 + 2))) = true := decide_eq_true c32; clear c32
      simp only [Option.some.injEq, Prod.mk.injEq] at H
      obtain ⟨rfl, rfl, rfl⟩ := H
      go_wp2
      go_ret3
      exact ⟨by first | rfl | (simp [errW_none, errW_some] <;> rfl) | (simp only [← hji17]; first | rfl | (simp [errW_none, errW_some] <;> rfl)) | (simp [*, errW_none, errW_some] <;> rfl), by repeat (first | (with_reducible first | exact HB.out | apply below_alloc | apply pw_below_drewN | apply below_drew1) | exact HB.out)⟩
    rw [if_neg c32] at H
    have c32b0 : decide ((a0.size : Int) ≤ (wrap64 (x1_1 + 2))) = false := decide_eq_false c32; clear c32
    obtain ⟨ji33, hji33⟩ : ∃ j_ : Int, (wrap64 (x1_1 + 2)) = j_ := ⟨_, rfl⟩
    replace H : (if 0 ≤ (ji33) then (if (ji33) < (a0.size : Int) then (if (bt a0 (ji33)) = 32 then (lexer_group.l0 kj22 a0 (wrap64 ((ji33) + 1)) y157) else (some ((⟨#[]⟩ : ByteArray), (ji33), false))) else (none)) else (none)) = some (r1, r2, r3) := by first | (rw [hji33] at H; exact H) | (simp only [hji33] at H ⊢; exact H)
    (try rw [hji33] at c32b0)
    have hji33w : (IntKind.i64.wrap (x1_1 + 2)) = ji33 := (i64_w _).trans hji33
    by_cases c34 : 0 ≤ (ji33)
    rotate_left
    · rw [if_neg c34] at H
      exact absurd H (by simp)
    rw [if_pos c34] at H
    have c34b0 : decide (0 ≤ (ji33)) = true := decide_eq_true c34; clear c34
    by_cases c35 : (ji33) < (a0.size : Int)
    rotate_left
    · rw [if_neg c35] at H
      exact absurd H (by simp)
    rw [if_pos c35] at H
    have c35b0 : decide ((ji33) < (a0.size : Int)) = true := decide_eq_true c35; clear c35
    by_cases c37 : (bt a0 (ji33)) = 32
    · rw [if_pos c37] at H
      have c37b0 : ((bt a0 (ji33)) == 32) = true := beq_iff_eq.mpr c37; have c37b1 : ((bt a0 (ji33)) != 32) = false := bne_eq_false_iff_eq.mpr c37; clear c37
      have H' := Aside0.mk H
      clear H
      have p36 : 0 ≤ ((ji33) : Int) := za
      have q36 : (ji33) < (a0.size : Int) := za
      have hx36 := bt_at a0 (ji33)
      replace p36 := eq_true p36
      replace q36 := eq_true q36
      go_wp2
      go_roundg kj22
      case measure => have := HK1.out; have := HK2.out; have := HJ22.out; omega
      case rel => exact ⟨(wrap64 ((ji33) + 1)), (y157), (by first | rfl | (simp; done) | (simp only [← hji33] <;> (first | rfl | simp)) | (simp [*]; done)), (by first | exact H' | (rw [hji33]; exact H') | (rw [← hji33]; exact H') | (simp only [hji33] at H' ⊢; exact H') | (simp only [← hji33] at H' ⊢; exact H')), ⟨by have := HK1.out; have := HK2.out; have := HJ22.out; omega⟩, ⟨zR HO_7⟩, ⟨zB HB⟩⟩
    rw [if_neg c37] at H
    have c37b0 : ((bt a0 (ji33)) == 32) = false := beq_eq_false_iff_ne.mpr c37
    have c37b1 : ((bt a0 (ji33)) != 32) = true := bne_iff_ne.mpr c37
    simp only [Option.some.injEq, Prod.mk.injEq] at H
    obtain ⟨rfl, rfl, rfl⟩ := H
    have p36 : 0 ≤ ((ji33) : Int) := za
    have q36 : (ji33) < (a0.size : Int) := za
    have hx36 := bt_at a0 (ji33)
    replace p36 := eq_true p36
    replace q36 := eq_true q36
    go_wp2
    go_ret3
    exact ⟨by first | rfl | (simp [errW_none, errW_some] <;> rfl) | (simp only [← hji17, ← hji33]; first | rfl | (simp [errW_none, errW_some] <;> rfl)) | (simp [*, errW_none, errW_some] <;> rfl), by repeat (first | (with_reducible first | exact HB.out | apply below_alloc | apply pw_below_drewN | apply below_drew1) | exact HB.out)⟩
end Go.Proofs.YtnphnhkinjppjaaGreatDoor.Q
end

section
set_option maxHeartbeats 8000000
set_option maxRecDepth 100000
namespace Go.Proofs.YtnphnhkinjppjaaGreatDoor.Q
open Go.RowKit Go.Proofs.YtnphnhkinjppjaaGreatDoorW.PrintWords Go.Proofs.YtnphnhkinjppjaaGreatDoorW.PrintLast Go.Proofs.YtnphnhkinjppjaaGreatDoorW.PrintMore
def byt (x : Int) : UInt8 := UInt8.ofNat x.toNat
def plainB (x : Int) : Bool := decide (32 ≤ x) && decide (x ≤ 126) && !(x == 34) && !(x == 92) && !(x == 124)
theorem plain_eq (x : Int) : lexer_plain.f x = some (plainB x) := by
  unfold lexer_plain.f plainB
  by_cases h1 : x ≥ 32 <;> by_cases h2 : x ≤ 126 <;> by_cases h3 : x = 34 <;> by_cases h4 : x = 92 <;> by_cases h5 : x = 124 <;> first | (exfalso; omega) | (simp [h1, h2, h3, h4, h5]; done) | (simp [h1, h2, h3, h4, h5]; omega) | (subst h3; decide) | (subst h4; decide) | (subst h5; decide) | (have e3 := beq_eq_false_iff_ne.mpr h3; have e4 := beq_eq_false_iff_ne.mpr h4; have e5 := beq_eq_false_iff_ne.mpr h5; have h1' : 32 ≤ x := h1; simp only [h1, h1', h2, h3, h4, if_true, if_false, e3, e4, e5, bne, decide_true, Bool.not_false, Bool.and_true])
def lexer_text.l0 : Nat → ByteArray → Int → List UInt8 → Option (ByteArray × Int × Bool)
  | 0, _, _, _ => none
  | k + 1, s, x, out =>
    if x < (s.size : Int) then
      if bt s x = 34 then some (⟨out.toArray⟩, x + 1, true)
      else if plainB (bt s x) = true then (if out.length < 1000000 then lexer_text.l0 k s (x + 1) (out ++ [byt (bt s x)]) else none)
      else if bt s x = 92 then
        if x + 1 < (s.size : Int) then
          if (plainB (bt s (x + 1)) || decide (bt s (x + 1) < 32) || decide (bt s (x + 1) > 126)) = true then some (⟨#[]⟩, x + 1, false)
          else (if out.length < 1000000 then lexer_text.l0 k s (x + 2) (out ++ [byt (bt s (x + 1))]) else none)
        else some (⟨#[]⟩, x + 1, false)
      else if bt s x = 124 then
        (lexer_group.f k s (x + 1)).bind fun t => if t.2.2 = true then (if out.length + t.1.size ≤ 1000000 then (if 0 ≤ t.2.1 then lexer_text.l0 k s t.2.1 (out ++ t.1.data.toList) else none) else none) else some (⟨#[]⟩, t.2.1, false)
      else some (⟨#[]⟩, x, false)
    else some (⟨#[]⟩, x, false)
def lexer_text.f (k : Nat) (a0 : ByteArray) (a1 : Int) : Option (ByteArray × Int × Bool) := if 0 ≤ a1 then (if a0.size ≤ 1000000 then lexer_text.l0 k a0 a1 [] else none) else none
theorem lexer_text.mono_l : ∀ (k : Nat) (s : ByteArray) (x : Int) (out : List UInt8), LeO (lexer_text.l0 k s x out) (lexer_text.l0 (k + 1) s x out) := by
  intro k
  induction k with
  | zero => intro s x out; exact LeO.none _
  | succ k ih =>
    intro s x out
    rw [lexer_text.l0, lexer_text.l0]
    refine LeO.ite (LeO.ite (LeO.refl _) (LeO.ite (LeO.ite (ih _ _ _) (LeO.refl _)) (LeO.ite (LeO.ite (LeO.ite (LeO.refl _) (LeO.ite (ih _ _ _) (LeO.refl _))) (LeO.refl _)) (LeO.ite (LeO.bind (lexer_group.mono _ _ _) fun t => ?_) (LeO.refl _))))) (LeO.refl _)
    exact LeO.ite (LeO.ite (LeO.ite (ih _ _ _) (LeO.refl _)) (LeO.refl _)) (LeO.refl _)
theorem lexer_text.mono : ∀ a0 a1 k, LeO (lexer_text.f k a0 a1) (lexer_text.f (k + 1) a0 a1) := fun a0 a1 k => LeO.ite (LeO.ite (lexer_text.mono_l _ _ _ _) (LeO.refl _)) (LeO.refl _)
structure TextI (s : ByteArray) (gg : Nat) (x : Int) (out : List UInt8) (r : ByteArray × Int × Bool) : Prop where
  val : lexer_text.l0 gg s x out = some r
  pos : 0 ≤ x
  sz : s.size ≤ 1000000
section
variable {s : ByteArray} {gg : Nat} {x : Int} {out : List UInt8} {r : ByteArray × Int × Bool}
theorem TextI.suc (h : TextI s gg x out r) : ∃ g, gg = g + 1 := by
  cases gg with
  | zero => have := h.val; simp [lexer_text.l0] at this
  | succ g => exact ⟨g, rfl⟩
theorem TextI.fin (h : TextI s gg x out r) (hx : ¬ x < (s.size : Int)) : r = (⟨#[]⟩, x, false) := by
  obtain ⟨g, rfl⟩ := h.suc
  have := h.val
  rw [lexer_text.l0, if_neg hx] at this
  exact (Option.some.inj this).symm
theorem TextI.quote (h : TextI s gg x out r) (hx : x < (s.size : Int)) (h1 : bt s x = 34) : r = (⟨out.toArray⟩, x + 1, true) := by
  obtain ⟨g, rfl⟩ := h.suc
  have := h.val
  rw [lexer_text.l0, if_pos hx, if_pos h1] at this
  exact (Option.some.inj this).symm
theorem TextI.plain (h : TextI s gg x out r) (hx : x < (s.size : Int)) (h1 : ¬ bt s x = 34) (h2 : plainB (bt s x) = true) : ∃ g, gg = g + 1 ∧ out.length < 1000000 ∧ TextI s g (x + 1) (out ++ [byt (bt s x)]) r := by
  obtain ⟨g, rfl⟩ := h.suc
  have := h.val
  rw [lexer_text.l0, if_pos hx, if_neg h1, if_pos h2] at this
  split at this
  · rename_i hl
    exact ⟨g, rfl, hl, this, by have := h.pos; omega, h.sz⟩
  · cases this
theorem TextI.esc0 (h : TextI s gg x out r) (hx : x < (s.size : Int)) (h1 : ¬ bt s x = 34) (h2 : ¬ plainB (bt s x) = true) (h3 : bt s x = 92) (h4 : ¬ x + 1 < (s.size : Int)) : r = (⟨#[]⟩, x + 1, false) := by
  obtain ⟨g, rfl⟩ := h.suc
  have := h.val
  rw [lexer_text.l0, if_pos hx, if_neg h1, if_neg h2, if_pos h3, if_neg h4] at this
  exact (Option.some.inj this).symm
theorem TextI.esc1 (h : TextI s gg x out r) (hx : x < (s.size : Int)) (h1 : ¬ bt s x = 34) (h2 : ¬ plainB (bt s x) = true) (h3 : bt s x = 92) (h4 : x + 1 < (s.size : Int)) (h5 : (plainB (bt s (x + 1)) || decide (bt s (x + 1) < 32) || decide (bt s (x + 1) > 126)) = true) : r = (⟨#[]⟩, x + 1, false) := by
  obtain ⟨g, rfl⟩ := h.suc
  have := h.val
  rw [lexer_text.l0, if_pos hx, if_neg h1, if_neg h2, if_pos h3, if_pos h4, if_pos h5] at this
  exact (Option.some.inj this).symm
theorem TextI.esc2 (h : TextI s gg x out r) (hx : x < (s.size : Int)) (h1 : ¬ bt s x = 34) (h2 : ¬ plainB (bt s x) = true) (h3 : bt s x = 92) (h4 : x + 1 < (s.size : Int)) (h5 : ¬ (plainB (bt s (x + 1)) || decide (bt s (x + 1) < 32) || decide (bt s (x + 1) > 126)) = true) : ∃ g, gg = g + 1 ∧ out.length < 1000000 ∧ TextI s g (x + 2) (out ++ [byt (bt s (x + 1))]) r := by
  obtain ⟨g, rfl⟩ := h.suc
  have := h.val
  rw [lexer_text.l0, if_pos hx, if_neg h1, if_neg h2, if_pos h3, if_pos h4, if_neg h5] at this
  split at this
  · rename_i hl
    exact ⟨g, rfl, hl, this, by have := h.pos; omega, h.sz⟩
  · cases this
theorem TextI.bar (h : TextI s gg x out r) (hx : x < (s.size : Int)) (h1 : ¬ bt s x = 34) (h2 : ¬ plainB (bt s x) = true) (h3 : ¬ bt s x = 92) (h4 : bt s x = 124) : ∃ g t, gg = g + 1 ∧ lexer_group.f g s (x + 1) = some t ∧ ((t.2.2 = true ∧ out.length + t.1.size ≤ 1000000 ∧ TextI s g t.2.1 (out ++ t.1.data.toList) r) ∨ (t.2.2 = false ∧ r = (⟨#[]⟩, t.2.1, false))) := by
  obtain ⟨g, rfl⟩ := h.suc
  have := h.val
  rw [lexer_text.l0, if_pos hx, if_neg h1, if_neg h2, if_neg h3, if_pos h4] at this
  obtain ⟨t, ht, h5⟩ := Option.bind_eq_some_iff.1 this
  refine ⟨g, t, rfl, ht, ?_⟩
  split at h5
  · rename_i h6
    split at h5
    · rename_i h7
      split at h5
      · rename_i h8
        exact .inl ⟨h6, h7, h5, h8, h.sz⟩
      · cases h5
    · cases h5
  · rename_i h6
    exact .inr ⟨by simpa using h6, (Option.some.inj h5).symm⟩
theorem TextI.bad (h : TextI s gg x out r) (hx : x < (s.size : Int)) (h1 : ¬ bt s x = 34) (h2 : ¬ plainB (bt s x) = true) (h3 : ¬ bt s x = 92) (h4 : ¬ bt s x = 124) : r = (⟨#[]⟩, x, false) := by
  obtain ⟨g, rfl⟩ := h.suc
  have := h.val
  rw [lexer_text.l0, if_pos hx, if_neg h1, if_neg h2, if_neg h3, if_neg h4] at this
  exact (Option.some.inj this).symm
end
theorem u8_bt (s : ByteArray) (x : Int) : (((byt (bt s x)).toNat : Nat) : Int) = bt s x := by
  have := bt_range s x
  unfold byt
  rw [UInt8.toNat_ofNat']
  omega
theorem wplus {x : Int} (h0 : 0 ≤ x) (h : x ≤ 1000000) (j : Int) (hj : 0 ≤ j) (hj2 : j ≤ 5) : wrap64 (x + j) = x + j := by unfold wrap64; omega
theorem ret_text {r1 a : ByteArray} {r2 b : Int} {r3 c : Bool} (h : (r1, r2, r3) = (a, b, c)) : Ending.returned (.tuple #[.string a, .int .i64 b, .bool c]) = .returned (.tuple #[.string r1, .int .i64 r2, .bool r3]) := by
  simp only [Prod.mk.injEq] at h
  obtain ⟨rfl, rfl, rfl⟩ := h
  rfl
theorem lexer_text.calls (k : Nat) (a0 : ByteArray) (a1 : Int) (r1 : ByteArray) (r2 : Int) (r3 : Bool) (w : World) (h : lexer_text.f k a0 a1 = some (r1, r2, r3)) :
    Calls Tryz.prog 130 #[.string a0, .int .i64 a1] w fun e w' => e = .returned (.tuple #[.string r1, .int .i64 r2, .bool r3]) ∧ Below w.heap.size w w' := by
  unfold lexer_text.f at h
  split at h
  case isFalse => cases h
  rename_i hp
  split at h
  case isFalse => cases h
  rename_i hs
  have HT : Aside0 (TextI a0 k a1 [] (r1, r2, r3)) := ⟨⟨h, hp, hs⟩⟩
  have HB := Aside0.mk (bld_new w)
  have HW := Aside0.mk (below_alloc (Below.refl w.heap.size w) (.cells #[.pointer none, .slice none 0 0] 62))
  clear h hp hs
  go_enter Tryz.func130, Tryz.ntmps130
  go_upto_region 2 with (fail)
  obtain ⟨B, hBB⟩ : ∃ B, w.heap.size = B := ⟨_, rfl⟩
  rw [hBB] at HB HW
  simp only [hBB]
  have HBB := Aside0.mk hBB
  clear hBB
  generalize w.alloc (.cells #[.pointer none, .slice none 0 0] 62) = W at HB HW ⊢
  go_loopg [1] k (fun gg v1 wr => ∃ (x : Int) (out : List UInt8), v1 = .int .i64 x ∧ Aside0 (TextI a0 gg x out (r1, r2, r3)) ∧ Aside0 (IsBld B B out wr) ∧ Aside0 (Below B w wr))
  case atStart => exact ⟨_, _, rfl, HT, HB, HW⟩
  case round =>
    obtain ⟨x, out, rfl, HI, HC, HD⟩ := hrel
    clear HT HB HW
    have hp : 0 ≤ x := HI.out.pos
    have hq : a0.size ≤ 1000000 := HI.out.sz
    have HS : Aside0 (B ≤ wr.heap.size) := ⟨HBB.out ▸ HD.out.size⟩
    by_cases hx : x < (a0.size : Int)
    · have c0 : decide (x < (a0.size : Int)) = true := decide_eq_true hx
      have hx0 : ∀ h : x.toNat < a0.size, ((a0[x.toNat]'h).toNat : Int) = bt a0 x := bt_at a0 x
      have hz0 : x.toNat < a0.size := by omega
      have hz1 : (x.toNat < a0.size) = True := eq_true hz0
      have W1 := Aside0.mk (wplus hp (Int.le_trans (Int.le_of_lt hx) (by omega)) 1 (by omega) (by omega))
      by_cases h34 : bt a0 x = 34
      · have HR := Aside0.mk (HI.out.quote hx h34)
        have c1 : (bt a0 x == 34) = true := beq_iff_eq.mpr h34
        clear h34
        have w1 := W1.out
        go_wp2_with fail
        refine (bld_string B B out wr HC.out HS.out).mono ?_
        rintro e w2 ⟨rfl, hb1, hb2, hb3⟩
        have HD2 := Aside0.mk (HD.out.trans hb2)
        clear hb1 hb2 hb3
        go_wp2
        go_ret3
        exact ⟨ret_text HR.out, by rw [HBB.out]; exact HD2.out⟩
      · have c1 : (bt a0 x == 34) = false := beq_eq_false_iff_ne.mpr h34
        by_cases hpl : plainB (bt a0 x) = true
        · obtain ⟨g, hg, hl, hT⟩ := HI.out.plain hx h34 hpl
          have HT := Aside0.mk hT
          have HL := Aside0.mk hl
          have HG := Aside0.mk hg
          have HP := Aside0.mk ((plain_eq (bt a0 x)).trans (congrArg some hpl))
          have HU := Aside0.mk (u8_bt a0 x)
          clear hT hl hg hpl h34
          have w1 := W1.out
          go_wp2_with fail
          refine (lexer_plain.calls (bt a0 x) true wr HP.out).mono ?_
          rintro e w2 ⟨rfl, hb⟩
          have HC2 : Aside0 (IsBld B B out w2) := ⟨bld_below HC.out hb.below⟩
          have HD2 := Aside0.mk (HD.out.trans (hb.below.mono HS.out))
          have HS2 : Aside0 (B ≤ w2.heap.size) := ⟨Nat.le_trans HS.out hb.below.size⟩
          clear hb
          go_wp2_with fail
          rw [← HU.out]
          refine (bld_byte B B out (byt (bt a0 x)) w2 HC2.out (Nat.lt_of_lt_of_le HL.out (by decide)) HS2.out).mono ?_
          rintro e w3 ⟨rfl, hc1, hc2, hc3⟩
          have HC3 := Aside0.mk hc1
          have HD3 := Aside0.mk (HD2.out.trans hc2)
          clear hc1 hc2 hc3
          go_wp2
          have hg := HG.out
          clear HG
          subst hg
          go_roundg g
          case measure => exact Nat.lt_succ_self g
          case rel => exact ⟨_, _, rfl, HT, HC3, HD3⟩
        · have HP := Aside0.mk ((plain_eq (bt a0 x)).trans (congrArg some (Bool.eq_false_iff.2 hpl)))
          by_cases h92 : bt a0 x = 92
          · have c2 : (bt a0 x == 92) = true := beq_iff_eq.mpr h92
            by_cases hx1 : x + 1 < (a0.size : Int)
            · have c3 : decide (x + 1 ≥ (a0.size : Int)) = false := decide_eq_false (by omega)
              have hy0 : ∀ h : (x + 1).toNat < a0.size, ((a0[(x + 1).toNat]'h).toNat : Int) = bt a0 (x + 1) := bt_at a0 (x + 1)
              have hv0 : (x + 1).toNat < a0.size := by omega
              have hv1 : ((x + 1).toNat < a0.size) = True := eq_true hv0
              have hv2 : 0 ≤ x + 1 := by omega
              have HQ := Aside0.mk (plain_eq (bt a0 (x + 1)))
              by_cases h5 : (plainB (bt a0 (x + 1)) || decide (bt a0 (x + 1) < 32) || decide (bt a0 (x + 1) > 126)) = true
              · have HR := Aside0.mk (HI.out.esc1 hx h34 hpl h92 hx1 h5)
                clear h34 hpl h92
                have HQ5 := Aside0.mk h5
                clear h5
                have w1 := W1.out
                go_wp2_with fail
                refine (lexer_plain.calls (bt a0 x) false wr HP.out).mono ?_
                rintro e w2 ⟨rfl, hb⟩
                have HD2 := Aside0.mk (HD.out.trans (hb.below.mono HS.out))
                have HS2 : Aside0 (B ≤ w2.heap.size) := ⟨Nat.le_trans HS.out hb.below.size⟩
                clear hb
                go_wp2_with fail
                refine (lexer_plain.calls (bt a0 (x + 1)) _ w2 HQ.out).mono ?_
                rintro e w3 ⟨rfl, hb⟩
                have HD3 := Aside0.mk (HD2.out.trans (hb.below.mono HS2.out))
                clear hb
                have h5 := HQ5.out
                cases hq1 : plainB (bt a0 (x + 1)) with
                | true =>
                  clear h5 hq1
                  go_wp2
                  go_ret3
                  exact ⟨ret_text HR.out, by rw [HBB.out]; exact HD3.out⟩
                | false =>
                  cases hq2 : decide (bt a0 (x + 1) < 32) with
                  | true =>
                    clear h5 hq1
                    go_wp2
                    go_ret3
                    exact ⟨ret_text HR.out, by rw [HBB.out]; exact HD3.out⟩
                  | false =>
                    have hq3 : decide (bt a0 (x + 1) > 126) = true := by simpa [hq1, hq2] using h5
                    clear h5 hq1
                    go_wp2
                    go_ret3
                    exact ⟨ret_text HR.out, by rw [HBB.out]; exact HD3.out⟩
              · obtain ⟨g, hg, hl, hT⟩ := HI.out.esc2 hx h34 hpl h92 hx1 h5
                have HT := Aside0.mk hT
                have HL := Aside0.mk hl
                have HG := Aside0.mk hg
                have HU := Aside0.mk (u8_bt a0 (x + 1))
                have h5' : (plainB (bt a0 (x + 1)) = false ∧ decide (bt a0 (x + 1) < 32) = false) ∧ decide (bt a0 (x + 1) > 126) = false := by
                  have := Bool.eq_false_iff.2 h5
                  rw [Bool.or_eq_false_iff, Bool.or_eq_false_iff] at this
                  exact this
                have HQ2 := Aside0.mk (HQ.out.trans (congrArg some h5'.1.1))
                have q2 := h5'.1.2
                have q3 := h5'.2
                have W2 := Aside0.mk (wplus hv2 (Int.le_trans (Int.le_of_lt hx1) (by omega)) 1 (by omega) (by omega))
                clear hT hl hg hpl h34 h92 h5 h5'
                have w1 := W1.out
                go_wp2_with fail
                refine (lexer_plain.calls (bt a0 x) false wr HP.out).mono ?_
                rintro e w2 ⟨rfl, hb⟩
                have HC2 : Aside0 (IsBld B B out w2) := ⟨bld_below HC.out hb.below⟩
                have HD2 := Aside0.mk (HD.out.trans (hb.below.mono HS.out))
                have HS2 : Aside0 (B ≤ w2.heap.size) := ⟨Nat.le_trans HS.out hb.below.size⟩
                clear hb
                go_wp2_with fail
                refine (lexer_plain.calls (bt a0 (x + 1)) false w2 HQ2.out).mono ?_
                rintro e w3 ⟨rfl, hb⟩
                have HC3 : Aside0 (IsBld B B out w3) := ⟨bld_below HC2.out hb.below⟩
                have HD3 := Aside0.mk (HD2.out.trans (hb.below.mono HS2.out))
                have HS3 : Aside0 (B ≤ w3.heap.size) := ⟨Nat.le_trans HS2.out hb.below.size⟩
                clear hb
                have w2' := W2.out
                go_wp2_with fail
                rw [← HU.out]
                refine (bld_byte B B out (byt (bt a0 (x + 1))) w3 HC3.out (Nat.lt_of_lt_of_le HL.out (by decide)) HS3.out).mono ?_
                rintro e w4 ⟨rfl, hc1, hc2, hc3⟩
                have HC4 := Aside0.mk hc1
                have HD4 := Aside0.mk (HD3.out.trans hc2)
                clear hc1 hc2 hc3
                go_wp2
                have hg := HG.out
                clear HG
                subst hg
                go_roundg g
                case measure => exact Nat.lt_succ_self g
                case rel => exact ⟨x + 2, _, congrArg (Value.int .i64) (Int.add_assoc x 1 1), HT, HC4, HD4⟩
            · have HR := Aside0.mk (HI.out.esc0 hx h34 hpl h92 hx1)
              have c3 : decide (x + 1 ≥ (a0.size : Int)) = true := decide_eq_true (by omega)
              clear h34 hpl h92
              have w1 := W1.out
              go_wp2_with fail
              refine (lexer_plain.calls (bt a0 x) false wr HP.out).mono ?_
              rintro e w2 ⟨rfl, hb⟩
              have HD2 := Aside0.mk (HD.out.trans (hb.below.mono HS.out))
              clear hb
              go_wp2
              go_ret3
              exact ⟨ret_text HR.out, by rw [HBB.out]; exact HD2.out⟩
          · have c2 : (bt a0 x == 92) = false := beq_eq_false_iff_ne.mpr h92
            by_cases h124 : bt a0 x = 124
            · have c3 : (bt a0 x == 124) = true := beq_iff_eq.mpr h124
              obtain ⟨g, ⟨t1, t2, t3⟩, hg, hgr, hT⟩ := HI.out.bar hx h34 hpl h92 h124
              have HT := Aside0.mk hT
              have HGR := Aside0.mk hgr
              have HG := Aside0.mk hg
              clear h34 hpl h92 h124 hT hgr hg
              have w1 := W1.out
              go_wp2_with fail
              refine (lexer_plain.calls (bt a0 x) false wr HP.out).mono ?_
              rintro e w2 ⟨rfl, hb⟩
              have HC2 : Aside0 (IsBld B B out w2) := ⟨bld_below HC.out hb.below⟩
              have HD2 := Aside0.mk (HD.out.trans (hb.below.mono HS.out))
              have HS2 : Aside0 (B ≤ w2.heap.size) := ⟨Nat.le_trans HS.out hb.below.size⟩
              clear hb
              go_wp2_with fail
              refine (lexer_group.calls g a0 (x + 1) t1 t2 t3 w2 HGR.out).mono ?_
              rintro e w3 ⟨rfl, hb⟩
              have HC3 : Aside0 (IsBld B B out w3) := ⟨bld_below HC2.out hb⟩
              have HD3 := Aside0.mk (HD2.out.trans (hb.mono HS2.out))
              have HS3 : Aside0 (B ≤ w3.heap.size) := ⟨Nat.le_trans HS2.out hb.size⟩
              clear hb
              rcases HT.out with ⟨h6, hl, hT⟩ | ⟨h6, hR⟩
              · have HL := Aside0.mk hl
                have HT' := Aside0.mk hT
                change t3 = true at h6
                subst h6
                clear hl hT HT
                go_wp2_with fail
                refine (bld_str B B out t1 w3 HC3.out (Nat.le_trans HL.out (by decide)) HS3.out).mono ?_
                rintro e w4 ⟨rfl, hc1, hc2, hc3⟩
                have HC4 := Aside0.mk hc1
                have HD4 := Aside0.mk (HD3.out.trans hc2)
                clear hc1 hc2 hc3
                go_wp2
                have hg := HG.out
                clear HG
                subst hg
                go_roundg g
                case measure => exact Nat.lt_succ_self g
                case rel => exact ⟨_, _, rfl, HT', HC4, HD4⟩
              · have HR := Aside0.mk hR
                change t3 = false at h6
                subst h6
                clear hR HT
                go_wp2
                go_ret3
                exact ⟨ret_text HR.out, by rw [HBB.out]; exact HD3.out⟩
            · have c3 : (bt a0 x == 124) = false := beq_eq_false_iff_ne.mpr h124
              have HR := Aside0.mk (HI.out.bad hx h34 hpl h92 h124)
              clear h34 hpl h92 h124
              have w1 := W1.out
              go_wp2_with fail
              refine (lexer_plain.calls (bt a0 x) false wr HP.out).mono ?_
              rintro e w2 ⟨rfl, hb⟩
              have HD2 := Aside0.mk (HD.out.trans (hb.below.mono HS.out))
              clear hb
              go_wp2
              go_ret3
              exact ⟨ret_text HR.out, by rw [HBB.out]; exact HD2.out⟩
    · have HR := Aside0.mk (HI.out.fin hx)
      have c0 : decide (x < (a0.size : Int)) = false := decide_eq_false hx
      skip
      go_wp2
      go_ret3
      exact ⟨ret_text HR.out, by rw [HBB.out]; exact HD.out⟩
end Go.Proofs.YtnphnhkinjppjaaGreatDoor.Q
end

section
set_option maxHeartbeats 8000000
set_option maxRecDepth 100000
namespace Go.Proofs.YtnphnhkinjppjaaGreatDoor.Q
open Go.RowKit Go.Proofs.YtnphnhkinjppjaaGreatDoorW.PrintWords Go.Proofs.YtnphnhkinjppjaaGreatDoorW.PrintLast Go.Proofs.YtnphnhkinjppjaaGreatDoorW.PrintMore
attribute [local go_sem] max2_int min2_int max_two min_two max_three min_three max_four min_four
def lexer_token.f (k : Nat) (a0 : ByteArray) (a1 : Int) : Option (Int × ByteArray × Int × Int × Int × Int) := if 0 ≤ a1 then (if a1 < (a0.size : Int) then ((lexer_inWord.f k (bt a0 a1)).bind fun t165 => (if t165 = true then ((lexer_while_at_lexer_inWord.f k a0 a1).bind fun t166 => (if (wrap64 (t166 - a1)) > 80 then (some (0, (⟨#[]⟩ : ByteArray), a1, 0, 3, a1)) else (if a1 ≤ t166 then (if t166 ≤ (a0.size : Int) then (some (1, a0.extract (a1 : Int).toNat (t166 : Int).toNat, a1, t166, 0, 0)) else (none)) else (none)))) else (if (bt a0 a1) = 36 then ((lexer_while_at_lexer_inName.f k a0 (wrap64 (a1 + 1))).bind fun t167 => (if 0 ≤ (wrap64 (a1 + 1)) then (if (wrap64 (a1 + 1)) ≤ t167 then (if t167 ≤ (a0.size : Int) then ((lexer_IsName.f k (a0.extract ((wrap64 (a1 + 1)) : Int).toNat (t167 : Int).toNat)).bind fun t168 => (if t168 = true then (some (3, a0.extract ((wrap64 (a1 + 1)) : Int).toNat (t167 : Int).toNat, a1, t167, 0, 0)) else (some (0, (⟨#[]⟩ : ByteArray), a1, 0, 5, a1)))) else (none)) else (none)) else (none))) else (if (bt a0 a1) = 34 then ((lexer_text.f k a0 (wrap64 (a1 + 1))).bind fun bt169 => (if bt169.2.2 = true then (if (bt169.1.size : Int) > 256 then (some (0, (⟨#[]⟩ : ByteArray), a1, 0, 3, a1)) else (some (2, bt169.1, a1, bt169.2.1, 0, 0))) else (some (0, (⟨#[]⟩ : ByteArray), a1, 0, 14, bt169.2.1)))) else ((lexer_mark.f k a0 a1).bind fun t172 => (if t172.toList = ([] : List UInt8) then (some (0, (⟨#[]⟩ : ByteArray), a1, 0, 14, a1)) else (some (4, t172, a1, wrap64 (a1 + (t172.size : Int)), 0, 0)))))))) else (none)) else (none)
theorem lexer_token.mono : ∀ a0 a1 k, LeO (lexer_token.f k a0 a1) (lexer_token.f (k + 1) a0 a1) := by
  intro a0 a1 k
  unfold lexer_token.f
  repeat' first
      | (with_reducible exact lexer_IsName.mono _ _)
      | (with_reducible exact lexer_inWord.mono _ _)
      | (with_reducible exact lexer_mark.mono _ _ _)
      | (with_reducible exact lexer_text.mono _ _ _)
      | (with_reducible exact lexer_while_at_lexer_inName.mono _ _ _)
      | (with_reducible exact lexer_while_at_lexer_inWord.mono _ _ _)
      | (with_reducible exact LeO.refl _)
      | (with_reducible exact LeO.none _)
      | (with_reducible refine LeO.ite ?_ ?_)
      | (with_reducible refine LeO.bind ?_ (fun _ => ?_))
theorem tk_put {w : World} {g : Nat} {t : TypeId} {u0 u1 u2 v0 v1 v2 : Value} (h : w.heap[g]? = some (.cells #[u0, u1, u2] t (0, 0))) : (((w.setCell ⟨g, 0, none⟩ v0).setCell ⟨g, 1, none⟩ v1).setCell ⟨g, 2, none⟩ v2).heap[g]? = some (.cells #[v0, v1, v2] t (0, 0)) := by
  refine blk_put (cs := #[v0, v1, u2]) ?_ 2 _ rfl
  refine blk_put (cs := #[v0, u1, u2]) ?_ 1 _ rfl
  refine blk_put (cs := #[u0, u1, u2]) ?_ 0 _ rfl
  exact h
theorem tk_below {w W : World} {g : Nat} {v0 v1 v2 : Value} (h : Below w.heap.size w W) (hg : w.heap.size ≤ g) : Below w.heap.size w (((W.setCell ⟨g, 0, none⟩ v0).setCell ⟨g, 1, none⟩ v1).setCell ⟨g, 2, none⟩ v2) := by
  repeat (refine below_set ?_ hg)
  exact h
structure TkI (w W : World) (gr gt : Nat) (u0 u1 u2 : Value) : Prop where
  res : W.heap[gr]? = some (.cells #[.int .i64 0, .string (⟨#[]⟩ : ByteArray), .int .i64 0] 84 (0, 0))
  tok : W.heap[gt]? = some (.cells #[u0, u1, u2] 84 (0, 0))
  bel : Below w.heap.size w W
  ger : w.heap.size ≤ gr
  get : w.heap.size ≤ gt
  ne : gr ≠ gt
theorem TkI.below {w W W1 : World} {gr gt : Nat} {u0 u1 u2 : Value} (h : TkI w W gr gt u0 u1 u2) (hb : Below W.heap.size W W1) : TkI w W1 gr gt u0 u1 u2 := ⟨blk_below h.res hb, blk_below h.tok hb, below_then h.bel h.bel.size hb, h.ger, h.get, h.ne⟩
theorem TkI.put0 {w W : World} {gr gt : Nat} {u0 u1 u2 : Value} (h : TkI w W gr gt u0 u1 u2) (v : Value) : TkI w (W.setCell ⟨gt, 0, none⟩ v) gr gt v u1 u2 := ⟨blk_far h.res h.ne _, blk_put h.tok 0 _ rfl, below_set h.bel h.get, h.ger, h.get, h.ne⟩
theorem TkI.put1 {w W : World} {gr gt : Nat} {u0 u1 u2 : Value} (h : TkI w W gr gt u0 u1 u2) (v : Value) : TkI w (W.setCell ⟨gt, 1, none⟩ v) gr gt u0 v u2 := ⟨blk_far h.res h.ne _, blk_put h.tok 1 _ rfl, below_set h.bel h.get, h.ger, h.get, h.ne⟩
theorem lexer_token.calls (k : Nat) (a0 : ByteArray) (a1 : Int) (r1 : Int) (r2 : ByteArray) (r3 : Int) (r4 : Int) (r5 : Int) (r6 : Int) (w : World) (h : lexer_token.f k a0 a1 = some (r1, r2, r3, r4, r5, r6)) :
 Calls Tryz.prog 102 #[.string a0, .int .i64 a1] w fun e w' => e = .returned (.tuple #[.agg #[.int .i64 r1, .string r2, .int .i64 r3], .int .i64 r4, .int .i64 r5, .int .i64 r6]) ∧ Below w.heap.size w w' := by
  have hu84 := Tryz.underlying84
  unfold lexer_token.f at h
  by_cases c3 : 0 ≤ a1
  rotate_left
  · rw [if_neg c3] at h; exact absurd h (by simp)
  rw [if_pos c3] at h
  by_cases c4 : a1 < (a0.size : Int)
  rotate_left
  · rw [if_neg c4] at h; exact absurd h (by simp)
  rw [if_pos c4] at h
  have q0 : decide (0 ≤ a1) = true := decide_eq_true c3
  have q1 : decide (a1 < (a0.size : Int)) = true := decide_eq_true c4
  have hlt : a1.toNat < a0.size := by omega
  have hbt := bt_at a0 a1 hlt
  have hin : 0 ≤ a1 ∧ a1 < (a0.size : Int) := ⟨c3, c4⟩
  have HH := Aside0.mk h
  clear h c3 c4
  go_enter Tryz.func102, Tryz.ntmps102
  go_upto_region 1 with (fail)
  have HR0 : Aside0 ((w.alloc (.cells #[.int .i64 0, .string (⟨#[]⟩ : ByteArray), .int .i64 0] 84)).heap[w.heap.size]? = some (.cells #[.int .i64 0, .string (⟨#[]⟩ : ByteArray), .int .i64 0] 84 (0, 0))) := ⟨heap_alloc_new _ _⟩
  have HB0 := Aside0.mk (below_alloc (Below.refl w.heap.size w) (.cells #[.int .i64 0, .string (⟨#[]⟩ : ByteArray), .int .i64 0] 84))
  obtain ⟨gr, hg⟩ : ∃ x, w.heap.size = x := ⟨_, rfl⟩
  have HG : Aside0 (w.heap.size ≤ gr) := ⟨by omega⟩
  rw [hg] at HR0
  simp only [hg]
  clear hg
  change Code.wp _ _ _ _ (w.alloc (.cells #[.int .i64 0, .string (⟨#[]⟩ : ByteArray), .int .i64 0] 84))
  generalize w.alloc (.cells #[.int .i64 0, .string (⟨#[]⟩ : ByteArray), .int .i64 0] 84) = W1 at HR0 HB0 ⊢
  go_upto_region 2 with (fail)
  have HT : Aside0 (TkI w (W1.alloc (.cells #[.int .i64 0, .string (⟨#[]⟩ : ByteArray), .int .i64 a1] 84)) gr W1.heap.size (.int .i64 0) (.string (⟨#[]⟩ : ByteArray)) (.int .i64 a1)) := ⟨blk_alloc HR0.out _, heap_alloc_new _ _, below_alloc HB0.out _, HG.out, HB0.out.size, by have := blk_lt HR0.out; omega⟩
  obtain ⟨gt, hg⟩ : ∃ x, W1.heap.size = x := ⟨_, rfl⟩
  rw [hg] at HT
  simp only [hg]
  clear hg HR0 HB0 HG
  change Code.wp _ _ _ _ (W1.alloc (.cells #[.int .i64 0, .string (⟨#[]⟩ : ByteArray), .int .i64 a1] 84))
  generalize W1.alloc (.cells #[.int .i64 0, .string (⟨#[]⟩ : ByteArray), .int .i64 a1] 84) = W2 at HT ⊢
  have h := HH.out
  clear HH
  replace h := Option.bind_eq_some_iff.mp h
  obtain ⟨iw, e1, h⟩ := h
  have E1 := Aside0.mk e1
  have HH := Aside0.mk h
  clear h e1
  go_wp2_with fail
  refine (lexer_inWord.calls k (bt a0 a1) iw W2 E1.out).mono ?_
  rintro e w3 ⟨rfl, hb⟩
  replace HT := Aside0.mk (HT.out.below hb.below)
  clear hb
  have h := HH.out
  clear HH
  cases iw
  rotate_left
  · rw [if_pos rfl] at h
    replace h := Option.bind_eq_some_iff.mp h
    obtain ⟨n, e2, h⟩ := h
    have E2 := Aside0.mk e2
    have HH := Aside0.mk h
    clear h e2
    go_wp2_with fail
    refine (lexer_while_at_lexer_inWord.calls k a0 a1 n w3 E2.out).mono ?_
    rintro e w4 ⟨rfl, hb⟩
    replace HT := Aside0.mk (HT.out.below hb.below)
    clear hb
    have h := HH.out
    clear HH
    by_cases c5 : wrap64 (n - a1) > 80
    · rw [if_pos c5] at h
      have c5a : decide (80 < wrap64 (n - a1)) = true := decide_eq_true c5
      clear c5
      simp only [Option.some.injEq, Prod.mk.injEq] at h
      obtain ⟨rfl, rfl, rfl, rfl, rfl, rfl⟩ := h
      obtain ⟨t0, t1, t2⟩ := zc3 (Aside0.mk HT.out.tok)
      obtain ⟨x0, x1, x2⟩ := zc3 (Aside0.mk HT.out.res)
      obtain ⟨f0, f1, f2⟩ := zf3 (Aside0.mk HT.out.res)
      go_wp2
      exact bodyPost_ret (results_list (rs := [.cell 4 84, .tmp 5, .tmp 6, .tmp 7]) rfl (by simp) (.cell gr 84 #[.int .i64 0, .string (⟨#[]⟩ : ByteArray), .int .i64 a1] (0, 0) _ rfl (tk_put HT.out.res) hu84 rfl (by kernel_rfl) (.tmp (.tmp (.tmp .nil))))) rfl ⟨rfl, tk_below HT.out.bel HT.out.ger⟩
    rw [if_neg c5] at h
    have c5a : decide (80 < wrap64 (n - a1)) = false := decide_eq_false c5
    clear c5
    by_cases c6 : a1 ≤ n
    rotate_left
    · rw [if_neg c6] at h; exact absurd h (by simp)
    rw [if_pos c6] at h
    by_cases c7 : n ≤ (a0.size : Int)
    rotate_left
    · rw [if_neg c7] at h; exact absurd h (by simp)
    rw [if_pos c7] at h
    have p0 : decide (a1 ≤ n) = true := decide_eq_true c6
    have p1 : decide (n ≤ (a0.size : Int)) = true := decide_eq_true c7
    have s0 := eq_true (of_decide_eq_true q0)
    have s1 := eq_true c6
    have s2 := eq_true c7
    have HH := Aside0.mk h
    clear h c6 c7
    go_upto_region 7 with (fail)
    refine start_ (n := 8) (S := fun w' => True) (ds := []) #[false, false, false, false, false, false, false, false] (by kernel_rfl) rfl rfl trivial (fun hHeld => ?_)
    replace HT := Aside0.mk (HT.out.below (below_drew (Below.refl _ _)))
    generalize World.drew _ = V1 at HT hHeld ⊢
    refine zp0 0 33 ?_
    refine zp0 1 34 ?_
    refine zp0 2 35 ?_
    refine zp0 3 36 ?_
    refine zp0 4 37 ?_
    refine one_ (i := 5) (N := none) #[true, true, true, true, true, true, false, false] rfl rfl (by kernel_rfl) (by decide) (fun K hK => ?_)
    obtain ⟨t0, t1, t2⟩ := zc3 (Aside0.mk HT.out.tok)
    obtain ⟨f0, f1, f2⟩ := zf3 (Aside0.mk HT.out.tok)
    refine skip_ (w1 := ?_) (by rfl) rfl ?_ ?_
    rotate_left
    · go_simp
      rfl
    refine hK.out _ _ trivial (fun hHeld => ?_)
    clear hK K t0 t1 t2 f0 f1 f2
    replace HT := Aside0.mk (HT.out.put0 (.int .i64 1))
    generalize World.setCell V1 _ _ = V2 at HT ⊢
    refine zp0 6 38 ?_
    refine one_ (i := 7) (N := none) #[true, true, true, true, true, true, true, true] rfl rfl (by kernel_rfl) (by decide) (fun K hK => ?_)
    obtain ⟨t0, t1, t2⟩ := zc3 (Aside0.mk HT.out.tok)
    obtain ⟨f0, f1, f2⟩ := zf3 (Aside0.mk HT.out.tok)
    refine skip_ (w1 := ?_) (by rfl) rfl ?_ ?_
    rotate_left
    · go_simp
      rfl
    refine hK.out _ _ trivial (fun hHeld => ?_)
    clear hK K t0 t1 t2 f0 f1 f2
    replace HT := Aside0.mk (HT.out.put1 (.string (a0.extract (a1 : Int).toNat (n : Int).toNat)))
    generalize World.setCell V2 _ _ = V3 at HT ⊢
    refine zd0 ?_
    have h := HH.out
    clear HH
    simp only [Option.some.injEq, Prod.mk.injEq] at h
    obtain ⟨rfl, rfl, rfl, rfl, rfl, rfl⟩ := h
    obtain ⟨t0, t1, t2⟩ := zc3 (Aside0.mk HT.out.tok)
    obtain ⟨x0, x1, x2⟩ := zc3 (Aside0.mk HT.out.res)
    obtain ⟨f0, f1, f2⟩ := zf3 (Aside0.mk HT.out.res)
    go_wp2
    exact bodyPost_ret (results_list (rs := [.cell 4 84, .tmp 5, .tmp 6, .tmp 7]) rfl (by simp) (.cell gr 84 #[.int .i64 1, .string (a0.extract (a1 : Int).toNat (n : Int).toNat), .int .i64 a1] (0, 0) _ rfl (tk_put HT.out.res) hu84 rfl (by kernel_rfl) (.tmp (.tmp (.tmp .nil))))) rfl ⟨rfl, tk_below HT.out.bel HT.out.ger⟩
  rw [if_neg Bool.false_ne_true] at h
  by_cases c36 : bt a0 a1 = 36
  · rw [if_pos c36] at h
    have c36a : (bt a0 a1 == 36) = true := beq_iff_eq.mpr c36
    clear c36
    replace h := Option.bind_eq_some_iff.mp h
    obtain ⟨n, e3, h⟩ := h
    have E3 := Aside0.mk e3
    have HH := Aside0.mk h
    clear h e3
    go_wp2_with fail
    refine (lexer_while_at_lexer_inName.calls k a0 (wrap64 (a1 + 1)) n w3 E3.out).mono ?_
    rintro e w4 ⟨rfl, hb⟩
    replace HT := Aside0.mk (HT.out.below hb.below)
    clear hb
    have h := HH.out
    clear HH
    by_cases c5 : 0 ≤ wrap64 (a1 + 1)
    rotate_left
    · rw [if_neg c5] at h; exact absurd h (by simp)
    rw [if_pos c5] at h
    by_cases c6 : wrap64 (a1 + 1) ≤ n
    rotate_left
    · rw [if_neg c6] at h; exact absurd h (by simp)
    rw [if_pos c6] at h
    by_cases c7 : n ≤ (a0.size : Int)
    rotate_left
    · rw [if_neg c7] at h; exact absurd h (by simp)
    rw [if_pos c7] at h
    have p2 : decide (0 ≤ wrap64 (a1 + 1)) = true := decide_eq_true c5
    have p0 : decide (wrap64 (a1 + 1) ≤ n) = true := decide_eq_true c6
    have p1 : decide (n ≤ (a0.size : Int)) = true := decide_eq_true c7
    have s0 := eq_true c5
    have s1 := eq_true c6
    have s2 := eq_true c7
    clear c5 c6 c7 c36a
    replace h := Option.bind_eq_some_iff.mp h
    obtain ⟨nm, e4, h⟩ := h
    have E4 := Aside0.mk e4
    have HH := Aside0.mk h
    clear h e4
    go_wp2_with fail
    refine (lexer_IsName.calls k (a0.extract ((wrap64 (a1 + 1)) : Int).toNat (n : Int).toNat) nm w4 E4.out).mono ?_
    rintro e w5 ⟨rfl, hb⟩
    replace HT := Aside0.mk (HT.out.below hb.below)
    clear hb
    have h := HH.out
    clear HH
    cases nm
    · rw [if_neg Bool.false_ne_true] at h
      simp only [Option.some.injEq, Prod.mk.injEq] at h
      obtain ⟨rfl, rfl, rfl, rfl, rfl, rfl⟩ := h
      obtain ⟨t0, t1, t2⟩ := zc3 (Aside0.mk HT.out.tok)
      obtain ⟨x0, x1, x2⟩ := zc3 (Aside0.mk HT.out.res)
      obtain ⟨f0, f1, f2⟩ := zf3 (Aside0.mk HT.out.res)
      go_wp2
      exact bodyPost_ret (results_list (rs := [.cell 4 84, .tmp 5, .tmp 6, .tmp 7]) rfl (by simp) (.cell gr 84 #[.int .i64 0, .string (⟨#[]⟩ : ByteArray), .int .i64 a1] (0, 0) _ rfl (tk_put HT.out.res) hu84 rfl (by kernel_rfl) (.tmp (.tmp (.tmp .nil))))) rfl ⟨rfl, tk_below HT.out.bel HT.out.ger⟩
    rw [if_pos rfl] at h
    have HH := Aside0.mk h
    clear h
    go_upto_region 13 with (fail)
    refine start_ (n := 9) (S := fun w' => True) (ds := []) #[false, false, false, false, false, false, false, false, false] (by kernel_rfl) rfl rfl trivial (fun hHeld => ?_)
    replace HT := Aside0.mk (HT.out.below (below_drew (Below.refl _ _)))
    generalize World.drew _ = V1 at HT hHeld ⊢
    refine zp0 0 57 ?_
    refine zp0 1 58 ?_
    refine zp0 2 59 ?_
    refine zp0 3 60 ?_
    refine zp0 4 61 ?_
    refine zp0 5 62 ?_
    refine one_ (i := 6) (N := none) #[true, true, true, true, true, true, true, false, false] rfl rfl (by kernel_rfl) (by decide) (fun K hK => ?_)
    obtain ⟨t0, t1, t2⟩ := zc3 (Aside0.mk HT.out.tok)
    obtain ⟨f0, f1, f2⟩ := zf3 (Aside0.mk HT.out.tok)
    refine skip_ (w1 := ?_) (by rfl) rfl ?_ ?_
    rotate_left
    · go_simp
      rfl
    refine hK.out _ _ trivial (fun hHeld => ?_)
    clear hK K t0 t1 t2 f0 f1 f2
    replace HT := Aside0.mk (HT.out.put0 (.int .i64 3))
    generalize World.setCell V1 _ _ = V2 at HT ⊢
    refine zp0 7 63 ?_
    refine one_ (i := 8) (N := none) #[true, true, true, true, true, true, true, true, true] rfl rfl (by kernel_rfl) (by decide) (fun K hK => ?_)
    obtain ⟨t0, t1, t2⟩ := zc3 (Aside0.mk HT.out.tok)
    obtain ⟨f0, f1, f2⟩ := zf3 (Aside0.mk HT.out.tok)
    refine skip_ (w1 := ?_) (by rfl) rfl ?_ ?_
    rotate_left
    · go_simp
      rfl
    refine hK.out _ _ trivial (fun hHeld => ?_)
    clear hK K t0 t1 t2 f0 f1 f2
    replace HT := Aside0.mk (HT.out.put1 (.string (a0.extract ((wrap64 (a1 + 1)) : Int).toNat (n : Int).toNat)))
    generalize World.setCell V2 _ _ = V3 at HT ⊢
    refine zd0 ?_
    have h := HH.out
    clear HH
    simp only [Option.some.injEq, Prod.mk.injEq] at h
    obtain ⟨rfl, rfl, rfl, rfl, rfl, rfl⟩ := h
    obtain ⟨t0, t1, t2⟩ := zc3 (Aside0.mk HT.out.tok)
    obtain ⟨x0, x1, x2⟩ := zc3 (Aside0.mk HT.out.res)
    obtain ⟨f0, f1, f2⟩ := zf3 (Aside0.mk HT.out.res)
    go_wp2
    exact bodyPost_ret (results_list (rs := [.cell 4 84, .tmp 5, .tmp 6, .tmp 7]) rfl (by simp) (.cell gr 84 #[.int .i64 3, .string (a0.extract ((wrap64 (a1 + 1)) : Int).toNat (n : Int).toNat), .int .i64 a1] (0, 0) _ rfl (tk_put HT.out.res) hu84 rfl (by kernel_rfl) (.tmp (.tmp (.tmp .nil))))) rfl ⟨rfl, tk_below HT.out.bel HT.out.ger⟩
  rw [if_neg c36] at h
  have c36a : (bt a0 a1 == 36) = false := beq_eq_false_iff_ne.mpr c36
  clear c36
  by_cases c34 : bt a0 a1 = 34
  · rw [if_pos c34] at h
    have c34a : (bt a0 a1 == 34) = true := beq_iff_eq.mpr c34
    clear c34
    replace h := Option.bind_eq_some_iff.mp h
    obtain ⟨⟨v, n, ok⟩, e5, h⟩ := h
    try dsimp only at e5 h
    have E5 := Aside0.mk e5
    have HH := Aside0.mk h
    clear h e5
    go_wp2_with fail
    refine (lexer_text.calls k a0 (wrap64 (a1 + 1)) v n ok w3 E5.out).mono ?_
    rintro e w4 ⟨rfl, hb⟩
    replace HT := Aside0.mk (HT.out.below hb)
    clear hb
    clear c36a c34a
    have h := HH.out
    clear HH
    cases ok
    · rw [if_neg Bool.false_ne_true] at h
      simp only [Option.some.injEq, Prod.mk.injEq] at h
      obtain ⟨rfl, rfl, rfl, rfl, rfl, rfl⟩ := h
      obtain ⟨t0, t1, t2⟩ := zc3 (Aside0.mk HT.out.tok)
      obtain ⟨x0, x1, x2⟩ := zc3 (Aside0.mk HT.out.res)
      obtain ⟨f0, f1, f2⟩ := zf3 (Aside0.mk HT.out.res)
      go_wp2
      exact bodyPost_ret (results_list (rs := [.cell 4 84, .tmp 5, .tmp 6, .tmp 7]) rfl (by simp) (.cell gr 84 #[.int .i64 0, .string (⟨#[]⟩ : ByteArray), .int .i64 a1] (0, 0) _ rfl (tk_put HT.out.res) hu84 rfl (by kernel_rfl) (.tmp (.tmp (.tmp .nil))))) rfl ⟨rfl, tk_below HT.out.bel HT.out.ger⟩
    rw [if_pos rfl] at h
    by_cases c8 : (v.size : Int) > 256
    · rw [if_pos c8] at h
      have c8a : decide (256 < (v.size : Int)) = true := decide_eq_true c8
      have c8b : decide (256 < v.size) = true := decide_eq_true (by omega)
      clear c8
      simp only [Option.some.injEq, Prod.mk.injEq] at h
      obtain ⟨rfl, rfl, rfl, rfl, rfl, rfl⟩ := h
      obtain ⟨t0, t1, t2⟩ := zc3 (Aside0.mk HT.out.tok)
      obtain ⟨x0, x1, x2⟩ := zc3 (Aside0.mk HT.out.res)
      obtain ⟨f0, f1, f2⟩ := zf3 (Aside0.mk HT.out.res)
      go_wp2
      exact bodyPost_ret (results_list (rs := [.cell 4 84, .tmp 5, .tmp 6, .tmp 7]) rfl (by simp) (.cell gr 84 #[.int .i64 0, .string (⟨#[]⟩ : ByteArray), .int .i64 a1] (0, 0) _ rfl (tk_put HT.out.res) hu84 rfl (by kernel_rfl) (.tmp (.tmp (.tmp .nil))))) rfl ⟨rfl, tk_below HT.out.bel HT.out.ger⟩
    rw [if_neg c8] at h
    have c8a : decide (256 < (v.size : Int)) = false := decide_eq_false c8
    have c8b : decide (256 < v.size) = false := decide_eq_false (by omega)
    clear c8
    obtain ⟨t0, t1, t2⟩ := zc3 (Aside0.mk HT.out.tok)
    obtain ⟨f0, f1, f2⟩ := zf3 (Aside0.mk HT.out.tok)
    have HH := Aside0.mk h
    clear h
    go_upto_region 22 with (fail)
    clear t0 t1 t2 f0 f1 f2
    replace HT := Aside0.mk ((HT.out.put0 (.int .i64 2)).put1 (.string v))
    generalize World.setCell (World.setCell _ _ _) _ _ = V3 at HT ⊢
    have h := HH.out
    clear HH
    simp only [Option.some.injEq, Prod.mk.injEq] at h
    obtain ⟨rfl, rfl, rfl, rfl, rfl, rfl⟩ := h
    obtain ⟨t0, t1, t2⟩ := zc3 (Aside0.mk HT.out.tok)
    obtain ⟨x0, x1, x2⟩ := zc3 (Aside0.mk HT.out.res)
    obtain ⟨f0, f1, f2⟩ := zf3 (Aside0.mk HT.out.res)
    go_wp2
    exact bodyPost_ret (results_list (rs := [.cell 4 84, .tmp 5, .tmp 6, .tmp 7]) rfl (by simp) (.cell gr 84 #[.int .i64 2, .string v, .int .i64 a1] (0, 0) _ rfl (tk_put HT.out.res) hu84 rfl (by kernel_rfl) (.tmp (.tmp (.tmp .nil))))) rfl ⟨rfl, tk_below HT.out.bel HT.out.ger⟩
  rw [if_neg c34] at h
  have c34a : (bt a0 a1 == 34) = false := beq_eq_false_iff_ne.mpr c34
  clear c34
  replace h := Option.bind_eq_some_iff.mp h
  obtain ⟨m, e6, h⟩ := h
  have E6 := Aside0.mk e6
  have HH := Aside0.mk h
  clear h e6
  go_wp2_with fail
  refine (lexer_mark.calls k a0 a1 m w3 E6.out).mono ?_
  rintro e w4 ⟨rfl, hb⟩
  replace HT := Aside0.mk (HT.out.below hb)
  clear hb
  clear c36a c34a
  have h := HH.out
  clear HH
  by_cases c9 : m.toList = ([] : List UInt8)
  · rw [if_pos c9] at h
    have c9a : (m.toList == ([] : List UInt8)) = true := beq_iff_eq.mpr c9
    have c9b : (m.toList != ([] : List UInt8)) = false := bne_eq_false_iff_eq.mpr c9
    clear c9
    simp only [Option.some.injEq, Prod.mk.injEq] at h
    obtain ⟨rfl, rfl, rfl, rfl, rfl, rfl⟩ := h
    obtain ⟨t0, t1, t2⟩ := zc3 (Aside0.mk HT.out.tok)
    obtain ⟨x0, x1, x2⟩ := zc3 (Aside0.mk HT.out.res)
    obtain ⟨f0, f1, f2⟩ := zf3 (Aside0.mk HT.out.res)
    go_wp2
    exact bodyPost_ret (results_list (rs := [.cell 4 84, .tmp 5, .tmp 6, .tmp 7]) rfl (by simp) (.cell gr 84 #[.int .i64 0, .string (⟨#[]⟩ : ByteArray), .int .i64 a1] (0, 0) _ rfl (tk_put HT.out.res) hu84 rfl (by kernel_rfl) (.tmp (.tmp (.tmp .nil))))) rfl ⟨rfl, tk_below HT.out.bel HT.out.ger⟩
  rw [if_neg c9] at h
  have c9a : (m.toList == ([] : List UInt8)) = false := beq_eq_false_iff_ne.mpr c9
  have c9b : (m.toList != ([] : List UInt8)) = true := bne_iff_ne.mpr c9
  clear c9
  obtain ⟨t0, t1, t2⟩ := zc3 (Aside0.mk HT.out.tok)
  obtain ⟨f0, f1, f2⟩ := zf3 (Aside0.mk HT.out.tok)
  have HH := Aside0.mk h
  clear h
  go_upto_region 26 with (fail)
  clear t0 t1 t2 f0 f1 f2
  replace HT := Aside0.mk ((HT.out.put0 (.int .i64 4)).put1 (.string m))
  generalize World.setCell (World.setCell _ _ _) _ _ = V3 at HT ⊢
  have h := HH.out
  clear HH
  simp only [Option.some.injEq, Prod.mk.injEq] at h
  obtain ⟨rfl, rfl, rfl, rfl, rfl, rfl⟩ := h
  obtain ⟨t0, t1, t2⟩ := zc3 (Aside0.mk HT.out.tok)
  obtain ⟨x0, x1, x2⟩ := zc3 (Aside0.mk HT.out.res)
  obtain ⟨f0, f1, f2⟩ := zf3 (Aside0.mk HT.out.res)
  go_wp2
  exact bodyPost_ret (results_list (rs := [.cell 4 84, .tmp 5, .tmp 6, .tmp 7]) rfl (by simp) (.cell gr 84 #[.int .i64 4, .string m, .int .i64 a1] (0, 0) _ rfl (tk_put HT.out.res) hu84 rfl (by kernel_rfl) (.tmp (.tmp (.tmp .nil))))) rfl ⟨rfl, tk_below HT.out.bel HT.out.ger⟩
def lexer_Scan.l0 : Nat → ByteArray → List (S84) → Int → Option ((List (S84)) × Int × Int)
  | 0, _, _, _ => none
  | k + 1, x0, x5, x6 => if x6 < (x0.size : Int) then ((lexer_token.f k x0 x6).bind fun bt177 => (if bt177.2.2.2.2.1 = 0 then (if x5.length < 4398046511104 then ((lexer_skip.f k x0 bt177.2.2.2.1).bind fun t187 => (lexer_Scan.l0 k x0 (x5 ++ [(⟨bt177.1, bt177.2.1, bt177.2.2.1⟩ : S84)]) t187)) else (none)) else (some (([] : List (S84)), bt177.2.2.2.2.1, bt177.2.2.2.2.2)))) else (if x5.length < 4398046511104 then (some ((x5 ++ [(⟨0, (⟨#[]⟩ : ByteArray), (x0.size : Int)⟩ : S84)]), 0, 0)) else (none))
def lexer_Scan.f (k : Nat) (a0 : ByteArray) : Option ((List (S84)) × Int × Int) := if (a0.size : Int) > 16000 then (some (([] : List (S84)), 3, 0)) else ((lexer_skip.f k a0 0).bind fun t173 => (lexer_Scan.l0 k a0 ([] : List (S84)) t173))
theorem lexer_Scan.mono_l : ∀ k, (∀ y0 y1 y2, LeO (lexer_Scan.l0 k y0 y1 y2) (lexer_Scan.l0 (k + 1) y0 y1 y2))
  | 0 => fun _ _ _ r h => by simp [lexer_Scan.l0] at h
  | k + 1 => by
    have ih0 := lexer_Scan.mono_l k
    · intro y0 y1 y2
      unfold lexer_Scan.l0
      repeat' first
      | (with_reducible exact ih0 _ _ _)
      | (with_reducible exact lexer_skip.mono _ _ _)
      | (with_reducible exact lexer_token.mono _ _ _)
      | (with_reducible exact LeO.refl _)
      | (with_reducible exact LeO.none _)
      | (with_reducible refine LeO.ite ?_ ?_)
      | (with_reducible refine LeO.bind ?_ (fun _ => ?_))
theorem lexer_Scan.mono : ∀ a0 k, LeO (lexer_Scan.f k a0) (lexer_Scan.f (k + 1) a0) := by
  intro a0 k
  have ih0 := lexer_Scan.mono_l k
  unfold lexer_Scan.f
  repeat' first
      | (with_reducible exact ih0 _ _ _)
      | (with_reducible exact lexer_skip.mono _ _ _)
      | (with_reducible exact lexer_token.mono _ _ _)
      | (with_reducible exact LeO.refl _)
      | (with_reducible exact LeO.none _)
      | (with_reducible refine LeO.ite ?_ ?_)
      | (with_reducible refine LeO.bind ?_ (fun _ => ?_))
theorem lexer_Scan.calls (k : Nat) (a0 : ByteArray) (r1 : List (S84)) (r2 : Int) (r3 : Int) (w : World) (h : lexer_Scan.f k a0 = some (r1, r2, r3)) :
 Calls Tryz.prog 68 #[.string a0] w fun e w' => ∃ v0_ : Value, e = .returned (.tuple #[v0_, .int .i64 r2, .int .i64 r3]) ∧ Kd.R k84 84 w' w.heap.size (fun _ => True) v0_ r1 ∧ Below w.heap.size w w' := by
 have hu84 := Tryz.underlying84
 have HB := Aside0.mk (Below.refl w.heap.size w)
 unfold lexer_Scan.f at h; have H := h
 clear h
 by_cases c2 : (a0.size : Int) > 16000
 · rw [if_pos c2] at H
   have c2b0 : decide (16000 < (a0.size : Int)) = true := decide_eq_true c2
   have c2b1 : decide (16000 < a0.size) = true := decide_eq_true (by omega)
   clear c2
   simp only [Option.some.injEq, Prod.mk.injEq] at H
   obtain ⟨rfl, rfl, rfl⟩ := H
   go_enter Tryz.func68, Tryz.ntmps68
   go_wp2
   go_ret3
   exact ⟨_, by first | rfl | (simp [errW_none, errW_some] <;> rfl) | (simp [*, errW_none, errW_some] <;> rfl), by first | exact Kd.R_nil _ _ _ _ _ | exact Kd.N_nil _ _ _ _ _ | exact Kd.V_nil _ _ _ _ _ | exact Kd.Q_nil _ _ _ _ _ | exact Kd.S_nil _ _ _ _ _, by repeat (first | (with_reducible first | exact HB.out | apply below_alloc | apply pw_below_drewN | apply below_drew1) | exact HB.out)⟩
 rw [if_neg c2] at H; have c2b0 : decide (16000 < (a0.size : Int)) = false := decide_eq_false c2
 have c2b1 : decide (16000 < a0.size) = false := decide_eq_false (by omega)
 clear c2
 replace H := Option.bind_eq_some_iff.mp H
 obtain ⟨t173, A30, H⟩ := H
 replace H : (lexer_Scan.l0 k a0 ([] : List (S84)) t173) = some (r1, r2, r3) := H
 have A3 := Aside0.mk A30; clear A30
 have H' := Aside0.mk H
 clear H
 go_enter Tryz.func68, Tryz.ntmps68
 go_wp2_with (first | ((with_reducible refine gate_callee (f := 101) rfl ?_); refine zgl 15 Tryz.func101 #[.string a0, .int .i64 0] ?_; (with_reducible refine (lexer_skip.calls k a0 0 t173 _ A3.out).mono ?_); rintro e w' ⟨rfl, ⟨nd, rfl⟩⟩; refine ⟨_, rfl, ?_⟩))
 go_loopg [5, 6] k (fun kq v5 v6 w' => ∃ (x5_1 : List (S84)) (x6_1 : Int), v6 = .int .i64 x6_1 ∧ Aside0 (lexer_Scan.l0 kq a0 x5_1 x6_1 = some (r1, r2, r3)) ∧ Aside0 (kq ≤ k) ∧ Aside0 (Kd.R k84 84 w' w.heap.size (fun _ => True) v5 x5_1) ∧ Aside0 (Below w.heap.size w w'))
 case atStart => exact ⟨(([] : List (S84))), (t173), zI, H', ⟨Nat.le_refl _⟩, ⟨by first | exact Kd.R_nil _ _ _ _ _ | exact Kd.N_nil _ _ _ _ _ | exact Kd.V_nil _ _ _ _ _ | exact Kd.Q_nil _ _ _ _ _ | exact Kd.S_nil _ _ _ _ _⟩, ⟨zB HB⟩⟩
 case round =>
  clear H'
  (try clear c2b0); (try clear c2b1)
  obtain ⟨x5_1, x6_1, rfl, HA, HK1, HO_5, HB⟩ := hrel
  rcases gk with _ | k1
  · exact absurd HA.out (by simp [lexer_Scan.l0])
  have H := HA.out
  clear HA
  simp only [lexer_Scan.l0] at H
  by_cases c4 : x6_1 < (a0.size : Int)
  · rw [if_pos c4] at H
    have c4b0 : decide (x6_1 < (a0.size : Int)) = true := decide_eq_true c4; clear c4
    replace H := Option.bind_eq_some_iff.mp H
    obtain ⟨⟨t177, t178, t179, t180, t181, t182⟩, A50, H⟩ := H
    replace H : (if t181 = 0 then (if x5_1.length < 4398046511104 then ((lexer_skip.f k1 a0 t180).bind fun t187 => (lexer_Scan.l0 k1 a0 (x5_1 ++ [(⟨t177, t178, t179⟩ : S84)]) t187)) else (none)) else (some (([] : List (S84)), t181, t182))) = some (r1, r2, r3) := H
    have A5 := Aside0.mk A50; clear A50
    by_cases c6 : t181 = 0
    · rw [if_pos c6] at H
      have c6b0 : (t181 == 0) = true := beq_iff_eq.mpr c6; have c6b1 : (t181 != 0) = false := bne_eq_false_iff_eq.mpr c6; clear c6
      by_cases c7 : x5_1.length < 4398046511104
      rotate_left
      · rw [if_neg c7] at H
        exact absurd H (by simp)
      rw [if_pos c7] at H; have LMc7 := Aside0.mk c7; clear c7
      obtain ⟨y184, hy184⟩ : ∃ y_ : List (S84), y_ = (x5_1 ++ [(⟨t177, t178, t179⟩ : S84)]) := ⟨_, rfl⟩
      rw [← hy184] at H; try dsimp only [Option.bind_some] at H
      have Ny184 := Aside0.mk hy184; clear hy184
      replace H := Option.bind_eq_some_iff.mp H
      obtain ⟨t187, A80, H⟩ := H
      replace H : (lexer_Scan.l0 k1 a0 y184 t187) = some (r1, r2, r3) := H
      have A8 := Aside0.mk A80; clear A80
      have H' := Aside0.mk H
      clear H
      go_wp2_with (first | ((with_reducible refine gate_callee (f := 102) rfl ?_); refine zgl 26 Tryz.func102 #[.string a0, .int .i64 x6_1] ?_; (with_reducible refine (lexer_token.calls k1 a0 x6_1 t177 t178 t179 t180 t181 t182 _ A5.out).mono ?_); rintro e w9 ⟨rfl, hb⟩; refine ⟨_, rfl, ?_⟩; replace HO_5 := Aside0.mk (Kd.R_below (zR HO_5) hb); replace HB := Aside0.mk (below_step (zB HB) hb); (try clear hb)) | ((with_reducible refine gate_dst (N := 7) rfl ?_); refine zx 7 #[.int .i64 0, .string (⟨#[]⟩ : ByteArray), .int .i64 0] 84 ?_; intro gb183 hg w10 hbox hb; replace HO_5 := Aside0.mk (Kd.R_below (Kd.R_elderB (zR HO_5) gb183 (Nat.le_of_eq hg.symm)) hb); have BK183 := Aside0.mk (hbox); have GW183 := zG HB hg; have GE183 := zG HB hg; replace HB := Aside0.mk (below_step (zB HB) hb); clear hb hbox hg; obtain ⟨hcz11_0, hcz11_1, hcz11_2⟩ := zc3 BK183; obtain ⟨hfz11_0, hfz11_1, hfz11_2⟩ := zf3 BK183) | ((with_reducible refine gate_builtin (b := .append) (xs := #[.tmp 35, .tmp 37]) rfl ?_); at_builtin; refine Kd.R_append k84 (w0 := w) w.heap.size rfl (.tmp 35) (.tmp 37) 86 84 (.agg #[(.int .i64 0), (.string ⟨#[]⟩), (.int .i64 0)]) 32 rfl Tryz.underlying86 info84 rfl (by decide) (by omega) u5 x5_1 (⟨t177, t178, t179⟩ : S84) [.int .i64 t177, .string t178, .int .i64 t179] (fun k_ => k_ ≠ gb183) (fun _ => False) rfl (by first | (go_simp; done) | (go_simp; rfl)) ?aP (fun _ hk => hk.elim) ?aF ?aO ?aB ?aS ?aL ?_; (case aP => exact k84_mkM _ _ _ (⟨t177, t178, t179⟩ : S84)); (case aB => exact (zB HB)); (case aF => exact (fun k_ hk => Kd.freshB (g := gb183) (o := .cells #[.int .i64 t177, .string t178, .int .i64 t179] 84 (0, 0)) (by refine zL ?_; refine blk_put (cs := #[.int .i64 t177, .string t178, .int .i64 0]) ?_ 2 _ rfl; refine zL ?_; refine blk_put (cs := #[.int .i64 t177, .string (⟨#[]⟩ : ByteArray), .int .i64 0]) ?_ 1 _ rfl; refine zL ?_; refine blk_put (cs := #[.int .i64 0, .string (⟨#[]⟩ : ByteArray), .int .i64 0]) ?_ 0 _ rfl; refine zL ?_; exact BK183.out) k_ hk)); (case aO => exact (by (with_reducible repeat (first | apply Kd.R_alloc | apply Kd.R_drewN | apply Kd.R_drew)); exact Kd.R_mono (Kd.R_far (p := ⟨gb183, 2, none⟩) (Kd.R_far (p := ⟨gb183, 1, none⟩) (Kd.R_far (p := ⟨gb183, 0, none⟩) (Kd.R_mono HO_5.out (fun k_ hk => (⟨hk, hk.2⟩ : _ ∧ k_ ≠ gb183))) (fun _ hk => hk.2) (.int .i64 t177)) (fun _ hk => hk.2) (.string t178)) (fun _ hk => hk.2) (.int .i64 t179)) (fun _ hk => hk.1.2))); (case aS => exact (below_size (zB HB))); (case aL => have := LMc7.out; omega); intro v185 w12 ho hb hg hat; rw [← Ny184.out] at ho; replace BK183 := Aside0.mk (blk_grown (g := gb183) (o := .cells #[.int .i64 t177, .string t178, .int .i64 t179] 84 (0, 0)) (by refine zL ?_; refine blk_put (cs := #[.int .i64 t177, .string t178, .int .i64 0]) ?_ 2 _ rfl; refine zL ?_; refine blk_put (cs := #[.int .i64 t177, .string (⟨#[]⟩ : ByteArray), .int .i64 0]) ?_ 1 _ rfl; refine zL ?_; refine blk_put (cs := #[.int .i64 0, .string (⟨#[]⟩ : ByteArray), .int .i64 0]) ?_ 0 _ rfl; refine zL ?_; exact BK183.out) hg (Kd.R_away HO_5.out (fun _ hk => hk.2))); replace HB := Aside0.mk (hb); have HO186 := Aside0.mk (ho); clear HO_5; clear ho hb hg hat) | ((with_reducible refine gate_callee (f := 101) rfl ?_); refine zgl 22 Tryz.func101 #[.string a0, .int .i64 t180] ?_; (with_reducible refine (lexer_skip.calls k1 a0 t180 t187 _ A8.out).mono ?_); rintro e w' ⟨rfl, ⟨nd, rfl⟩⟩; refine ⟨_, rfl, ?_⟩))
      go_roundg k1
      case measure => have := HK1.out; omega
      case rel => exact ⟨(y184), (t187), zI, H', ⟨by have := HK1.out; omega⟩, ⟨by (with_reducible repeat (first | apply Kd.R_alloc | apply Kd.R_drewN | apply Kd.R_drew)); exact Kd.R_mono HO186.out (fun _ hk => trivial)⟩, ⟨zB HB⟩⟩
    rw [if_neg c6] at H
    have c6b0 : (t181 == 0) = false := beq_eq_false_iff_ne.mpr c6
    have c6b1 : (t181 != 0) = true := bne_iff_ne.mpr c6
    simp only [Option.some.injEq, Prod.mk.injEq] at H
    obtain ⟨rfl, rfl, rfl⟩ := H
    go_wp2_with (first | ((with_reducible refine gate_callee (f := 102) rfl ?_); refine zgl 26 Tryz.func102 #[.string a0, .int .i64 x6_1] ?_; (with_reducible refine (lexer_token.calls k1 a0 x6_1 t177 t178 t179 t180 t181 t182 _ A5.out).mono ?_); rintro e w13 ⟨rfl, hb⟩; refine ⟨_, rfl, ?_⟩; replace HO_5 := Aside0.mk (Kd.R_below (zR HO_5) hb); replace HB := Aside0.mk (below_step (zB HB) hb); (try clear hb)) | ((with_reducible refine gate_dst (N := 7) rfl ?_); refine zx 7 #[.int .i64 0, .string (⟨#[]⟩ : ByteArray), .int .i64 0] 84 ?_; intro gb183 hg w14 hbox hb; replace HO_5 := Aside0.mk (Kd.R_below (Kd.R_elderB (zR HO_5) gb183 (Nat.le_of_eq hg.symm)) hb); have BK183 := Aside0.mk (hbox); have GW183 := zG HB hg; have GE183 := zG HB hg; replace HB := Aside0.mk (below_step (zB HB) hb); clear hb hbox hg; obtain ⟨hcz15_0, hcz15_1, hcz15_2⟩ := zc3 BK183; obtain ⟨hfz15_0, hfz15_1, hfz15_2⟩ := zf3 BK183))
    go_ret3
    exact ⟨_, by first | rfl | (simp [errW_none, errW_some] <;> rfl) | (simp [*, errW_none, errW_some] <;> rfl), by first | exact Kd.R_nil _ _ _ _ _ | exact Kd.N_nil _ _ _ _ _ | exact Kd.V_nil _ _ _ _ _ | exact Kd.Q_nil _ _ _ _ _ | exact Kd.S_nil _ _ _ _ _, by repeat (first | (with_reducible first | exact HB.out | apply below_alloc | apply pw_below_drewN | apply below_drew1 | refine below_set ?_ GE183.out) | exact HB.out)⟩
  rw [if_neg c4] at H
  have c4b0 : decide (x6_1 < (a0.size : Int)) = false := decide_eq_false c4; clear c4
  by_cases c16 : x5_1.length < 4398046511104
  · rw [if_pos c16] at H
    have LMc16 := Aside0.mk c16; clear c16
    obtain ⟨y174, hy174⟩ : ∃ y_ : List (S84), y_ = (x5_1 ++ [(⟨0, (⟨#[]⟩ : ByteArray), (a0.size : Int)⟩ : S84)]) := ⟨_, rfl⟩
    rw [← hy174] at H; try dsimp only [Option.bind_some] at H
    have Ny174 := Aside0.mk hy174; clear hy174
    simp only [Option.some.injEq, Prod.mk.injEq] at H
    obtain ⟨rfl, rfl, rfl⟩ := H
    go_wp2_with (first | ((with_reducible refine gate_builtin (b := .append) (xs := #[.tmp 40, .tmp 44]) rfl ?_); at_builtin; refine Kd.R_append k84 (w0 := w) w.heap.size rfl (.tmp 40) (.tmp 44) 86 84 (.agg #[(.int .i64 0), (.string ⟨#[]⟩), (.int .i64 0)]) 32 rfl Tryz.underlying86 info84 rfl (by decide) (by omega) u5 x5_1 (⟨0, (⟨#[]⟩ : ByteArray), (a0.size : Int)⟩ : S84) [.int .i64 0, .string (⟨#[]⟩ : ByteArray), .int .i64 (a0.size : Int)] (fun _ => True) (fun _ => False) rfl rfl ?aP (fun _ hk => hk.elim) ?aF ?aO ?aB ?aS ?aL ?_; (case aP => exact k84_mkM _ _ _ (⟨0, (⟨#[]⟩ : ByteArray), (a0.size : Int)⟩ : S84)); (case aB => exact (zB HB)); (case aF => exact (fun _ _ => trivial)); (case aO => exact (zR HO_5)); (case aS => exact (below_size (zB HB))); (case aL => have := LMc16.out; omega); intro v175 w17 ho hb hg hat; rw [← Ny174.out] at ho; replace HB := Aside0.mk (hb); have HO176 := Aside0.mk (ho); clear HO_5; clear ho hb hg hat))
    go_ret3
    exact ⟨_, by first | rfl | (simp [errW_none, errW_some] <;> rfl) | (simp [*, errW_none, errW_some] <;> rfl), by (with_reducible repeat (first | apply Kd.R_alloc | apply Kd.R_drewN | apply Kd.R_drew)); exact HO176.out, by repeat (first | (with_reducible first | exact HB.out | apply below_alloc | apply pw_below_drewN | apply below_drew1) | exact HB.out)⟩
  rw [if_neg c16] at H
  exact absurd H (by simp)
end Go.Proofs.YtnphnhkinjppjaaGreatDoor.Q
end

section
set_option maxHeartbeats 8000000
set_option maxRecDepth 100000
namespace Go.Proofs.YtnphnhkinjppjaaGreatDoor.Q
open Go.RowKit Go.Proofs.YtnphnhkinjppjaaGreatDoorW.PrintWords Go.Proofs.YtnphnhkinjppjaaGreatDoorW.PrintLast Go.Proofs.YtnphnhkinjppjaaGreatDoorW.PrintMore
theorem newcur_bad (k : Nat) (s : ByteArray) (L : List (S84)) (e0 at0 : Int) (w : World) (h : lexer_Scan.f k s = some (L, e0, at0)) (he : e0 ≠ 0) :
    Calls Tryz.prog 47 #[.string s] w fun e w' => e = .returned (.tuple #[.pointer none, .int .i64 e0, .int .i64 at0]) ∧ Below w.heap.size w w' := by
  have H := Aside0.mk h
  have c1 : (e0 != 0) = true := bne_iff_ne.mpr he
  clear h he
  go_enter Tryz.func47, Tryz.ntmps47
  go_wp2_with fail
  refine (lexer_Scan.calls k s L e0 at0 w H.out).mono ?_
  rintro e w2 ⟨v, rfl, ho, hb⟩
  have HB := Aside0.mk hb
  clear ho hb
  go_wp2
  go_ret3
  exact ⟨rfl, HB.out⟩
theorem newcur_ok (k : Nat) (s : ByteArray) (L : List (S84)) (at0 : Int) (w : World) (h : lexer_Scan.f k s = some (L, 0, at0)) (hp : L ≠ []) (hL : L.length ≤ 1000000) :
    Calls Tryz.prog 47 #[.string s] w fun e w' => ∃ (w1 : World) (g : Nat), e = .returned (.tuple #[.pointer (some ⟨g, 0, none⟩), .int .i64 0, .int .i64 0]) ∧ IsCur w1 w' g L 0 ∧ Below w.heap.size w w1 ∧ Below w1.heap.size w1 w' := by
  have H := Aside0.mk h
  have HP := Aside0.mk hp
  have HL := Aside0.mk hL
  clear h hp hL
  go_enter Tryz.func47, Tryz.ntmps47
  go_wp2_with fail
  refine (lexer_Scan.calls k s L 0 at0 w H.out).mono ?_
  rintro e w2 ⟨v, rfl, ho, hb⟩
  obtain ⟨A1, c1, hv⟩ := Kd.R_slice ho
  subst hv
  have HC := Aside0.mk (Kd.R_reads' ho).2.2
  have HB := Aside0.mk hb
  clear ho hb
  go_wp2_with fail
  refine (clone_walk w2 A1 c1 L HC.out HP.out HL.out).mono ?_
  rintro e w3 ⟨v, rfl, ho, hb⟩
  obtain ⟨A2, c2, hv⟩ := Kd.R_slice ho
  subst hv
  have HC2 := Aside0.mk (Kd.R_reads' ho).2.2
  have HB2 := Aside0.mk (HB.out.trans (hb.mono HB.out.size))
  clear ho hb HC HB
  go_wp2
  go_ret3
  exact ⟨w3, w3.heap.size, rfl, ⟨A2, c2, heap_alloc_new w3 _, Nat.le_refl _, HC2.out⟩, HB2.out, below_alloc (Below.refl _ _) _⟩
def asset_Parse.l0 : Nat → List (S84) → List S36 → Int → Int → Int → Option (List S36 × Int × Int)
  | 0, _, _, _, _, _ => none
  | k + 1, L, out, i, e, a =>
    if e = 0 then
      if (tokAt L i).f0 = 0 then some (out, e, a)
      else (asset_statement.f k L i e a).bind fun r => if out.length < 1000000 then asset_Parse.l0 k L (out ++ [r.1]) r.2.1 r.2.2.1 r.2.2.2 else none
    else some (out, e, a)
def asset_Parse.f (k : Nat) (s : ByteArray) : Option (List S36 × Int × Int) :=
  (lexer_Scan.f k s).bind fun r =>
    if r.2.1 = 0 then
      (if 0 < r.1.length then (if r.1.length ≤ 1000000 then
        (asset_Parse.l0 k r.1 [] 0 0 0).bind fun q => if q.2.1 = 0 then (asset_Check.f k q.1).bind fun c => (if c = 0 then some (q.1, 0, 0) else some ([], c, 0)) else some ([], q.2.1, q.2.2)
      else none) else none)
    else some ([], r.2.1, r.2.2)
theorem asset_parser_number.mono : ∀ (L : List (S84)) (i e a : Int) (k : Nat), LeO (asset_parser_number.f k L i e a) (asset_parser_number.f (k + 1) L i e a) := fun L i e a k => LeO.bind (lexer_Number.mono _ _) fun r => LeO.refl _
theorem asset_parser_choice.mono : ∀ (L : List (S84)) (i e a : Int) (l : List ByteArray) (k : Nat), LeO (asset_parser_choice.f k L i e a l) (asset_parser_choice.f (k + 1) L i e a l) := fun L i e a l k => LeO.bind (slices_Index_string.mono _ _ _) fun r => LeO.refl _
theorem optOne.mono (k : Nat) (L : List (S84)) (A : S36) (n i e a : Int) : LeO (optOne k L A n i e a) (optOne (k + 1) L A n i e a) := by
  unfold optOne
  exact LeO.ite (LeO.bind (asset_parser_choice.mono _ _ _ _ _ _) fun r => LeO.refl _) (LeO.ite (LeO.bind (asset_parser_choice.mono _ _ _ _ _ _) fun r => LeO.refl _) (LeO.ite (LeO.bind (asset_parser_number.mono _ _ _ _ _) fun r => LeO.refl _) (LeO.ite (LeO.bind (asset_parser_number.mono _ _ _ _ _) fun r => LeO.refl _) (LeO.ite (LeO.refl _) (LeO.ite (LeO.bind (asset_parser_number.mono _ _ _ _ _) fun r => LeO.refl _) (LeO.bind (asset_parser_choice.mono _ _ _ _ _ _) fun r => LeO.bind (asset_parser_number.mono _ _ _ _ _) fun r => LeO.bind (asset_parser_choice.mono _ _ _ _ _ _) fun r => LeO.refl _))))))
theorem optLoop.mono : ∀ (k : Nat) (L : List (S84)) (least : Int) (A : S36) (i e a : Int), LeO (optLoop k L least A i e a) (optLoop (k + 1) L least A i e a) := by
  intro k
  induction k with
  | zero => intro L least A i e a; exact LeO.none _
  | succ k ih =>
    intro L least A i e a
    rw [optLoop, optLoop]
    exact LeO.ite (LeO.ite (LeO.refl _) (LeO.bind (slices_Index_string.mono _ _ _) fun n => LeO.ite (LeO.ite (LeO.refl _) (LeO.ite (LeO.refl _) (LeO.ite (LeO.bind (optOne.mono _ _ _ _ _ _ _) fun r => ih _ _ _ _ _ _) (LeO.refl _)))) (LeO.refl _))) (LeO.refl _)
theorem preOne.mono (k : Nat) (t : S84) (e a : Int) : LeO (preOne k t e a) (preOne (k + 1) t e a) := LeO.ite (LeO.bind (address_ParsePrefix.mono _ _) fun r => LeO.refl _) (LeO.refl _)
theorem asset_statement.mono (k : Nat) (L : List (S84)) (i e a : Int) : LeO (asset_statement.f k L i e a) (asset_statement.f (k + 1) L i e a) := LeO.bind (preOne.mono _ _ _ _) fun x => optLoop.mono _ _ _ _ _ _ _
theorem asset_Parse.mono_l : ∀ (k : Nat) (L : List (S84)) (out : List S36) (i e a : Int), LeO (asset_Parse.l0 k L out i e a) (asset_Parse.l0 (k + 1) L out i e a) := by
  intro k
  induction k with
  | zero => intro L out i e a; exact LeO.none _
  | succ k ih =>
    intro L out i e a
    rw [asset_Parse.l0, asset_Parse.l0]
    exact LeO.ite (LeO.ite (LeO.refl _) (LeO.bind (asset_statement.mono _ _ _ _ _) fun r => LeO.ite (ih _ _ _ _ _) (LeO.refl _))) (LeO.refl _)
theorem asset_Parse.mono : ∀ s k, LeO (asset_Parse.f k s) (asset_Parse.f (k + 1) s) := fun s k => LeO.bind (lexer_Scan.mono _ _) fun r => LeO.ite (LeO.ite (LeO.ite (LeO.bind (asset_Parse.mono_l _ _ _ _ _ _) fun q => LeO.ite (LeO.bind (asset_Check.mono _ _) fun c => LeO.refl _) (LeO.refl _)) (LeO.refl _)) (LeO.refl _)) (LeO.refl _)
theorem PosIn.stmt {k : Nat} {L : List (S84)} {i e a : Int} {A : S36} {i' e' a' : Int} (h : PosIn L i) (hf : asset_statement.f k L i e a = some (A, i', e', a')) : PosIn L i' := by
  have hone : ∀ (k : Nat) (A : S36) (n i e a : Int) (r : S36 × Int × Int × Int), PosIn L i → optOne k L A n i e a = some r → PosIn L r.2.1 := by
    intro k A n i e a r hi hr
    unfold optOne at hr
    repeat' split at hr
    all_goals first
      | (obtain ⟨⟨m, x⟩, h1, h2⟩ := Option.bind_eq_some_iff.1 hr
         have h2 := Option.some.inj h2
         subst h2
         first | exact hi.choice h1 | exact hi.number h1)
      | (have h2 := Option.some.inj hr; subst h2; exact hi)
      | (obtain ⟨⟨m1, x1⟩, h1, h2⟩ := Option.bind_eq_some_iff.1 hr
         obtain ⟨⟨m2, x2⟩, h3, h4⟩ := Option.bind_eq_some_iff.1 h2
         obtain ⟨⟨m3, x3⟩, h5, h6⟩ := Option.bind_eq_some_iff.1 h4
         first
           | (have h6 := Option.some.inj h6
              subst h6
              exact ((hi.choice h1).number h3).choice h5)
           | cases h6
           | (split at h6
              · have h6 := Option.some.inj h6
                subst h6
                exact ((hi.choice h1).number h3).choice h5
              · cases h6))
  have hloop : ∀ (k : Nat) (least : Int) (A : S36) (i e a : Int) (r : S36 × Int × Int × Int), PosIn L i → optLoop k L least A i e a = some r → PosIn L r.2.1 := by
    intro k
    induction k with
    | zero => intro least A i e a r _ hr; simp [optLoop] at hr
    | succ k ih =>
      intro least A i e a r hi hr
      rw [optLoop] at hr
      split at hr
      · split at hr
        · have hr := Option.some.inj hr
          subst hr
          show PosIn L (isNx L i 4 ⟨#[59]⟩)
          unfold isNx
          split <;> first | exact hi.nxt | exact hi
        · obtain ⟨n, hn, hr⟩ := Option.bind_eq_some_iff.1 hr
          split at hr
          · split at hr
            · have hr := Option.some.inj hr; subst hr; exact hi.word
            · split at hr
              · have hr := Option.some.inj hr; subst hr; exact hi.word
              · split at hr
                · obtain ⟨q, hq, hr⟩ := Option.bind_eq_some_iff.1 hr
                  exact ih _ _ _ _ _ _ (hone _ _ _ _ _ _ _ hi.word hq) hr
                · cases hr
          · have hr := Option.some.inj hr; subst hr; exact hi.word
      · have hr := Option.some.inj hr; subst hr; exact hi
  unfold asset_statement.f at hf
  obtain ⟨x, hx, hf⟩ := Option.bind_eq_some_iff.1 hf
  refine hloop _ _ _ _ _ _ _ ?_ hf
  have h1 : PosIn L (hostOne L i e a).1 := by unfold hostOne; split <;> exact h.word
  exact (h1.word).word
structure ParI (k gg : Nat) (L : List (S84)) (out : List S36) (i e a : Int) (q : List S36 × Int × Int) : Prop where
  val : asset_Parse.l0 gg L out i e a = some q
  pos : PosIn L i
structure ParW (w1 wr : World) (p c : Nat) (L : List (S84)) (out : List S36) (v : Value) (i e a : Int) : Prop where
  par : IsPar w1 wr p c L i e a
  bel : Below w1.heap.size w1 wr
  out : Kd.R k36 36 wr w1.heap.size (fun k => k ≠ p ∧ k ≠ c) v out
theorem ParW.below {w1 wr w2 : World} {p c : Nat} {L : List (S84)} {out : List S36} {v : Value} {i e a : Int} (h : ParW w1 wr p c L out v i e a) (hb : Below wr.heap.size wr w2) : ParW w1 w2 p c L out v i e a :=
  ⟨h.par.below hb, below_then h.bel h.bel.size hb, Kd.R_below h.out hb⟩
theorem ParI.cases {k gg : Nat} {L : List (S84)} {out : List S36} {i e a : Int} {q : List S36 × Int × Int} (h : ParI k gg L out i e a q) : ∃ g, gg = g + 1 ∧ ((¬ e = 0 ∧ (out, e, a) = q) ∨ (e = 0 ∧ (((tokAt L i).f0 = 0 ∧ (out, e, a) = q) ∨ (¬ (tokAt L i).f0 = 0 ∧ out.length < 1000000 ∧ ∃ A i' e' a', asset_statement.f g L i e a = some (A, i', e', a') ∧ ParI k g L (out ++ [A]) i' e' a' q)))) := by
  have hv := h.val
  cases gg with
  | zero => simp [asset_Parse.l0] at hv
  | succ g =>
    refine ⟨g, rfl, ?_⟩
    rw [asset_Parse.l0] at hv
    split at hv
    · rename_i h0
      refine .inr ⟨h0, ?_⟩
      split at hv
      · rename_i h1
        exact .inl ⟨h1, Option.some.inj hv⟩
      · rename_i h1
        obtain ⟨⟨A, i', e', a'⟩, hs, hv⟩ := Option.bind_eq_some_iff.1 hv
        split at hv
        · rename_i h2
          exact .inr ⟨h1, h2, A, i', e', a', hs, hv, h.pos.stmt hs⟩
        · cases hv
    · rename_i h0
      exact .inl ⟨h0, Option.some.inj hv⟩
theorem ParW.append {w1 w2 w3 : World} {p c : Nat} {L : List (S84)} {out : List S36} {v v1 : Value} {i e a : Int} {A : S36} (hp : IsPar w1 w2 p c L i e a) (hb : Below w1.heap.size w1 w2) (ho : Kd.R k36 36 w2 w1.heap.size (fun k => k ≠ p ∧ k ≠ c) v out)
    (hn : Kd.R k36 36 w3 w1.heap.size (fun k => k ≠ p ∧ k ≠ c) v1 (out ++ [A])) (hb3 : Below w1.heap.size w1 w3) (hg : w2.grownBy w3 v.ownBlock) : ParW w1 w3 p c L (out ++ [A]) v1 i e a := by
  have hne : ∀ (b : Nat) (cs : Array Value) (t : TypeId), w2.heap[b]? = some (.cells cs t (0, 0)) → 36 ≠ t → some b ≠ v.ownBlock := fun b cs t hb ht => Kd.R_ne ho hb ht
  obtain ⟨h1, h2, h3⟩ := hp
  obtain ⟨A0, c0, h4, h5, h6⟩ := h3
  exact ⟨⟨blk_grown h1 hg (hne _ _ _ h1 (by decide)), h2, A0, c0, blk_grown h4 hg (hne _ _ _ h4 (by decide)), h5, h6⟩, hb3, hn⟩
theorem infoA : (Tryz.prog.info? 36).map (fun i => (i.zero, i.size, i.bytes)) = some (some (.agg (assetCells z36 (.slice none 0 0))), 12, 120) := by kernel_rfl
theorem parse_ok (k : Nat) (s : ByteArray) (L : List (S84)) (at0 : Int) (q : List S36 × Int × Int) (r1 : List S36) (r2 r3 : Int) (w : World) (hs : lexer_Scan.f k s = some (L, 0, at0)) (h0 : 0 < L.length) (h1 : L.length ≤ 1000000) (hq : asset_Parse.l0 k L [] 0 0 0 = some q)
    (hr : (if q.2.1 = 0 then (asset_Check.f k q.1).bind fun c => (if c = 0 then some (q.1, (0 : Int), (0 : Int)) else some ([], c, 0)) else some ([], q.2.1, q.2.2)) = some (r1, r2, r3)) (hW : WOK w) :
    Calls Tryz.prog 21 #[.string s] w fun e w' => ∃ v0_ : Value, e = .returned (.tuple #[v0_, .int .i64 r2, .int .i64 r3]) ∧ Kd.R k36 36 w' w.heap.size (fun _ => True) v0_ r1 ∧ Below w.heap.size w w' := by
  have hu := Tryz.underlying36
  have hu2 := Tryz.underlying82
  have hfd : ∀ (t : S84) (w' : World), (Instr.field 84 (tokV t) 0).run Tryz.prog w' = .ok (.int .i64 t.f0) w' := fun _ _ => by kernel_rfl
  have HS := Aside0.mk hs
  have HL : Aside0 (L ≠ [] ∧ L.length ≤ 1000000) := ⟨List.length_pos_iff.1 h0, h1⟩
  have HQ : Aside0 (ParI k k L [] 0 0 0 q) := ⟨⟨hq, by omega, by omega, h1⟩⟩
  have HR := Aside0.mk hr
  have HW := Aside0.mk hW
  clear hs h0 h1 hq hr hW
  go_enter Tryz.func21, Tryz.ntmps21
  go_wp2_with fail
  refine (newcur_ok k s L at0 w HS.out HL.out.1 HL.out.2).mono ?_
  rintro e w2 ⟨w1, c, rfl, hc, hb1, hb2⟩
  have HB1 := Aside0.mk hb1
  have HW1 := Aside0.mk (HW.out.below hb1)
  have HP : Aside0 (IsPar w1 (w2.alloc (.cells #[.pointer (some ⟨c, 0, none⟩), .int .i64 0, .int .i64 0] 82)) w2.heap.size c L 0 0 0) := ⟨heap_alloc_new _ _, hb2.size, hc.alloc _⟩
  have HB2 := Aside0.mk (below_alloc hb2 (.cells #[.pointer (some ⟨c, 0, none⟩), .int .i64 0, .int .i64 0] 82))
  clear hc hb1 hb2
  go_upto_region 6 with (fail)
  obtain ⟨p, hpp⟩ : ∃ x, w2.heap.size = x := ⟨_, rfl⟩
  rw [hpp] at HP
  simp only [hpp]
  clear hpp
  generalize w2.alloc (.cells #[.pointer (some ⟨c, 0, none⟩), .int .i64 0, .int .i64 0] 82) = W3 at HP HB2 ⊢
  have HPW : Aside0 (ParW w1 W3 p c L [] (.slice none 0 0) 0 0 0) := ⟨HP.out, HB2.out, Kd.R_nil _ _ _ _ _⟩
  clear HP HB2
  go_loopg [9] k (fun gg v9 wr => ∃ (out : List S36) (Ao : Option Addr) (co : Nat) (i e a : Int), v9 = .slice Ao out.length co ∧ Aside0 (ParI k gg L out i e a q) ∧ Aside0 (ParW w1 wr p c L out (.slice Ao out.length co) i e a))
  case atStart => exact ⟨[], none, 0, 0, 0, 0, rfl, HQ, HPW⟩
  case round =>
    clear HQ HPW
    obtain ⟨out, Ao, co, i, e, a, rfl, HI, HPW⟩ := hrel
    obtain ⟨g, hg, hcs⟩ := HI.out.cases
    have HCS := Aside0.mk hcs
    have HPOS := Aside0.mk HI.out.pos
    clear hcs HI
    rcases HCS.out with ⟨he, hqq⟩ | ⟨he, hcs⟩
    · have HE : Aside0 ((([] : List S36), e, a) = (r1, r2, r3)) := ⟨by have h := HR.out; rw [← hqq] at h; exact Option.some.inj ((if_neg he).symm.trans h)⟩
      have b1 : (e == 0) = false := beq_eq_false_iff_ne.mpr he
      have b2 : (e != 0) = true := bne_iff_ne.mpr he
      clear he hqq hg HCS
      obtain ⟨x0, x1, x2⟩ := HPW.out.par.cells
      go_wp2
      go_quiet (fail)
      go_wp2
      go_ret3
      have hz := HE.out
      simp only [Prod.mk.injEq] at hz
      obtain ⟨rfl, rfl, rfl⟩ := hz
      exact ⟨.slice none 0 0, rfl, Kd.R_nil _ _ _ _ _, pw_below_drewN (HB1.out.trans (HPW.out.bel.mono HB1.out.size)) _⟩
    · have b1 : (e == 0) = true := beq_iff_eq.mpr he
      have b2 : (e != 0) = false := by rw [he]; rfl
      have HC2 := Aside0.mk hcs
      have HE0 := Aside0.mk he
      clear hcs he HCS
      obtain ⟨x0, x1, x2⟩ := HPW.out.par.cells
      go_wp2_with fail
      refine (peek_walk w1 wr c L i HPW.out.par.cur HPW.out.bel HPOS.out.ge HPOS.out.lt).mono ?_
      rintro e5 w5 ⟨rfl, hb⟩
      clear x0 x1 x2
      replace HPW := Aside0.mk (HPW.out.below hb)
      clear hb
      rcases HC2.out with ⟨hk, hqq⟩ | ⟨hk, hlen, A, i', e', a', hst, hI⟩
      · have b3 : ((tokAt L i).f0 != 0) = false := by rw [hk]; rfl
        have hrr := HR.out
        rw [← hqq] at hrr
        replace hrr := (if_pos HE0.out).symm.trans hrr
        obtain ⟨cc, hcc, hrr⟩ := Option.bind_eq_some_iff.1 hrr
        have HCC := Aside0.mk hcc
        have HRR := Aside0.mk hrr
        clear hk hqq hcc hrr hg HC2
        obtain ⟨x0, x1, x2⟩ := HPW.out.par.cells
        go_wp2_with fail
        refine (asset_Check.calls k Ao co out cc w5 (Kd.R_reads' HPW.out.out).2.2 (Kd.R_reads' HPW.out.out).2.1 HCC.out).mono ?_
        rintro e w6 ⟨rfl, hb⟩
        clear x0 x1 x2
        have HPW6 := Aside0.mk (HPW.out.below hb)
        clear hb
        by_cases hcc : cc = 0
        · have b9 : (cc != 0) = false := by rw [hcc]; rfl
          have HZ : Aside0 ((out, (0 : Int), (0 : Int)) = (r1, r2, r3)) := ⟨Option.some.inj ((if_pos hcc).symm.trans HRR.out)⟩
          clear hcc
          go_wp2
          go_ret3
          have hz := HZ.out
          simp only [Prod.mk.injEq] at hz
          obtain ⟨rfl, rfl, rfl⟩ := hz
          exact ⟨_, rfl, Kd.R_lower (Kd.R_mono HPW6.out.out (fun _ _ => trivial)) HB1.out.size, HB1.out.trans (HPW6.out.bel.mono HB1.out.size)⟩
        · have b9 : (cc != 0) = true := bne_iff_ne.mpr hcc
          have HZ : Aside0 ((([] : List S36), cc, (0 : Int)) = (r1, r2, r3)) := ⟨Option.some.inj ((if_neg hcc).symm.trans HRR.out)⟩
          clear hcc
          go_wp2
          go_ret3
          have hz := HZ.out
          simp only [Prod.mk.injEq] at hz
          obtain ⟨rfl, rfl, rfl⟩ := hz
          exact ⟨.slice none 0 0, rfl, Kd.R_nil _ _ _ _ _, HB1.out.trans (HPW6.out.bel.mono HB1.out.size)⟩
      · have b3 : ((tokAt L i).f0 != 0) = true := bne_iff_ne.mpr hk
        have HST := Aside0.mk hst
        have HI2 := Aside0.mk hI
        have HLEN := Aside0.mk hlen
        have HGG := Aside0.mk hg
        clear hk hst hI hlen hg HC2
        have HOLD : Aside0 ((∀ k, (Value.slice Ao out.length co).ownBlock = some k → k < w5.heap.size) ∧ p < w5.heap.size ∧ c < w5.heap.size ∧ w1.heap.size ≤ w5.heap.size) := ⟨fun k hk => ((Kd.R_bound HPW.out.out).1 k hk).2.2.1, HPW.out.par.lt, HPW.out.par.cur.lt, HPW.out.bel.size⟩
        go_wp2_with fail
        refine (statement_walk g w1 w5 p c L i e a A i' e' a' HPW.out.par HPW.out.bel HPOS.out HW1.out HST.out).mono ?_
        rintro r7 w7 ⟨v7, rfl, ho, hi, hb, hk⟩
        obtain ⟨A7, c7, hv⟩ := Kd.R_slice ho
        subst hv
        have HO7 := Aside0.mk (Kd.R_kept HPW.out.out hk (fun k hk' => by rintro (h | h); exact hk'.1 h; exact hk'.2 h))
        have HI7 := Aside0.mk hi
        have HB7 := Aside0.mk hb
        have HR7 := Aside0.mk (Kd.R_lower (Kd.R_mono (Kd.R_bound ho) (fun k hk => hk.2.1)) HOLD.out.2.2.2)
        have HS7 := Aside0.mk hk.1
        clear ho hi hb hk HPW
        go_wp2_with (at_builtin; refine Kd.R_append k36 (w0 := w1) w1.heap.size rfl (.tmp 35) (.tmp 38) 22 36 (.agg (assetCells z36 (.slice none 0 0))) 120 rfl Tryz.underlying22 infoA rfl (by decide) (by omega) (.slice Ao out.length co) out A (assetCells A (.slice A7 A.f8.length c7)).toList (fun k => k ≠ p ∧ k ≠ c) (fun k => w5.heap.size ≤ k) rfl (by go_simp) (k36_mkM _ _ _ A HR7.out) ?aP ?aF HO7.out HB7.out HB7.out.size ?aL ?_)
        case aP => exact fun k hk => ⟨⟨by have := HOLD.out.2; omega, by have := HOLD.out.2; omega⟩, fun he => by have := HOLD.out.1 k he.symm; omega⟩
        case aF => exact fun k hk => ⟨by have := HI7.out.lt; omega, by have := HI7.out.cur.lt; omega⟩
        case aL => have := HLEN.out; omega
        intro v1 w8 ho hb1 hgr hat
        obtain ⟨A8, c8, hv⟩ := Kd.R_slice ho
        subst hv
        have HZ := Aside0.mk (ParW.append HI7.out HB7.out HO7.out ho hb1 hgr)
        clear ho hb1 hgr hat
        obtain ⟨n8, hn8⟩ : ∃ x, (out ++ [A]).length = x := ⟨_, rfl⟩
        rw [hn8]
        have HN8 := Aside0.mk hn8
        clear hn8
        go_wp2
        have hg := HGG.out
        clear HGG
        subst hg
        go_roundg g
        case measure => exact Nat.lt_succ_self g
        case rel => exact ⟨out ++ [A], A8, c8, i', e', a', by rw [HN8.out], HI2, HZ⟩
theorem parse_bad (k : Nat) (s : ByteArray) (L : List (S84)) (e0 at0 : Int) (w : World) (hs : lexer_Scan.f k s = some (L, e0, at0)) (he : e0 ≠ 0) :
    Calls Tryz.prog 21 #[.string s] w fun e w' => e = .returned (.tuple #[.slice none 0 0, .int .i64 e0, .int .i64 at0]) ∧ Below w.heap.size w w' := by
  have HS := Aside0.mk hs
  have HE := Aside0.mk he
  have b1 : (e0 != 0) = true := bne_iff_ne.mpr he
  clear hs he
  go_enter Tryz.func21, Tryz.ntmps21
  go_wp2_with fail
  refine (newcur_bad k s L e0 at0 w HS.out HE.out).mono ?_
  rintro e w2 ⟨rfl, hb⟩
  have HB := Aside0.mk hb
  clear hb
  go_wp2
  go_ret3
  exact ⟨rfl, HB.out⟩
theorem asset_Parse.calls (k : Nat) (s : ByteArray) (r1 : List S36) (r2 r3 : Int) (w : World) (h : asset_Parse.f k s = some (r1, r2, r3)) (hW_ : WOK w) :
    Calls Tryz.prog 21 #[.string s] w fun e w' => ∃ v0_ : Value, e = .returned (.tuple #[v0_, .int .i64 r2, .int .i64 r3]) ∧ Kd.R k36 36 w' w.heap.size (fun _ => True) v0_ r1 ∧ Below w.heap.size w w' := by
  unfold asset_Parse.f at h
  obtain ⟨⟨L, e0, at0⟩, hs, h⟩ := Option.bind_eq_some_iff.1 h
  split at h
  · rename_i he
    change e0 = 0 at he
    subst he
    split at h
    · rename_i h0
      split at h
      · rename_i h1
        obtain ⟨q, hq, hr⟩ := Option.bind_eq_some_iff.1 h
        exact parse_ok k s L at0 q r1 r2 r3 w hs h0 h1 hq hr hW_
      · cases h
    · cases h
  · rename_i he
    simp only [Option.some.injEq, Prod.mk.injEq] at h
    obtain ⟨rfl, rfl, rfl⟩ := h
    refine (parse_bad k s L e0 at0 w hs he).mono ?_
    rintro e w' ⟨rfl, hb⟩
    exact ⟨_, rfl, Kd.R_nil _ _ _ _ _, hb⟩
structure TabW (w0 W : World) (p : Nat) (l : List S36) (v : Value) : Prop where
  blk : W.heap[p]? = some (.cells #[v] 93 (0, 0))
  bel : Below w0.heap.size w0 W
  ge : w0.heap.size ≤ p
  out : Kd.R k36 36 W w0.heap.size (fun k => k ≠ p) v l
theorem TabW.below {w0 W W1 : World} {p : Nat} {l : List S36} {v : Value} (h : TabW w0 W p l v) (hb : Below W.heap.size W W1) : TabW w0 W1 p l v := ⟨blk_below h.blk hb, below_then h.bel h.bel.size hb, h.ge, Kd.R_below h.out hb⟩
def asset_New.f (k : Nat) (l : List S36) : Option (Option (List S36) × Int) :=
  (asset_Check.f k l).bind fun c => if c = 0 then (if l.length ≤ 1000 ∧ (l.all fun a => decide (a.f8.length < 1000000)) = true then some (some l, 0) else none) else some (none, c)
theorem tab_get {l : List S36} {j : Nat} (h : j < l.length) : rd_T36 l (j : Int) = l[j] := by unfold rd_T36; rw [Int.toNat_natCast, List.getD_eq_getElem?_getD, List.getElem?_eq_getElem h]; rfl
theorem tab_mem {l : List S36} {j : Nat} (h : j < l.length) : rd_T36 l (j : Int) ∈ l := by rw [tab_get h]; exact List.getElem_mem h
theorem tab_take {l : List S36} {j : Nat} (h : j < l.length) : l.take (j + 1) = l.take j ++ [rd_T36 l (j : Int)] := by rw [tab_get h]; exact (List.take_append_getElem h).symm
theorem new_ok (k : Nat) (A : Option Addr) (c : Nat) (l : List S36) (w : World) (hC : Kd.C k36 w A l.length l) (hc : l.length ≤ c) (h : asset_Check.f k l = some 0) (hl : l.length ≤ 1000) (hs : ∀ a ∈ l, a.f8.length < 1000000) :
    Calls Tryz.prog 25 #[.slice A l.length c] w fun e w' => ∃ w1 p v, e = .returned (.tuple #[.pointer (some ⟨p, 0, none⟩), .int .i64 0]) ∧ Below w.heap.size w w1 ∧ TabW w1 w' p l v := by
  have hu := Tryz.underlying36
  have hu2 := Tryz.underlying93
  have HC := Aside0.mk hC
  have HCC := Aside0.mk hc
  have HL := Aside0.mk hl
  have HS := Aside0.mk hs
  have HCK := Aside0.mk (asset_Check.calls k A c l 0 w hC hc h)
  obtain ⟨n, hn⟩ : ∃ n, l.length = n := ⟨_, rfl⟩
  rw [hn] at HCK HL ⊢
  have HN := Aside0.mk hn
  clear hC hc h hl hs hn
  go_enter Tryz.func25, Tryz.ntmps25
  go_wp2_with fail
  refine HCK.out.mono ?_
  rintro e w2 ⟨rfl, hb2⟩
  have HB2 := Aside0.mk hb2
  clear hb2
  go_upto_region 6 with (fail)
  have HT : Aside0 (TabW w2 (w2.alloc (.cells #[.slice none 0 0] 93)) w2.heap.size (l.take 0) (.slice none 0 0)) := ⟨heap_alloc_new _ _, below_alloc (Below.refl _ _) _, Nat.le_refl _, Kd.R_nil _ _ _ _ _⟩
  obtain ⟨p, hp⟩ : ∃ x, w2.heap.size = x := ⟨_, rfl⟩
  simp only [hp] at HT ⊢
  clear hp
  change Code.wp _ _ _ _ (w2.alloc (.cells #[.slice none 0 0] 93))
  generalize w2.alloc (.cells #[.slice none 0 0] 93) = W0 at HT ⊢
  go_loopg [17] (n + 1) (fun gg v17 wr => ∃ (i : Nat) (Ao : Option Addr) (co : Nat), v17 = .int .i64 (i : Int) ∧ Aside0 (gg + i = n + 1 ∧ i ≤ n) ∧ Aside0 (TabW w2 wr p (l.take i) (.slice Ao i co)))
  case atStart => exact ⟨0, none, 0, rfl, ⟨by omega, by omega⟩, HT⟩
  case round =>
    clear HT W0
    obtain ⟨i, Ao, co, rfl, HI, HT⟩ := hrel
    have HB := Aside0.mk (below_then HB2.out HB2.out.size HT.out.bel)
    by_cases hi : i < n
    · have HII := Aside0.mk hi
      have b2 : decide ((i : Int) < (n : Int)) = true := decide_eq_true (by omega)
      have b2' : decide (i < n) = true := decide_eq_true hi
      have b3 : n ≤ 1000000 := by have := HL.out; omega
      obtain ⟨ad, Ab, cb, rfl, k0, k1, k2, k3, k4, k5, k6, k7, k8, k9, k10, k11, kl, kc⟩ := at_T36 (Kd.C_below HC.out HB.out) (i : Int) (by omega) (by rw [HN.out]; omega)
      simp only [Int.toNat_natCast] at k0 k1 k2 k3 k4 k5 k6 k7 k8 k9 k10 k11
      have HTK : Aside0 (l.take (i + 1) = l.take i ++ [rd_T36 l (i : Int)]) := ⟨tab_take (by rw [HN.out]; exact hi)⟩
      have HSM : Aside0 ((rd_T36 l (i : Int)).f8.length < 1000000) := ⟨HS.out _ (tab_mem (by rw [HN.out]; exact hi))⟩
      have HLT : Aside0 ((l.take i).length = i) := ⟨by rw [List.length_take, HN.out]; omega⟩
      obtain ⟨a, ha⟩ : ∃ a, rd_T36 l (i : Int) = a := ⟨_, rfl⟩
      rw [ha] at k0 k1 k2 k3 k4 k5 k6 k7 k8 k9 k10 k11 kl kc HTK HSM
      have HKC := Aside0.mk kc
      clear kl kc ha
      go_upto_region 8 with (fail)
      clear hi
      obtain ⟨ga, hga⟩ : ∃ x, wr.heap.size = x := ⟨_, rfl⟩
      have HA : Aside0 ((wr.alloc (.cells (asC a (.slice Ab a.f8.length cb)) 36)).heap[wr.heap.size]? = some (.cells (asC a (.slice Ab a.f8.length cb)) 36 (0, 0))) := ⟨heap_alloc_new _ _⟩
      rw [hga] at HA
      simp only [hga]
      clear hga k0 k1 k2 k3 k4 k5 k6 k7 k8 k9 k10 k11
      replace HKC := Aside0.mk (Kd.C_below HKC.out (below_alloc (Below.refl _ _) (.cells (asC a (.slice Ab a.f8.length cb)) 36)))
      replace HT := Aside0.mk (HT.out.below (below_alloc (Below.refl _ _) (.cells (asC a (.slice Ab a.f8.length cb)) 36)))
      change Code.wp _ _ _ _ (wr.alloc (.cells (asC a (.slice Ab a.f8.length cb)) 36))
      generalize wr.alloc (.cells (asC a (.slice Ab a.f8.length cb)) 36) = W1 at HA HKC HT ⊢
      obtain ⟨d0, d1, d2, d3, d4, d5, d6, d7, d8, d9, d10, d11⟩ := zc12 HA
      have q0 := zc (Aside0.mk HT.out.blk) 0
      have HOLD : Aside0 ((∀ k, (Value.slice Ao i co).ownBlock = some k → k < W1.heap.size) ∧ p < W1.heap.size ∧ w2.heap.size ≤ W1.heap.size) := ⟨fun k hk => ((Kd.R_bound HT.out.out).1 k hk).2.2.1, blk_lt HT.out.blk, HT.out.bel.size⟩
      clear d0 d1 d2 d3 d4 d5 d6 d7 d8 d9 d10 d11 q0
      refine start_ (n := 12) (S := fun w' => w'.cell? ⟨p, 0, none⟩ = some (.slice Ao i co) ∧ w'.cell? ⟨ga, 0, none⟩ = some (.string a.f0) ∧ w'.cell? ⟨ga, 1, none⟩ = some (.bool a.f1.f0.f0) ∧ w'.cell? ⟨ga, 2, none⟩ = some (.int .u64 a.f1.f0.f1) ∧ w'.cell? ⟨ga, 3, none⟩ = some (.int .u64 a.f1.f0.f2) ∧ w'.cell? ⟨ga, 4, none⟩ = some (.int .i64 a.f1.f1) ∧ w'.cell? ⟨ga, 5, none⟩ = some (.int .i64 a.f2) ∧ w'.cell? ⟨ga, 6, none⟩ = some (.int .i64 a.f3) ∧ w'.cell? ⟨ga, 7, none⟩ = some (.int .i64 a.f4) ∧ w'.cell? ⟨ga, 8, none⟩ = some (.int .i64 a.f5) ∧ w'.cell? ⟨ga, 9, none⟩ = some (.bool a.f6) ∧ w'.cell? ⟨ga, 10, none⟩ = some (.int .i64 a.f7) ∧ w'.cell? ⟨ga, 11, none⟩ = some (.slice Ab a.f8.length cb)) (ds := [8, 11]) #[false, false, false, false, false, false, false, false, false, false, false, false] (by kernel_rfl) rfl rfl ⟨zc (Aside0.mk HT.out.blk) 0, zc (HA) 0, zc (HA) 1, zc (HA) 2, zc (HA) 3, zc (HA) 4, zc (HA) 5, zc (HA) 6, zc (HA) 7, zc (HA) 8, zc (HA) 9, zc (HA) 10, zc (HA) 11⟩ (fun hHeld => ?_)
      replace HT := Aside0.mk (HT.out.below (Below.drew (Below.refl _ _)))
      replace HKC := Aside0.mk (Kd.C_below HKC.out (Below.drew (Below.refl _ _)))
      replace HA : Aside0 (W1.drew.heap[ga]? = some (.cells (asC a (.slice Ab a.f8.length cb)) 36 (0, 0))) := ⟨HA.out⟩
      replace HOLD : Aside0 ((∀ k, (Value.slice Ao i co).ownBlock = some k → k < W1.drew.heap.size) ∧ p < W1.drew.heap.size ∧ w2.heap.size ≤ W1.drew.heap.size) := ⟨HOLD.out⟩
      generalize W1.drew = W2 at HA HKC HT HOLD hHeld ⊢
      refine zp0 0 21 ?_; refine zp0 1 22 ?_; refine zp0 2 23 ?_; refine zp0 3 24 ?_; refine zt0 4 25 hHeld ?_; refine zt0 5 26 hHeld ?_; refine zo0 6 27 (fun K hK => ?_)
      refine zg Tryz.func52 #[.agg (asC a (.slice Ab a.f8.length cb))] ?_
      refine (clone_walk' a Ab cb W2 HKC.out HSM.out).mono ?_
      rintro e w7 ⟨g7, rfl, ho, hb⟩
      refine ⟨_, rfl, ?_⟩
      have HT7 := Aside0.mk (HT.out.below hb)
      have HA7 := Aside0.mk (blk_below HA.out hb)
      have HR7 := Aside0.mk (Kd.R_lower (Kd.R_mono (Kd.R_bound ho) (fun k hk => hk.2.1)) HOLD.out.2.2)
      have HS7 := Aside0.mk hb.size
      clear ho hb HT HA
      refine hK.out _ _ ⟨zc (Aside0.mk HT7.out.blk) 0, zc (HA7) 0, zc (HA7) 1, zc (HA7) 2, zc (HA7) 3, zc (HA7) 4, zc (HA7) 5, zc (HA7) 6, zc (HA7) 7, zc (HA7) 8, zc (HA7) 9, zc (HA7) 10, zc (HA7) 11⟩ (fun hHeld => ?_)
      clear hK K
      refine zn 27 ?_
      refine zo0 7 28 (fun K hK => ?_)
      refine value_ (w1 := ?_) (v := ?_) (by rfl) rfl ?_ ?_
      rotate_left 2
      · go_simp
        constructor
        · rfl
        · rfl
      refine hK.out _ _ ⟨zc (Aside0.mk (blk_alloc HT7.out.blk _)) 0, zc (Aside0.mk (blk_alloc HA7.out _)) 0, zc (Aside0.mk (blk_alloc HA7.out _)) 1, zc (Aside0.mk (blk_alloc HA7.out _)) 2, zc (Aside0.mk (blk_alloc HA7.out _)) 3, zc (Aside0.mk (blk_alloc HA7.out _)) 4, zc (Aside0.mk (blk_alloc HA7.out _)) 5, zc (Aside0.mk (blk_alloc HA7.out _)) 6, zc (Aside0.mk (blk_alloc HA7.out _)) 7, zc (Aside0.mk (blk_alloc HA7.out _)) 8, zc (Aside0.mk (blk_alloc HA7.out _)) 9, zc (Aside0.mk (blk_alloc HA7.out _)) 10, zc (Aside0.mk (blk_alloc HA7.out _)) 11⟩ (fun hHeld => ?_)
      clear hK K
      refine zn 28 ?_
      refine last_ (i := 8) (N := some 29) #[true, true, true, true, true, true, true, true, true, false, false, false] rfl rfl (by kernel_rfl) (by decide) (fun K hK => ?_)
      refine Kd.R_append_step k36 (w0 := w2) w2.heap.size (by rfl) (.tmp 25) (.tmp 28) 22 36 (.agg (assetCells z36 (.slice none 0 0))) 120 rfl Tryz.underlying22 infoA rfl (by decide) (by omega) (.slice Ao i co) (l.take i) a [.string a.f0, .bool a.f1.f0.f0, .int .u64 a.f1.f0.f1, .int .u64 a.f1.f0.f2, .int .i64 a.f1.f1, .int .i64 a.f2, .int .i64 a.f3, .int .i64 a.f4, .int .i64 a.f5, .bool a.f6, .int .i64 a.f7, .slice (some ⟨g7, 0, none⟩) a.f8.length a.f8.length] (fun k => k ≠ p) (fun k => W2.heap.size ≤ k) rfl rfl ?aM ?aP ?aF ?aO ?aB ?aS ?aL ?_
      (case aM => exact k36_mkM _ _ _ a HR7.out)
      (case aP => exact fun k hk => ⟨by have := HOLD.out.2; omega, fun he => by have := HOLD.out.1 k he.symm; omega⟩)
      (case aF => exact fun k hk => by have := HOLD.out.2.1; have := HS7.out; omega)
      (case aO => exact HT7.out.out)
      (case aB => exact HT7.out.bel)
      (case aS => exact HT7.out.bel.size)
      (case aL => have := HLT.out; have := HL.out; have := HII.out; omega)
      intro v1 w8 ho hb1 hgr hat
      obtain ⟨A8, c8, hv⟩ := Kd.R_slice ho
      subst hv
      have HB8 := Aside0.mk (blk_grown HT7.out.blk hgr (Kd.R_ne HT7.out.out HT7.out.blk (by decide)))
      have hf3 : w8.frozen? ⟨p, 0, none⟩ = false := by simp [World.frozen?, HB8.out]
      have hc3 := (blk_cell HB8.out 0)
      have HO8 := Aside0.mk ho
      have HBB8 := Aside0.mk hb1
      clear ho hb1 hgr hat
      have HN8 : Aside0 ((l.take i ++ [a]).length = i + 1) := ⟨by rw [List.length_append, HLT.out]; rfl⟩
      rw [HN8.out]
      refine hK.out _ _ ?_
      clear hK K
      refine zn 29 ?_
      refine zp0 9 30 ?_; refine zp0 10 31 ?_
      refine last_ (i := 11) (N := none) #[true, true, true, true, true, true, true, true, true, true, true, true] rfl rfl (by kernel_rfl) (by decide) (fun K hK => ?_)
      refine skip_ (w1 := ?_) (by rfl) rfl ?_ ?_
      rotate_left
      · go_simp
        rfl
      refine hK.out _ _ ?_
      clear hK K
      refine zd0 ?_
      have HTN : Aside0 (TabW w2 (w8.setCell ⟨p, 0, none⟩ (.slice A8 (i + 1) c8)) p (l.take (i + 1)) (.slice A8 (i + 1) c8)) := ⟨blk_put HB8.out 0 _ rfl, HBB8.out.setCell HT7.out.ge _, HT7.out.ge, by rw [HTK.out]; exact Kd.R_set (by have h := HO8.out; rw [HN8.out] at h; exact h) HB8.out (by decide) 0 _⟩
      have HI1 : Aside0 ((n - i) + (i + 1) = n + 1 ∧ i + 1 ≤ n) := ⟨by have := HII.out; omega, HII.out⟩
      have hi2 : i < n := HII.out
      go_wp2
      go_roundg (n - i)
      case measure => have := HI.out.1; have := HII.out; omega
      case rel => exact ⟨i + 1, A8, c8, by (have := HII.out; go_num), HI1, HTN⟩
    · have HE : Aside0 (l.take i = l) := ⟨List.take_of_length_le (by rw [HN.out]; omega)⟩
      have b2 : decide ((i : Int) < (n : Int)) = false := decide_eq_false (by omega)
      have b2' : decide (i < n) = false := decide_eq_false hi
      go_wp2
      go_ret2
      exact ⟨w2, p, _, rfl, HB2.out, by rw [HE.out] at HT; exact HT.out⟩
theorem new_bad (k : Nat) (A : Option Addr) (c : Nat) (l : List S36) (r : Int) (w : World) (hC : Kd.C k36 w A l.length l) (hc : l.length ≤ c) (h : asset_Check.f k l = some r) (hr : r ≠ 0) :
    Calls Tryz.prog 25 #[.slice A l.length c] w fun e w' => e = .returned (.tuple #[.pointer none, .int .i64 r]) ∧ Below w.heap.size w w' := by
  have HCK := Aside0.mk (asset_Check.calls k A c l r w hC hc h)
  obtain ⟨n, hn⟩ : ∃ n, l.length = n := ⟨_, rfl⟩
  rw [hn] at HCK ⊢
  have b1 : (r != 0) = true := bne_iff_ne.mpr hr
  clear hC hc h hr hn
  go_enter Tryz.func25, Tryz.ntmps25
  go_wp2_with fail
  refine HCK.out.mono ?_
  rintro e w2 ⟨rfl, hb2⟩
  go_wp2
  go_ret2
  exact ⟨rfl, hb2⟩
end Go.Proofs.YtnphnhkinjppjaaGreatDoor.Q
end

section
namespace Go.Proofs.YtnphnhkinjppjaaGreatDoor.Q
open Go.RowKit Go.Proofs.YtnphnhkinjppjaaGreatDoorW.PrintWords Go.Proofs.YtnphnhkinjppjaaGreatDoorW.PrintLast Go.Proofs.YtnphnhkinjppjaaGreatDoorW.PrintMore
def findBest (b0 : Bool) (b1 b2 : Int) : List S36 → S36 → Int → Option (S36)
  | [], best, _ => some best
  | x :: xs, best, bits =>
    if bits < x.f1.f1 then
      (address_Contains.f x.f1.f0.f0 x.f1.f0.f1 x.f1.f0.f2 x.f1.f1 b0 b1 b2).bind fun c =>
        if c = true then findBest b0 b1 b2 xs x x.f1.f1 else findBest b0 b1 b2 xs best bits
    else findBest b0 b1 b2 xs best bits
def asset_Find.f (l : List S36) (b0 : Bool) (b1 b2 : Int) : Option (S36) := findBest b0 b1 b2 l aDef (-1)
def inB (x : S36) (b : Ad) : Bool := decide (x.f1.f0.f0 = b.f0 ∧ subA b (restN x.f1.f0 x.f1.f1) false = x.f1.f0)
theorem GoodA.sub {x : S36} (g : GoodA x) : subA x.f1.f0 (restN x.f1.f0 x.f1.f1) false = x.f1.f0 := by
  have := g.vp
  unfold vpB at this
  simp only [Bool.and_eq_true, decide_eq_true_eq] at this
  exact this.2.2
theorem in_eq {x : S36} (g : GoodA x) (hx : AW x.f1.f0) {b : Ad} (hb : AW b) : address_Contains.f x.f1.f0.f0 x.f1.f0.f1 x.f1.f0.f2 x.f1.f1 b.f0 b.f1 b.f2 = some (inB x b) := by
  unfold inB
  by_cases h : x.f1.f0.f0 = b.f0
  · rw [con_eq hx hb h g.bits.1 g.bits.2.1, g.sub]
    congr 1
    rw [Bool.eq_iff_iff, decide_eq_true_eq, decide_eq_true_eq]
    exact ⟨fun e => ⟨h, e⟩, fun e => e.2⟩
  · rw [con_far h, decide_eq_false (fun e => h e.1)]
theorem rin_ev {x : S36} (g : GoodA x) {b : Ad} (hb : AF b) : Ev (fun k => r06_Contains.f k x.f1.f0.f0 x.f1.f0.f1 x.f1.f0.f2 x.f1.f1 b.f0 b.f1 b.f2) (inB x b) := by
  unfold inB
  by_cases h : x.f1.f0.f0 = b.f0
  · refine ev_to ?_ (rcon_ev hb h g.bits.1 g.bits.2.1)
    rw [Bool.eq_iff_iff, decide_eq_true_eq, decide_eq_true_eq]
    exact ⟨fun e => ⟨h, e⟩, fun e => e.2⟩
  · refine ⟨0, fun k _ => ?_⟩
    rw [decide_eq_false (fun e => h e.1)]
    exact rcon_far h k
def findS (b : Ad) : List S36 → S36 → Int → S36
  | [], best, _ => best
  | x :: xs, best, bits => if bits < x.f1.f1 ∧ inB x b = true then findS b xs x x.f1.f1 else findS b xs best bits
theorem find_eq {b : Ad} (hb : AW b) : ∀ (l : List S36), (∀ x ∈ l, GoodA x ∧ AW x.f1.f0) → ∀ (best : S36) (bits : Int), findBest b.f0 b.f1 b.f2 l best bits = some (findS b l best bits)
  | [], _, best, bits => rfl
  | x :: xs, h, best, bits => by
    have hx := h x (List.mem_cons_self ..)
    have ih := find_eq hb xs (fun y hy => h y (List.mem_cons_of_mem _ hy))
    rw [findBest, findS]
    by_cases h1 : bits < x.f1.f1
    · rw [if_pos h1, in_eq hx.1 hx.2 hb, Option.bind_some]
      by_cases h2 : inB x b = true
      · rw [if_pos h2, if_pos ⟨h1, h2⟩]
        exact ih _ _
      · rw [if_neg h2, if_neg (fun e => h2 e.2)]
        exact ih _ _
    · rw [if_neg h1, if_neg (fun e => h1 e.1)]
      exact ih _ _
theorem findS_spec (b : Ad) : ∀ (l : List S36) (best : S36) (bits : Int), (findS b l best bits = best ∧ ∀ x ∈ l, inB x b = true → x.f1.f1 ≤ bits) ∨ (findS b l best bits ∈ l ∧ inB (findS b l best bits) b = true ∧ bits < (findS b l best bits).f1.f1 ∧ ∀ x ∈ l, inB x b = true → x.f1.f1 ≤ (findS b l best bits).f1.f1)
  | [], best, bits => .inl ⟨rfl, fun x hx => by cases hx⟩
  | x :: xs, best, bits => by
    rw [findS]
    by_cases h : bits < x.f1.f1 ∧ inB x b = true
    · rw [if_pos h]
      right
      rcases findS_spec b xs x x.f1.f1 with ⟨e, h2⟩ | ⟨e, h2, h3, h4⟩
      · rw [e]
        refine ⟨List.mem_cons_self .., h.2, h.1, fun y hy hi => ?_⟩
        rcases List.mem_cons.1 hy with rfl | hy
        · exact Int.le_refl _
        · exact h2 y hy hi
      · refine ⟨List.mem_cons_of_mem _ e, h2, by omega, fun y hy hi => ?_⟩
        rcases List.mem_cons.1 hy with rfl | hy
        · omega
        · exact h4 y hy hi
    · rw [if_neg h]
      rcases findS_spec b xs best bits with ⟨e, h2⟩ | ⟨e, h2, h3, h4⟩
      · left
        refine ⟨e, fun y hy hi => ?_⟩
        rcases List.mem_cons.1 hy with rfl | hy
        · by_cases h5 : bits < y.f1.f1
          · exact absurd ⟨h5, hi⟩ h
          · omega
        · exact h2 y hy hi
      · right
        refine ⟨List.mem_cons_of_mem _ e, h2, h3, fun y hy hi => ?_⟩
        rcases List.mem_cons.1 hy with rfl | hy
        · by_cases h5 : bits < y.f1.f1
          · exact absurd ⟨h5, hi⟩ h
          · omega
        · exact h4 y hy hi
theorem svc_ext {x y : S74} (h0 : x.f0 = y.f0) (h1 : x.f1 = y.f1) (h2 : x.f2 = y.f2) : x = y := by cases x; cases y; simp at h0 h1 h2; simp [h0, h1, h2]
theorem one_bad (X Y : S36) : Ev (fun k => r18_One.j0 k true X.f0 X.f1.f0.f0 X.f1.f0.f1 X.f1.f0.f2 X.f1.f1 X.f2 X.f3 X.f4 X.f5 X.f6 X.f7 X.f8 Y.f0 Y.f1.f0.f0 Y.f1.f0.f1 Y.f1.f0.f2 Y.f1.f1 Y.f2 Y.f3 Y.f4 Y.f5 Y.f6 Y.f7 Y.f8) false := by
  refine Ev.step (f := fun _ => some false) (fun k => ?_) (Ev.now _)
  rw [r18_One.j0, if_pos rfl]
open Classical in
theorem one_loop (X Y : S36) (hl : X.f8.length ≤ 1000) (he : X.f8.length = Y.f8.length) : ∀ (d i : Nat), X.f8.length - i = d → i ≤ X.f8.length → Ev (fun k => r18_One.l0 k (i : Int) X.f0 X.f1.f0.f0 X.f1.f0.f1 X.f1.f0.f2 X.f1.f1 X.f2 X.f3 X.f4 X.f5 X.f6 X.f7 X.f8 Y.f0 Y.f1.f0.f0 Y.f1.f0.f1 Y.f1.f0.f2 Y.f1.f1 Y.f2 Y.f3 Y.f4 Y.f5 Y.f6 Y.f7 Y.f8) (decide (X.f8.drop i = Y.f8.drop i))
  | 0, i, hd, hi => by
    rw [List.drop_of_length_le (by omega), List.drop_of_length_le (by omega), decide_eq_true rfl]
    refine Ev.step (f := fun _ => some true) (fun k => ?_) (Ev.now _)
    rw [r18_One.l0, if_neg (by omega)]
  | d + 1, i, hd, hi => by
    have h : i < X.f8.length := by omega
    have h2 : i < Y.f8.length := by omega
    have ih := one_loop X Y hl he d (i + 1) (by omega) (by omega)
    have ex := sv_get h
    have ey := sv_get h2
    rw [List.drop_eq_getElem_cons h, List.drop_eq_getElem_cons h2]
    obtain ⟨x, hx⟩ : ∃ x, X.f8[i] = x := ⟨_, rfl⟩
    obtain ⟨y, hy⟩ : ∃ y, Y.f8[i] = y := ⟨_, rfl⟩
    rw [hx] at ex ⊢
    rw [hy] at ey ⊢
    by_cases c : x = y
    · subst c
      refine ev_to ?_ (Ev.step (fun k => ?_) ih)
      · rw [Bool.eq_iff_iff, decide_eq_true_eq, decide_eq_true_eq]
        simp
      · rw [r18_One.l0, if_pos (by omega), if_pos (by omega), if_pos (by omega), ex, ey, if_neg (by simp), lx_up (by omega)]
    · rw [decide_eq_false (by simp [c])]
      refine Ev.step (f := fun _ => some false) (fun k => ?_) (Ev.now _)
      rw [r18_One.l0, if_pos (by omega), if_pos (by omega), if_pos (by omega), ex, ey, if_pos ?_]
      by_cases c0 : x.f0 = y.f0
      · by_cases c1 : x.f1 = y.f1
        · have c2 : ¬ x.f2 = y.f2 := fun c2 => c (svc_ext c0 c1 c2)
          simp [c0, c1, c2]
        · simp [c0, c1]
      · simp [c0]
theorem as_ext {X Y : S36} (h0 : X.f0 = Y.f0) (h1 : X.f1 = Y.f1) (h2 : X.f2 = Y.f2) (h3 : X.f3 = Y.f3) (h4 : X.f4 = Y.f4) (h5 : X.f5 = Y.f5) (h6 : X.f6 = Y.f6) (h7 : X.f7 = Y.f7) (h8 : X.f8 = Y.f8) : X = Y := by cases X; cases Y; simp at h0 h1 h2 h3 h4 h5 h6 h7 h8; simp [h0, h1, h2, h3, h4, h5, h6, h7, h8]
theorem px_ext {x y : Px} (h0 : x.f0.f0 = y.f0.f0) (h1 : x.f0.f1 = y.f0.f1) (h2 : x.f0.f2 = y.f0.f2) (h3 : x.f1 = y.f1) : x = y := by obtain ⟨⟨a, b, c⟩, d⟩ := x; obtain ⟨⟨a', b', c'⟩, d'⟩ := y; simp at h0 h1 h2 h3; simp [h0, h1, h2, h3]
theorem ba_ext {s t : ByteArray} (h : s.toList = t.toList) : s = t := by
  rw [ByteArray.toList_eq, ByteArray.toList_eq] at h
  apply ByteArray.ext
  exact Array.toList_inj.1 h
open Classical in
theorem one_eq_ev (X Y : S36) (hl : X.f8.length ≤ 1000) : Ev (fun k => r18_One.f k X.f0 X.f1.f0.f0 X.f1.f0.f1 X.f1.f0.f2 X.f1.f1 X.f2 X.f3 X.f4 X.f5 X.f6 X.f7 X.f8 Y.f0 Y.f1.f0.f0 Y.f1.f0.f1 Y.f1.f0.f2 Y.f1.f1 Y.f2 Y.f3 Y.f4 Y.f5 Y.f6 Y.f7 Y.f8) (decide (X = Y)) := by
  unfold r18_One.f
  have hno : ∀ {p : Prop}, (X = Y → p) → ¬ p → decide (X = Y) = false := fun h1 h2 => decide_eq_false (fun e => h2 (h1 e))
  refine ev_ite (fun c0 => ?_) fun c0 => ev_to (hno (fun e => by rw [e]) c0).symm (one_bad X Y)
  refine ev_ite (fun c1 => ev_to (decide_eq_false (fun e => ?_)).symm (one_bad X Y)) fun c1 => ?_
  · rw [e] at c1; simp at c1
  refine ev_ite (fun c2 => ?_) fun c2 => ev_to (hno (fun e => by rw [e]) c2).symm (one_bad X Y)
  refine ev_ite (fun c3 => ?_) fun c3 => ev_to (hno (fun e => by rw [e]) c3).symm (one_bad X Y)
  refine ev_ite (fun c4 => ?_) fun c4 => ev_to (hno (fun e => by rw [e]) c4).symm (one_bad X Y)
  refine ev_ite (fun c5 => ?_) fun c5 => ev_to (hno (fun e => by rw [e]) c5).symm (one_bad X Y)
  refine ev_ite (fun c6 => ev_to (decide_eq_false (fun e => ?_)).symm (one_bad X Y)) fun c6 => ?_
  · rw [e] at c6; simp at c6
  refine ev_ite (fun c7 => ?_) fun c7 => ev_to (hno (fun e => by rw [e]) c7).symm (one_bad X Y)
  by_cases c8 : X.f8.length = Y.f8.length
  · rw [show ((X.f8.length : Int) != (Y.f8.length : Int)) = false from by rw [c8]; simp]
    have h := one_loop X Y hl c8 _ 0 rfl (by omega)
    refine Ev.step (f := fun k => r18_One.l0 k 0 X.f0 X.f1.f0.f0 X.f1.f0.f1 X.f1.f0.f2 X.f1.f1 X.f2 X.f3 X.f4 X.f5 X.f6 X.f7 X.f8 Y.f0 Y.f1.f0.f0 Y.f1.f0.f1 Y.f1.f0.f2 Y.f1.f1 Y.f2 Y.f3 Y.f4 Y.f5 Y.f6 Y.f7 Y.f8) (fun k => by rw [r18_One.j0, if_neg Bool.false_ne_true]) (ev_to ?_ h)
    rw [List.drop_zero, List.drop_zero, Bool.eq_iff_iff, decide_eq_true_eq, decide_eq_true_eq]
    refine ⟨fun e => ?_, fun e => by rw [e]⟩
    have hp : X.f1 = Y.f1 := by
      simp only [Bool.or_eq_true, Bool.not_eq_true', beq_eq_false_iff_ne, ne_eq, not_or, Classical.not_not] at c1
      exact px_ext c1.1.1 c1.1.2.1 c1.1.2.2 c1.2
    have h6 : X.f6 = Y.f6 := by simpa using c6
    exact as_ext (ba_ext c0) hp c2 c3 c4 c5 h6 c7 e
  · rw [show ((X.f8.length : Int) != (Y.f8.length : Int)) = true from by rw [bne_iff_ne]; omega]
    exact ev_to (hno (fun e => by rw [e]) c8).symm (one_bad X Y)
open Classical in
theorem one_some (X Y : S36) (hl : X.f8.length ≤ 1000) : ∃ v : Bool, (v = true ↔ X = Y) ∧ Ev (fun k => r18_One.f k X.f0 X.f1.f0.f0 X.f1.f0.f1 X.f1.f0.f2 X.f1.f1 X.f2 X.f3 X.f4 X.f5 X.f6 X.f7 X.f8 Y.f0 Y.f1.f0.f0 Y.f1.f0.f1 Y.f1.f0.f2 Y.f1.f1 Y.f2 Y.f3 Y.f4 Y.f5 Y.f6 Y.f7 Y.f8) v := ⟨_, decide_eq_true_iff, one_eq_ev X Y hl⟩
end Go.Proofs.YtnphnhkinjppjaaGreatDoor.Q
end

section
set_option maxHeartbeats 8000000
set_option maxRecDepth 100000
namespace Go.Proofs.YtnphnhkinjppjaaGreatDoor.Q
open Go.RowKit Go.Proofs.YtnphnhkinjppjaaGreatDoorW.PrintWords Go.Proofs.YtnphnhkinjppjaaGreatDoorW.PrintLast Go.Proofs.YtnphnhkinjppjaaGreatDoorW.PrintMore
theorem far12 {w : World} {g h : Nat} {o : Obj} {v0 v1 v2 v3 v4 v5 v6 v7 v8 v9 v10 v11 : Value} (hh : w.heap[h]? = some o) (hne : h ≠ g) : ((((((((((((w.setCell ⟨g, 0, none⟩ v0).setCell ⟨g, 1, none⟩ v1).setCell ⟨g, 2, none⟩ v2).setCell ⟨g, 3, none⟩ v3).setCell ⟨g, 4, none⟩ v4).setCell ⟨g, 5, none⟩ v5).setCell ⟨g, 6, none⟩ v6).setCell ⟨g, 7, none⟩ v7).setCell ⟨g, 8, none⟩ v8).setCell ⟨g, 9, none⟩ v9).setCell ⟨g, 10, none⟩ v10).setCell ⟨g, 11, none⟩ v11).heap[h]? = some o := by
  repeat (refine (Below.heap_setCell _ _ _ _ hne).trans ?_)
  exact hh
structure FindI (w wr : World) (ga gr gb : Nat) (l : List S36) (b0 : Bool) (b1 b2 : Int) (best : S36) (Ab : Option Addr) (cb : Nat) : Prop where
  bel : Below w.heap.size w wr
  adr : wr.heap[ga]? = some (.cells #[.bool b0, .int .u64 b1, .int .u64 b2] 31 (0, 0))
  res : wr.heap[gr]? = some (.cells as0 36 (0, 0))
  bst : wr.heap[gb]? = some (.cells (asC best (.slice Ab best.f8.length cb)) 36 (0, 0))
  svc : Kd.C k74 w Ab best.f8.length best.f8
  sml : best.f8.length < 1000000
theorem FindI.below {w W W1 : World} {ga gr gb : Nat} {l : List S36} {b0 : Bool} {b1 b2 : Int} {best : S36} {Ab : Option Addr} {cb : Nat} (h : FindI w W ga gr gb l b0 b1 b2 best Ab cb) (hb : Below W.heap.size W W1) : FindI w W1 ga gr gb l b0 b1 b2 best Ab cb := ⟨below_then h.bel h.bel.size hb, blk_below h.adr hb, blk_below h.res hb, blk_below h.bst hb, h.svc, h.sml⟩
theorem find_no {b0 : Bool} {b1 b2 : Int} {l : List S36} {i : Nat} {best : S36} {bits : Int} {o : Option (S36)} {a : S36} (hi : i < l.length) (ha : rd_T36 l (i : Int) = a) (h : findBest b0 b1 b2 (l.drop i) best bits = o) (hb : ¬ bits < a.f1.f1) : findBest b0 b1 b2 (l.drop (i + 1)) best bits = o := by
  rw [List.drop_eq_getElem_cons hi, findBest, ← tab_get hi, ha, if_neg hb] at h
  exact h
theorem find_yes {b0 : Bool} {b1 b2 : Int} {l : List S36} {i : Nat} {best : S36} {bits : Int} {r : S36} {a : S36} (hi : i < l.length) (ha : rd_T36 l (i : Int) = a) (h : findBest b0 b1 b2 (l.drop i) best bits = some r) (hb : bits < a.f1.f1) : ∃ c, address_Contains.f a.f1.f0.f0 a.f1.f0.f1 a.f1.f0.f2 a.f1.f1 b0 b1 b2 = some c ∧ (if c = true then findBest b0 b1 b2 (l.drop (i + 1)) a a.f1.f1 else findBest b0 b1 b2 (l.drop (i + 1)) best bits) = some r := by
  rw [List.drop_eq_getElem_cons hi, findBest, ← tab_get hi, ha, if_pos hb] at h
  exact Option.bind_eq_some_iff.mp h
theorem find_ok (w0 w : World) (p : Nat) (l : List S36) (v : Value) (b0 : Bool) (b1 b2 : Int) (r : S36) (hT : TabW w0 w p l v) (hl : l.length ≤ 1000) (hs : ∀ a ∈ l, a.f8.length < 1000000) (h : asset_Find.f l b0 b1 b2 = some r) :
    Calls Tryz.prog 27 #[.pointer (some ⟨p, 0, none⟩), .agg #[.bool b0, .int .u64 b1, .int .u64 b2]] w fun e w' => ∃ v', e = .returned (.agg (asC r v')) ∧ Kd.R k74 74 w' w.heap.size (fun _ => True) v' r.f8 ∧ Below w.heap.size w w' := by
  have hu := Tryz.underlying36
  have hu2 := Tryz.underlying93
  have hu3 := Tryz.underlying33
  have hu4 := Tryz.underlying31
  have hsz : (w.alloc (.cells #[.bool b0, .int .u64 b1, .int .u64 b2] 31)).heap.size = w.heap.size + 1 := by show (w.heap.push _).size = _; rw [Array.size_push]
  have HX : Aside0 ((w.alloc (.cells #[.bool b0, .int .u64 b1, .int .u64 b2] 31)).heap[w.heap.size]? = some (.cells #[.bool b0, .int .u64 b1, .int .u64 b2] 31 (0, 0))) := ⟨heap_alloc_new _ _⟩
  replace HX := Aside0.mk (blk_alloc HX.out (.cells as0 36))
  have HY : Aside0 (((w.alloc (.cells #[.bool b0, .int .u64 b1, .int .u64 b2] 31)).alloc (.cells as0 36)).heap[(w.alloc (.cells #[.bool b0, .int .u64 b1, .int .u64 b2] 31)).heap.size]? = some (.cells as0 36 (0, 0))) := ⟨heap_alloc_new _ _⟩
  have HB := Aside0.mk (below_alloc (below_alloc (Below.refl w.heap.size w) (.cells #[.bool b0, .int .u64 b1, .int .u64 b2] 31)) (.cells as0 36))
  rw [hsz] at HY
  clear hsz
  have HT := Aside0.mk (hT.below HB.out)
  have HT0 := Aside0.mk hT
  have HS := Aside0.mk hs
  have HH := Aside0.mk h
  obtain ⟨Al, cl, hv⟩ := Kd.R_slice hT.out
  subst hv
  obtain ⟨n, hn⟩ : ∃ n, l.length = n := ⟨_, rfl⟩
  have HC := Aside0.mk (Kd.R_reads' HT0.out.out).2.2
  rw [hn] at HT hl
  have HN := Aside0.mk hn
  have HL := Aside0.mk hl
  clear hT h hl hn hs HT0
  go_enter Tryz.func27, Tryz.ntmps27
  go_upto_region 1 with (fail)
  obtain ⟨ga, hga⟩ : ∃ x, w.heap.size = x := ⟨_, rfl⟩
  obtain ⟨gr, hgr⟩ : ∃ x, w.heap.size + 1 = x := ⟨_, rfl⟩
  have HG : Aside0 (w.heap.size ≤ ga ∧ w.heap.size ≤ gr ∧ ga < gr) := ⟨by omega⟩
  rw [hgr] at HY
  simp only [hgr]
  rw [hga] at HX
  simp only [hga]
  clear hgr hga
  change Code.wp _ _ _ _ ((w.alloc (.cells #[.bool b0, .int .u64 b1, .int .u64 b2] 31)).alloc (.cells as0 36))
  generalize (w.alloc (.cells #[.bool b0, .int .u64 b1, .int .u64 b2] 31)).alloc (.cells as0 36) = W1 at HX HY HB HT ⊢
  go_wp2_with fail
  refine (asset_Default.calls _ _ _ _ _ _ _ _ _ _ _ _ W1 rfl).mono ?_
  rintro e W2 ⟨v0, rfl, ho, hb⟩
  replace HT := Aside0.mk (HT.out.below hb)
  obtain ⟨A0, c0, hv0⟩ := Kd.R_slice ho
  subst hv0
  replace HX := Aside0.mk (blk_below HX.out hb)
  replace HY := Aside0.mk (blk_below HY.out hb)
  replace HB := Aside0.mk (below_then HB.out HB.out.size hb)
  have HK0 : Aside0 (Kd.C k74 w A0 aDef.f8.length aDef.f8) := ⟨rfl, by decide, fun h => absurd h (by decide)⟩
  clear ho hb
  have q0 := zc (Aside0.mk (blk_alloc HT.out.blk (.cells (asC aDef (.slice A0 aDef.f8.length c0)) 36))) 0
  go_upto_region 4 with (fail)
  have HD : Aside0 ((W2.alloc (.cells (asC aDef (.slice A0 aDef.f8.length c0)) 36)).heap[W2.heap.size]? = some (.cells (asC aDef (.slice A0 aDef.f8.length c0)) 36 (0, 0))) := ⟨heap_alloc_new _ _⟩
  have HF : Aside0 (FindI w (W2.alloc (.cells (asC aDef (.slice A0 aDef.f8.length c0)) 36)) ga gr W2.heap.size l b0 b1 b2 aDef A0 c0) := ⟨below_alloc HB.out _, blk_alloc HX.out _, blk_alloc HY.out _, HD.out, HK0.out, by decide⟩
  have HG2 : Aside0 (ga < W2.heap.size ∧ gr < W2.heap.size ∧ w.heap.size ≤ W2.heap.size) := ⟨blk_lt HX.out, blk_lt HY.out, HB.out.size⟩
  clear HX HY HB HT HK0 HD
  obtain ⟨gb, hgb⟩ : ∃ x, W2.heap.size = x := ⟨_, rfl⟩
  rw [hgb] at HF HG2
  simp only [hgb]
  clear hgb
  change Code.wp _ _ _ _ (W2.alloc (.cells (asC aDef (.slice A0 aDef.f8.length c0)) 36))
  generalize W2.alloc (.cells (asC aDef (.slice A0 aDef.f8.length c0)) 36) = W3 at HF q0 ⊢
  go_upto_region 5 with (fail)
  clear q0
  go_loopg [6, 18] (n + 1) (fun gg v6 v18 wr => ∃ (i : Nat) (best : S36) (bits : Int) (Ab : Option Addr) (cb : Nat), v18 = .int .i64 (i : Int) ∧ v6 = .int .i64 bits ∧ Aside0 (gg + i = n + 1 ∧ i ≤ n) ∧ Aside0 (findBest b0 b1 b2 (l.drop i) best bits = some r) ∧ Aside0 (FindI w wr ga gr gb l b0 b1 b2 best Ab cb))
  case atStart => exact ⟨0, aDef, -1, A0, c0, rfl, rfl, ⟨by omega, by omega⟩, ⟨HH.out⟩, HF⟩
  case round =>
    clear HF HH W3
    obtain ⟨i, best, bits, Ab, cb, rfl, rfl, HI, HE, HF⟩ := hrel
    by_cases hi : i < n
    · have HII := Aside0.mk hi
      have b1' : decide ((i : Int) < (n : Int)) = true := decide_eq_true (by omega)
      have b2' : decide (i < n) = true := decide_eq_true hi
      have b3 : n ≤ 1000000 := by have := HL.out; omega
      obtain ⟨ad, Ax, cx, rfl, k0, k1, k2, k3, k4, k5, k6, k7, k8, k9, k10, k11, kl, kc⟩ := at_T36 HC.out (i : Int) (by omega) (by rw [HN.out]; omega)
      replace k0 := pw_cell_below HF.out.bel k0
      replace k1 := pw_cell_below HF.out.bel k1
      replace k2 := pw_cell_below HF.out.bel k2
      replace k3 := pw_cell_below HF.out.bel k3
      replace k4 := pw_cell_below HF.out.bel k4
      replace k5 := pw_cell_below HF.out.bel k5
      replace k6 := pw_cell_below HF.out.bel k6
      replace k7 := pw_cell_below HF.out.bel k7
      replace k8 := pw_cell_below HF.out.bel k8
      replace k9 := pw_cell_below HF.out.bel k9
      replace k10 := pw_cell_below HF.out.bel k10
      replace k11 := pw_cell_below HF.out.bel k11
      simp only [Int.toNat_natCast] at k0 k1 k2 k3 k4 k5 k6 k7 k8 k9 k10 k11
      have HSM : Aside0 ((rd_T36 l (i : Int)).f8.length < 1000000) := ⟨HS.out _ (tab_mem (by rw [HN.out]; exact hi))⟩
      obtain ⟨a, ha⟩ : ∃ a, rd_T36 l (i : Int) = a := ⟨_, rfl⟩
      rw [ha] at k0 k1 k2 k3 k4 k5 k6 k7 k8 k9 k10 k11 kl kc HSM
      have HAA := Aside0.mk ha
      have HKC := Aside0.mk kc
      clear kl kc ha
      go_upto_region 7 with (fail)
      clear hi
      obtain ⟨gx, hgx⟩ : ∃ x, wr.heap.size = x := ⟨_, rfl⟩
      have HA : Aside0 ((wr.alloc (.cells (asC a (.slice Ax a.f8.length cx)) 36)).heap[wr.heap.size]? = some (.cells (asC a (.slice Ax a.f8.length cx)) 36 (0, 0))) := ⟨heap_alloc_new _ _⟩
      have HNE : Aside0 (gb ≠ wr.heap.size) := ⟨by have := blk_lt HF.out.bst; omega⟩
      rw [hgx] at HA HNE
      simp only [hgx]
      clear hgx k0 k1 k2 k3 k4 k5 k6 k7 k8 k9 k10 k11
      replace HF := Aside0.mk (HF.out.below (below_alloc (Below.refl _ _) (.cells (asC a (.slice Ax a.f8.length cx)) 36)))
      change Code.wp _ _ _ _ (wr.alloc (.cells (asC a (.slice Ax a.f8.length cx)) 36))
      generalize wr.alloc (.cells (asC a (.slice Ax a.f8.length cx)) 36) = W1 at HA HF ⊢
      obtain ⟨d0, d1, d2, d3, d4, d5, d6, d7, d8, d9, d10, d11⟩ := zc12 HA
      obtain ⟨q0, q1, q2⟩ := zc3 (Aside0.mk HF.out.adr)
      have hi2 : i < n := HII.out
      have HI1 : Aside0 ((n - i) + (i + 1) = n + 1 ∧ i + 1 ≤ n) := ⟨by have := HII.out; omega, HII.out⟩
      by_cases hb : bits < a.f1.f1
      · obtain ⟨c, hc, hcs⟩ := find_yes (by rw [HN.out]; exact hi2) HAA.out HE.out hb
        have HCC := Aside0.mk hc
        have HCS := Aside0.mk hcs
        have g1 : decide (bits < a.f1.f1) = true := decide_eq_true hb
        have g2 : decide (a.f1.f1 > bits) = true := decide_eq_true hb
        clear hc hcs
        go_wp2_with fail
        refine (address_Contains.calls _ _ _ _ _ _ _ c W1 HCC.out).mono ?_
        rintro e w2 ⟨rfl, hb2⟩
        replace HA := Aside0.mk (blk_below HA.out hb2)
        replace HF := Aside0.mk (HF.out.below hb2)
        clear hb2 d0 d1 d2 d3 d4 d5 d6 d7 d8 d9 d10 d11 q0 q1 q2
        cases c
        · have HCS2 : Aside0 (findBest b0 b1 b2 (l.drop (i + 1)) best bits = some r) := ⟨by have h := HCS.out; rwa [if_neg Bool.false_ne_true] at h⟩
          go_wp2
          go_roundg (n - i)
          case measure => have := HI.out.1; have := HII.out; omega
          case rel => exact ⟨i + 1, best, bits, Ab, cb, by (have := HII.out; go_num), rfl, HI1, HCS2, HF⟩
        · have HCS2 : Aside0 (findBest b0 b1 b2 (l.drop (i + 1)) a a.f1.f1 = some r) := ⟨by have h := HCS.out; rwa [if_pos rfl] at h⟩
          go_upto_region 8 with (fail)
          refine start_ (n := 6) (S := fun w' => w'.cell? ⟨gx, 0, none⟩ = some (.string a.f0) ∧ w'.cell? ⟨gx, 1, none⟩ = some (.bool a.f1.f0.f0) ∧ w'.cell? ⟨gx, 2, none⟩ = some (.int .u64 a.f1.f0.f1) ∧ w'.cell? ⟨gx, 3, none⟩ = some (.int .u64 a.f1.f0.f2) ∧ w'.cell? ⟨gx, 4, none⟩ = some (.int .i64 a.f1.f1) ∧ w'.cell? ⟨gx, 5, none⟩ = some (.int .i64 a.f2) ∧ w'.cell? ⟨gx, 6, none⟩ = some (.int .i64 a.f3) ∧ w'.cell? ⟨gx, 7, none⟩ = some (.int .i64 a.f4) ∧ w'.cell? ⟨gx, 8, none⟩ = some (.int .i64 a.f5) ∧ w'.cell? ⟨gx, 9, none⟩ = some (.bool a.f6) ∧ w'.cell? ⟨gx, 10, none⟩ = some (.int .i64 a.f7) ∧ w'.cell? ⟨gx, 11, none⟩ = some (.slice Ax a.f8.length cx)) (ds := []) #[false, false, false, false, false, false] (by kernel_rfl) rfl rfl ⟨zc (HA) 0, zc (HA) 1, zc (HA) 2, zc (HA) 3, zc (HA) 4, zc (HA) 5, zc (HA) 6, zc (HA) 7, zc (HA) 8, zc (HA) 9, zc (HA) 10, zc (HA) 11⟩ (fun hHeld => ?_)
          replace HF := Aside0.mk (HF.out.below (Below.drew (Below.refl _ _)))
          replace HA : Aside0 (w2.drew.heap[gx]? = some (.cells (asC a (.slice Ax a.f8.length cx)) 36 (0, 0))) := ⟨HA.out⟩
          generalize w2.drew = W4 at HA HF hHeld ⊢
          refine zt0 0 33 hHeld ?_; refine zp0 1 34 ?_; refine zp0 2 35 ?_; refine zt0 3 36 hHeld ?_
          have HBST := Aside0.mk HF.out.bst
          obtain ⟨d0, d1, d2, d3, d4, d5, d6, d7, d8, d9, d10, d11⟩ := zc12 HBST
          obtain ⟨f0, f1, f2, f3, f4, f5, f6, f7, f8, f9, f10, f11⟩ := zf12 HBST
          refine one_ (i := 4) (N := none) #[true, true, true, true, true, false] rfl rfl (by kernel_rfl) (by decide) (fun K hK => ?_)
          refine skip_ (w1 := ?_) (by rfl) rfl ?_ ?_
          rotate_left
          · go_simp
            rfl
          have HA4 := Aside0.mk (far12 (v0 := .string a.f0) (v1 := .bool a.f1.f0.f0) (v2 := .int .u64 a.f1.f0.f1) (v3 := .int .u64 a.f1.f0.f2) (v4 := .int .i64 a.f1.f1) (v5 := .int .i64 a.f2) (v6 := .int .i64 a.f3) (v7 := .int .i64 a.f4) (v8 := .int .i64 a.f5) (v9 := .bool a.f6) (v10 := .int .i64 a.f7) (v11 := .slice Ax a.f8.length cx) HA.out (Ne.symm HNE.out))
          refine hK.out _ _ ⟨zc (HA4) 0, zc (HA4) 1, zc (HA4) 2, zc (HA4) 3, zc (HA4) 4, zc (HA4) 5, zc (HA4) 6, zc (HA4) 7, zc (HA4) 8, zc (HA4) 9, zc (HA4) 10, zc (HA4) 11⟩ (fun hHeld => ?_)
          clear hK K d0 d1 d2 d3 d4 d5 d6 d7 d8 d9 d10 d11 f0 f1 f2 f3 f4 f5 f6 f7 f8 f9 f10 f11 HA4
          refine zp0 5 6 ?_
          refine zd0 ?_
          have HF2 : Aside0 (FindI w _ ga gr gb l b0 b1 b2 a Ax cx) := ⟨below12 HF.out.bel (by have := HG2.out; omega), far12 HF.out.adr (by have := HG2.out; omega), far12 HF.out.res (by have := HG2.out; omega), put12 HF.out.bst, HKC.out, HSM.out⟩
          go_wp2
          go_roundg (n - i)
          case measure => have := HI.out.1; have := HII.out; omega
          case rel => exact ⟨i + 1, a, a.f1.f1, Ax, cx, by (have := HII.out; go_num), rfl, HI1, HCS2, HF2⟩
      · have HCS2 := Aside0.mk (find_no (by rw [HN.out]; exact hi2) HAA.out HE.out hb)
        have g1 : decide (bits < a.f1.f1) = false := decide_eq_false hb
        have g2 : decide (a.f1.f1 > bits) = false := decide_eq_false hb
        go_wp2
        go_roundg (n - i)
        case measure => have := HI.out.1; have := HII.out; omega
        case rel => exact ⟨i + 1, best, bits, Ab, cb, by (have := HII.out; go_num), rfl, HI1, HCS2, HF⟩
    · have b1' : decide ((i : Int) < (n : Int)) = false := decide_eq_false (by omega)
      have b2' : decide (i < n) = false := decide_eq_false hi
      have HR : Aside0 (best = r) := ⟨by have h := HE.out; rw [List.drop_of_length_le (by rw [HN.out]; omega), findBest] at h; exact Option.some.inj h⟩
      obtain ⟨d0, d1, d2, d3, d4, d5, d6, d7, d8, d9, d10, d11⟩ := zc12 (Aside0.mk HF.out.bst)
      have HGR : Aside0 (w.heap.size ≤ gr) := ⟨HG.out.2.1⟩
      go_wp2_with fail
      refine (clone_walk' best Ab cb wr (Kd.C_below HF.out.svc HF.out.bel) HF.out.sml).mono ?_
      rintro e w5 ⟨g, rfl, ho, hb⟩
      clear d0 d1 d2 d3 d4 d5 d6 d7 d8 d9 d10 d11
      have HO := Aside0.mk ho
      have HSZ := Aside0.mk HF.out.bel.size
      have HY5 := Aside0.mk (blk_below HF.out.res hb)
      have HB5 := Aside0.mk (below_then HF.out.bel HF.out.bel.size hb)
      clear ho hb HF
      obtain ⟨f0, f1, f2, f3, f4, f5, f6, f7, f8, f9, f10, f11⟩ := zf12 HY5
      obtain ⟨x0, x1, x2, x3, x4, x5, x6, x7, x8, x9, x10, x11⟩ := zc12 HY5
      go_wp2
      refine bodyPost_ret (results_cell_row rfl _ _ gr 36 (asC best (.slice (some ⟨g, 0, none⟩) best.f8.length best.f8.length)) (0, 0) _ rfl (put12 HY5.out) Tryz.underlying36 rfl (by kernel_rfl)) rfl ?_
      refine ⟨.slice (some ⟨g, 0, none⟩) best.f8.length best.f8.length, by rw [HR.out], ?_, below12 HB5.out HGR.out⟩
      rw [← HR.out]
      exact putR HY5.out (Kd.R_lower HO.out HSZ.out)
end Go.Proofs.YtnphnhkinjppjaaGreatDoor.Q
end

section
set_option maxHeartbeats 8000000
set_option maxRecDepth 100000
namespace Go.Proofs.YtnphnhkinjppjaaGreatDoor.Q
open Go.RowKit Go.Proofs.YtnphnhkinjppjaaGreatDoorW.PrintWords Go.Proofs.YtnphnhkinjppjaaGreatDoorW.PrintLast Go.Proofs.YtnphnhkinjppjaaGreatDoorW.PrintMore
attribute [local go_sem] max2_int min2_int max_two min_two max_three min_three max_four min_four
def r18_Default.f  : Option (ByteArray × Bool × Int × Int × Int × Int × Int × Int × Int × Bool × Int × (List (S74))) := some ((⟨#[100, 101, 102, 97, 117, 108, 116]⟩ : ByteArray), false, 0, 0, 0, 1, 1, 0, 8192, false, 1, ([] : List (S74)))
theorem r18_Default.calls  (r1 : ByteArray) (r2 : Bool) (r3 : Int) (r4 : Int) (r5 : Int) (r6 : Int) (r7 : Int) (r8 : Int) (r9 : Int) (r10 : Bool) (r11 : Int) (r12 : List (S74)) (w : World) (h : r18_Default.f  = some (r1, r2, r3, r4, r5, r6, r7, r8, r9, r10, r11, r12)) :
 Calls Tryz.prog 18 #[] w fun e w' => ∃ v11_ : Value, e = .returned (.agg #[.string r1, .bool r2, .int .u64 r3, .int .u64 r4, .int .i64 r5, .int .i64 r6, .int .i64 r7, .int .i64 r8, .int .i64 r9, .bool r10, .int .i64 r11, v11_]) ∧ Kd.R k74 74 w' w.heap.size (fun _ => True) v11_ r12 ∧ Below w.heap.size w w' := by
 have hu36 := Tryz.underlying36
 have HB := Aside0.mk (Below.refl w.heap.size w)
 unfold r18_Default.f at h; have H := h
 clear h
 simp only [Option.some.injEq, Prod.mk.injEq] at H
 obtain ⟨rfl, rfl, rfl, rfl, rfl, rfl, rfl, rfl, rfl, rfl, rfl, rfl⟩ := H
 go_enter Tryz.func18, Tryz.ntmps18
 go_wp2_with (first | ((with_reducible refine gate_dst (N := 0) rfl ?_); refine zx 0 #[.string (⟨#[]⟩ : ByteArray), .bool false, .int .u64 0, .int .u64 0, .int .i64 0, .int .i64 0, .int .i64 0, .int .i64 0, .int .i64 0, .bool false, .int .i64 0, .slice none 0 0] 36 ?_; intro gb391 hg w1 hbox hb; have BK391 := Aside0.mk (hbox); have GW391 := zG HB hg; have GE391 := zG HB hg; replace HB := Aside0.mk (below_step (zB HB) hb); clear hb hbox hg; obtain ⟨hcz2_0, hcz2_1, hcz2_2, hcz2_3, hcz2_4, hcz2_5, hcz2_6, hcz2_7, hcz2_8, hcz2_9, hcz2_10, hcz2_11⟩ := zc12 BK391; obtain ⟨hfz2_0, hfz2_1, hfz2_2, hfz2_3, hfz2_4, hfz2_5, hfz2_6, hfz2_7, hfz2_8, hfz2_9, hfz2_10, hfz2_11⟩ := zf12 BK391))
 refine bodyPost_ret (results_cell_row rfl _ _ gb391 36 #[.string (⟨#[100, 101, 102, 97, 117, 108, 116]⟩ : ByteArray), .bool false, .int .u64 0, .int .u64 0, .int .i64 0, .int .i64 1, .int .i64 1, .int .i64 0, .int .i64 8192, .bool false, .int .i64 1, .slice none 0 0] (0, 0) _ rfl (by refine zL ?_; refine blk_put (cs := #[.string (⟨#[100, 101, 102, 97, 117, 108, 116]⟩ : ByteArray), .bool false, .int .u64 0, .int .u64 0, .int .i64 0, .int .i64 1, .int .i64 1, .int .i64 0, .int .i64 8192, .bool false, .int .i64 1, .slice none 0 0]) ?_ 11 _ rfl; refine zL ?_; refine blk_put (cs := #[.string (⟨#[100, 101, 102, 97, 117, 108, 116]⟩ : ByteArray), .bool false, .int .u64 0, .int .u64 0, .int .i64 0, .int .i64 1, .int .i64 1, .int .i64 0, .int .i64 8192, .bool false, .int .i64 0, .slice none 0 0]) ?_ 10 _ rfl; refine zL ?_; refine blk_put (cs := #[.string (⟨#[100, 101, 102, 97, 117, 108, 116]⟩ : ByteArray), .bool false, .int .u64 0, .int .u64 0, .int .i64 0, .int .i64 1, .int .i64 1, .int .i64 0, .int .i64 8192, .bool false, .int .i64 0, .slice none 0 0]) ?_ 9 _ rfl; refine zL ?_; refine blk_put (cs := #[.string (⟨#[100, 101, 102, 97, 117, 108, 116]⟩ : ByteArray), .bool false, .int .u64 0, .int .u64 0, .int .i64 0, .int .i64 1, .int .i64 1, .int .i64 0, .int .i64 0, .bool false, .int .i64 0, .slice none 0 0]) ?_ 8 _ rfl; refine zL ?_; refine blk_put (cs := #[.string (⟨#[100, 101, 102, 97, 117, 108, 116]⟩ : ByteArray), .bool false, .int .u64 0, .int .u64 0, .int .i64 0, .int .i64 1, .int .i64 1, .int .i64 0, .int .i64 0, .bool false, .int .i64 0, .slice none 0 0]) ?_ 7 _ rfl; refine zL ?_; refine blk_put (cs := #[.string (⟨#[100, 101, 102, 97, 117, 108, 116]⟩ : ByteArray), .bool false, .int .u64 0, .int .u64 0, .int .i64 0, .int .i64 1, .int .i64 0, .int .i64 0, .int .i64 0, .bool false, .int .i64 0, .slice none 0 0]) ?_ 6 _ rfl; refine zL ?_; refine blk_put (cs := #[.string (⟨#[100, 101, 102, 97, 117, 108, 116]⟩ : ByteArray), .bool false, .int .u64 0, .int .u64 0, .int .i64 0, .int .i64 0, .int .i64 0, .int .i64 0, .int .i64 0, .bool false, .int .i64 0, .slice none 0 0]) ?_ 5 _ rfl; refine zL ?_; refine blk_put (cs := #[.string (⟨#[100, 101, 102, 97, 117, 108, 116]⟩ : ByteArray), .bool false, .int .u64 0, .int .u64 0, .int .i64 0, .int .i64 0, .int .i64 0, .int .i64 0, .int .i64 0, .bool false, .int .i64 0, .slice none 0 0]) ?_ 4 _ rfl; refine zL ?_; refine blk_put (cs := #[.string (⟨#[100, 101, 102, 97, 117, 108, 116]⟩ : ByteArray), .bool false, .int .u64 0, .int .u64 0, .int .i64 0, .int .i64 0, .int .i64 0, .int .i64 0, .int .i64 0, .bool false, .int .i64 0, .slice none 0 0]) ?_ 3 _ rfl; refine zL ?_; refine blk_put (cs := #[.string (⟨#[100, 101, 102, 97, 117, 108, 116]⟩ : ByteArray), .bool false, .int .u64 0, .int .u64 0, .int .i64 0, .int .i64 0, .int .i64 0, .int .i64 0, .int .i64 0, .bool false, .int .i64 0, .slice none 0 0]) ?_ 2 _ rfl; refine zL ?_; refine blk_put (cs := #[.string (⟨#[100, 101, 102, 97, 117, 108, 116]⟩ : ByteArray), .bool false, .int .u64 0, .int .u64 0, .int .i64 0, .int .i64 0, .int .i64 0, .int .i64 0, .int .i64 0, .bool false, .int .i64 0, .slice none 0 0]) ?_ 1 _ rfl; refine zL ?_; refine blk_put (cs := #[.string (⟨#[]⟩ : ByteArray), .bool false, .int .u64 0, .int .u64 0, .int .i64 0, .int .i64 0, .int .i64 0, .int .i64 0, .int .i64 0, .bool false, .int .i64 0, .slice none 0 0]) ?_ 0 _ rfl; refine zL ?_; exact BK391.out) Tryz.underlying36 rfl (by kernel_rfl)) rfl ?_
 exact ⟨_, by first | rfl | (simp [errW_none, errW_some] <;> rfl) | (simp [*, errW_none, errW_some] <;> rfl), by first | exact Kd.R_nil _ _ _ _ _ | exact Kd.N_nil _ _ _ _ _ | exact Kd.V_nil _ _ _ _ _ | exact Kd.Q_nil _ _ _ _ _ | exact Kd.S_nil _ _ _ _ _, by repeat (first | (with_reducible first | exact HB.out | apply below_alloc | apply pw_below_drewN | apply below_drew1 | refine below_set ?_ GE391.out) | exact HB.out)⟩
end Go.Proofs.YtnphnhkinjppjaaGreatDoor.Q
end

section
set_option maxHeartbeats 8000000
set_option maxRecDepth 100000
namespace Go.Proofs.YtnphnhkinjppjaaGreatDoor.Q
open Go.RowKit Go.Proofs.YtnphnhkinjppjaaGreatDoorW.PrintWords Go.Proofs.YtnphnhkinjppjaaGreatDoorW.PrintLast Go.Proofs.YtnphnhkinjppjaaGreatDoorW.PrintMore
theorem rnew_ok (k : Nat) (A : Option Addr) (c : Nat) (l : List S36) (w : World) (hC : Kd.C k36 w A l.length l) (hc : l.length ≤ c) (h : r18_Check.f k l = some 0) :
    Calls Tryz.prog 26 #[.slice A l.length c] w fun e w' => ∃ p, e = .returned (.tuple #[.pointer (some ⟨p, 0, none⟩), .int .i64 0]) ∧ w'.heap[p]? = some (.cells #[.slice A l.length c] 96 (0, 0)) ∧ Below w.heap.size w w' ∧ w.heap.size ≤ p := by
  have hu2 := Tryz.underlying96
  have HCK := Aside0.mk (r18_Check.calls k A c l 0 w hC hc h)
  obtain ⟨n, hn⟩ : ∃ n, l.length = n := ⟨_, rfl⟩
  rw [hn] at HCK ⊢
  clear hC hc h hn
  go_enter Tryz.func26, Tryz.ntmps26
  go_wp2_with fail
  refine HCK.out.mono ?_
  rintro e w2 ⟨rfl, hb2⟩
  have HB := Aside0.mk hb2
  clear hb2
  go_wp2
  go_ret2
  exact ⟨_, rfl, heap_alloc_new _ _, below_alloc HB.out _, HB.out.size⟩
theorem rnew_bad (k : Nat) (A : Option Addr) (c : Nat) (l : List S36) (r : Int) (w : World) (hC : Kd.C k36 w A l.length l) (hc : l.length ≤ c) (h : r18_Check.f k l = some r) (hr : r ≠ 0) :
    Calls Tryz.prog 26 #[.slice A l.length c] w fun e w' => e = .returned (.tuple #[.pointer none, .int .i64 r]) ∧ Below w.heap.size w w' := by
  have HCK := Aside0.mk (r18_Check.calls k A c l r w hC hc h)
  obtain ⟨n, hn⟩ : ∃ n, l.length = n := ⟨_, rfl⟩
  rw [hn] at HCK ⊢
  have b1 : (r != 0) = true := bne_iff_ne.mpr hr
  clear hC hc h hr hn
  go_enter Tryz.func26, Tryz.ntmps26
  go_wp2_with fail
  refine HCK.out.mono ?_
  rintro e w2 ⟨rfl, hb2⟩
  go_wp2
  go_ret2
  exact ⟨rfl, hb2⟩
structure RFi (w wr : World) (ga gr gb p : Nat) (A : Option Addr) (n c : Nat) (b : Ad) (best : S36) (Ab : Option Addr) (cb : Nat) : Prop where
  bel : Below w.heap.size w wr
  adr : wr.heap[ga]? = some (.cells #[.bool b.f0, .int .u64 b.f1, .int .u64 b.f2] 31 (0, 0))
  res : wr.heap[gr]? = some (.cells as0 36 (0, 0))
  bst : wr.heap[gb]? = some (.cells (asC best (.slice Ab best.f8.length cb)) 36 (0, 0))
  tab : wr.heap[p]? = some (.cells #[.slice A n c] 96 (0, 0))
  svc : Kd.C k74 w Ab best.f8.length best.f8
  cap : best.f8.length ≤ cb
theorem RFi.below {w W W1 : World} {ga gr gb p : Nat} {A : Option Addr} {n c : Nat} {b : Ad} {best : S36} {Ab : Option Addr} {cb : Nat} (h : RFi w W ga gr gb p A n c b best Ab cb) (hb : Below W.heap.size W W1) : RFi w W1 ga gr gb p A n c b best Ab cb := ⟨below_then h.bel h.bel.size hb, blk_below h.adr hb, blk_below h.res hb, blk_below h.bst hb, blk_below h.tab hb, h.svc, h.cap⟩
theorem fs_on {b : Ad} {l : List S36} {i : Nat} {best : S36} {bits : Int} {r a : S36} (hi : i < l.length) (ha : rd_T36 l (i : Int) = a) (h : findS b (l.drop i) best bits = r) : (if bits < a.f1.f1 ∧ inB a b = true then findS b (l.drop (i + 1)) a a.f1.f1 else findS b (l.drop (i + 1)) best bits) = r := by
  rw [List.drop_eq_getElem_cons hi, findS, ← tab_get hi, ha] at h
  exact h
theorem rfind_ok (w : World) (p : Nat) (A : Option Addr) (c : Nat) (l : List S36) (b : Ad) (r : S36) (hP : w.heap[p]? = some (.cells #[.slice A l.length c] 96 (0, 0))) (hC : Kd.C k36 w A l.length l) (hl : l.length ≤ 1000) (hin : ∀ x ∈ l, ∃ K, r06_Contains.f K x.f1.f0.f0 x.f1.f0.f1 x.f1.f0.f2 x.f1.f1 b.f0 b.f1 b.f2 = some (inB x b)) (h : findS b l aDef (-1) = r) :
    Calls Tryz.prog 28 #[.pointer (some ⟨p, 0, none⟩), .agg #[.bool b.f0, .int .u64 b.f1, .int .u64 b.f2]] w fun e w' => ∃ A' c', e = .returned (.agg (asC r (.slice A' r.f8.length c'))) ∧ Kd.C k74 w' A' r.f8.length r.f8 ∧ r.f8.length ≤ c' ∧ Below w.heap.size w w' := by
  have hu := Tryz.underlying36
  have hu2 := Tryz.underlying96
  have hu3 := Tryz.underlying33
  have hu4 := Tryz.underlying31
  have hsz : (w.alloc (.cells #[.bool b.f0, .int .u64 b.f1, .int .u64 b.f2] 31)).heap.size = w.heap.size + 1 := by show (w.heap.push _).size = _; rw [Array.size_push]
  have HX : Aside0 ((w.alloc (.cells #[.bool b.f0, .int .u64 b.f1, .int .u64 b.f2] 31)).heap[w.heap.size]? = some (.cells #[.bool b.f0, .int .u64 b.f1, .int .u64 b.f2] 31 (0, 0))) := ⟨heap_alloc_new _ _⟩
  replace HX := Aside0.mk (blk_alloc HX.out (.cells as0 36))
  have HY : Aside0 (((w.alloc (.cells #[.bool b.f0, .int .u64 b.f1, .int .u64 b.f2] 31)).alloc (.cells as0 36)).heap[(w.alloc (.cells #[.bool b.f0, .int .u64 b.f1, .int .u64 b.f2] 31)).heap.size]? = some (.cells as0 36 (0, 0))) := ⟨heap_alloc_new _ _⟩
  have HB := Aside0.mk (below_alloc (below_alloc (Below.refl w.heap.size w) (.cells #[.bool b.f0, .int .u64 b.f1, .int .u64 b.f2] 31)) (.cells as0 36))
  rw [hsz] at HY
  clear hsz
  obtain ⟨n, hn⟩ : ∃ n, l.length = n := ⟨_, rfl⟩
  have HP := Aside0.mk (blk_below hP HB.out)
  have HPL := Aside0.mk (blk_lt hP)
  have HC := Aside0.mk hC
  rw [hn] at HP hl
  have HN := Aside0.mk hn
  have HL := Aside0.mk hl
  have HI0 := Aside0.mk hin
  have HH := Aside0.mk h
  clear hP hC hl hin h hn
  go_enter Tryz.func28, Tryz.ntmps28
  go_upto_region 1 with (fail)
  obtain ⟨ga, hga⟩ : ∃ x, w.heap.size = x := ⟨_, rfl⟩
  obtain ⟨gr, hgr⟩ : ∃ x, w.heap.size + 1 = x := ⟨_, rfl⟩
  have HG : Aside0 (w.heap.size ≤ ga ∧ w.heap.size ≤ gr ∧ ga < gr ∧ p < ga) := ⟨by have := HPL.out; omega⟩
  rw [hgr] at HY
  simp only [hgr]
  rw [hga] at HX
  simp only [hga]
  clear hgr hga HPL
  change Code.wp _ _ _ _ ((w.alloc (.cells #[.bool b.f0, .int .u64 b.f1, .int .u64 b.f2] 31)).alloc (.cells as0 36))
  generalize (w.alloc (.cells #[.bool b.f0, .int .u64 b.f1, .int .u64 b.f2] 31)).alloc (.cells as0 36) = W1 at HX HY HB HP ⊢
  go_wp2_with fail
  refine (r18_Default.calls _ _ _ _ _ _ _ _ _ _ _ _ W1 rfl).mono ?_
  rintro e W2 ⟨v0, rfl, ho, hb⟩
  obtain ⟨A0, c0, hv0⟩ := Kd.R_slice ho
  subst hv0
  replace HX := Aside0.mk (blk_below HX.out hb)
  replace HY := Aside0.mk (blk_below HY.out hb)
  replace HP := Aside0.mk (blk_below HP.out hb)
  replace HB := Aside0.mk (below_then HB.out HB.out.size hb)
  have HK0 : Aside0 (Kd.C k74 w A0 aDef.f8.length aDef.f8) := ⟨rfl, by decide, fun h => absurd h (by decide)⟩
  clear ho hb
  go_upto_region 2 with (fail)
  have HD : Aside0 ((W2.alloc (.cells (asC aDef (.slice A0 aDef.f8.length c0)) 36)).heap[W2.heap.size]? = some (.cells (asC aDef (.slice A0 aDef.f8.length c0)) 36 (0, 0))) := ⟨heap_alloc_new _ _⟩
  have HF : Aside0 (RFi w (W2.alloc (.cells (asC aDef (.slice A0 aDef.f8.length c0)) 36)) ga gr W2.heap.size p A n c b aDef A0 c0) := ⟨below_alloc HB.out _, blk_alloc HX.out _, blk_alloc HY.out _, HD.out, blk_alloc HP.out _, HK0.out, Nat.zero_le _⟩
  have HG2 : Aside0 (ga < W2.heap.size ∧ gr < W2.heap.size ∧ p < W2.heap.size ∧ w.heap.size ≤ W2.heap.size) := ⟨blk_lt HX.out, blk_lt HY.out, blk_lt HP.out, HB.out.size⟩
  clear HX HY HB HP HK0 HD
  obtain ⟨gb, hgb⟩ : ∃ x, W2.heap.size = x := ⟨_, rfl⟩
  rw [hgb] at HF HG2
  simp only [hgb]
  clear hgb
  change Code.wp _ _ _ _ (W2.alloc (.cells (asC aDef (.slice A0 aDef.f8.length c0)) 36))
  generalize W2.alloc (.cells (asC aDef (.slice A0 aDef.f8.length c0)) 36) = W3 at HF ⊢
  go_upto_region 4 with (fail)
  go_loopg [6, 7] (n + 1) (fun gg v6 v7 wr => ∃ (i : Nat) (best : S36) (bits : Int) (Ab : Option Addr) (cb : Nat), v7 = .int .i64 (i : Int) ∧ v6 = .int .i64 bits ∧ Aside0 (gg + i = n + 1 ∧ i ≤ n) ∧ Aside0 (findS b (l.drop i) best bits = r) ∧ Aside0 (RFi w wr ga gr gb p A n c b best Ab cb))
  case atStart => exact ⟨0, aDef, -1, A0, c0, rfl, rfl, ⟨by omega, by omega⟩, ⟨HH.out⟩, HF⟩
  case round =>
    clear HF HH W3
    obtain ⟨i, best, bits, Ab, cb, rfl, rfl, HI, HE, HF⟩ := hrel
    have tp := zc (Aside0.mk HF.out.tab) 0
    by_cases hi : i < n
    · have HII := Aside0.mk hi
      have b1' : decide ((i : Int) < (n : Int)) = true := decide_eq_true (by omega)
      have b2' : decide (i < n) = true := decide_eq_true hi
      have b3 : n ≤ 1000000 := by have := HL.out; omega
      obtain ⟨ad, Ax, cx, rfl, k0, k1, k2, k3, k4, k5, k6, k7, k8, k9, k10, k11, kl, kc⟩ := at_T36 HC.out (i : Int) (by omega) (by rw [HN.out]; omega)
      simp only [Int.toNat_natCast] at k0 k1 k2 k3 k4 k5 k6 k7 k8 k9 k10 k11
      obtain ⟨a, ha⟩ : ∃ a, rd_T36 l (i : Int) = a := ⟨_, rfl⟩
      have HIN : Aside0 (∃ K, r06_Contains.f K a.f1.f0.f0 a.f1.f0.f1 a.f1.f0.f2 a.f1.f1 b.f0 b.f1 b.f2 = some (inB a b)) := ⟨HI0.out a (by rw [← ha]; exact tab_mem (by rw [HN.out]; exact hi))⟩
      have HON := Aside0.mk (fs_on (by rw [HN.out]; exact hi) ha HE.out)
      rw [ha] at k0 k1 k2 k3 k4 k5 k6 k7 k8 k9 k10 k11 kl kc
      have HKC := Aside0.mk kc
      have HKL := Aside0.mk kl
      have H0 := Aside0.mk k0
      have H1 := Aside0.mk k1
      have H2 := Aside0.mk k2
      have H3 := Aside0.mk k3
      have H4 := Aside0.mk k4
      have H5 := Aside0.mk k5
      have H6 := Aside0.mk k6
      have H7 := Aside0.mk k7
      have H8 := Aside0.mk k8
      have H9 := Aside0.mk k9
      have H10 := Aside0.mk k10
      have H11 := Aside0.mk k11
      clear kl kc ha k0 k1 k2 k3 k4 k5 k6 k7 k8 k9 k10 k11
      go_upto_region 6 with (fail)
      clear tp
      have hS := fun (V : World) (hV : Below w.heap.size w V) => (⟨pw_cell_below hV H1.out, pw_cell_below hV H2.out, pw_cell_below hV H3.out, pw_cell_below hV H4.out⟩ : V.cell? ⟨(ad.add (i * 12)).block, (ad.add (i * 12)).off + 1, none⟩ = some (.bool a.f1.f0.f0) ∧ V.cell? ⟨(ad.add (i * 12)).block, (ad.add (i * 12)).off + 2, none⟩ = some (.int .u64 a.f1.f0.f1) ∧ V.cell? ⟨(ad.add (i * 12)).block, (ad.add (i * 12)).off + 3, none⟩ = some (.int .u64 a.f1.f0.f2) ∧ V.cell? ⟨(ad.add (i * 12)).block, (ad.add (i * 12)).off + 4, none⟩ = some (.int .i64 a.f1.f1))
      have HS := Aside0.mk hS
      clear hS
      refine start_ (n := 23) (S := fun w' => w'.cell? ⟨p, 0, none⟩ = some (.slice (some ad) n c) ∧ w'.cell? ⟨ga, 0, none⟩ = some (.bool b.f0) ∧ w'.cell? ⟨ga, 1, none⟩ = some (.int .u64 b.f1) ∧ w'.cell? ⟨ga, 2, none⟩ = some (.int .u64 b.f2) ∧ w'.cell? ⟨(ad.add (i * 12)).block, (ad.add (i * 12)).off + 1, none⟩ = some (.bool a.f1.f0.f0) ∧ w'.cell? ⟨(ad.add (i * 12)).block, (ad.add (i * 12)).off + 2, none⟩ = some (.int .u64 a.f1.f0.f1) ∧ w'.cell? ⟨(ad.add (i * 12)).block, (ad.add (i * 12)).off + 3, none⟩ = some (.int .u64 a.f1.f0.f2) ∧ w'.cell? ⟨(ad.add (i * 12)).block, (ad.add (i * 12)).off + 4, none⟩ = some (.int .i64 a.f1.f1)) (ds := []) #[false, false, false, false, false, false, false, false, false, false, false, false, false, false, false, false, false, false, false, false, false, false, false] (by kernel_rfl) rfl rfl ⟨zc (Aside0.mk HF.out.tab) 0, zc (Aside0.mk HF.out.adr) 0, zc (Aside0.mk HF.out.adr) 1, zc (Aside0.mk HF.out.adr) 2, HS.out _ (below_drew HF.out.bel)⟩ (fun hHeld => ?_)
      replace HF := Aside0.mk (HF.out.below (below_drew (Below.refl _ _)))
      generalize wr.drew = W4 at HF hHeld ⊢
      have HI1 : Aside0 ((n - i) + (i + 1) = n + 1 ∧ i + 1 ≤ n) := ⟨by have := HII.out; omega, HII.out⟩
      refine zp0 0 18 ?_; refine zp0 1 19 ?_; refine zp0 2 20 ?_; refine zt0 3 21 hHeld ?_; refine zp0 4 22 ?_; refine zp0 5 23 ?_; refine zp0 6 24 ?_; refine zp0 7 25 ?_; refine zt0 8 26 hHeld ?_; refine zp0 9 27 ?_
      by_cases hb : bits < a.f1.f1
      · have g1 : decide (bits < a.f1.f1) = true := decide_eq_true hb
        have HBB := Aside0.mk hb
        clear hb
        refine zp0 10 28 ?_
        refine zp0 11 29 ?_; refine zp0 12 30 ?_; refine zp0 13 31 ?_; refine zp0 14 32 ?_; refine zt0 15 33 hHeld ?_; refine zp0 16 34 ?_; refine zp0 17 35 ?_; refine zp0 18 36 ?_; refine zt0 19 37 hHeld ?_; refine zt0 20 38 hHeld ?_; refine zo0 21 39 (fun K hK => ?_)
        obtain ⟨K1, hK1⟩ := HIN.out
        refine zg Tryz.func29 #[.agg #[.bool a.f1.f0.f0, .int .u64 a.f1.f0.f1, .int .u64 a.f1.f0.f2, .int .i64 a.f1.f1], .agg #[.bool b.f0, .int .u64 b.f1, .int .u64 b.f2]] ?_
        refine (r06_Contains.calls K1 _ _ _ _ _ _ _ (inB a b) W4 hK1).mono ?_
        rintro e W5 ⟨rfl, hb2⟩
        refine ⟨_, rfl, ?_⟩
        replace HF := Aside0.mk (HF.out.below hb2)
        refine hK.out _ _ ⟨zc (Aside0.mk HF.out.tab) 0, zc (Aside0.mk HF.out.adr) 0, zc (Aside0.mk HF.out.adr) 1, zc (Aside0.mk HF.out.adr) 2, HS.out _ HF.out.bel⟩ (fun hHeld => ?_)
        clear hK K hb2 hK1 HIN g1
        refine zn 39 ?_
        refine zp0 22 40 ?_
        refine zd0 ?_
        cases hcin : inB a b
        · have HE2 : Aside0 (findS b (l.drop (i + 1)) best bits = r) := ⟨by have h := HON.out; rwa [if_neg (by rw [hcin]; simp)] at h⟩
          have hi2 : i < n := HII.out
          clear hHeld hcin
          go_wp2
          go_roundg (n - i)
          case measure => have := HI.out.1; have := HII.out; omega
          case rel => exact ⟨i + 1, best, bits, Ab, cb, by (have := HII.out; go_num), rfl, HI1, HE2, HF⟩
        · have HE2 : Aside0 (findS b (l.drop (i + 1)) a a.f1.f1 = r) := ⟨by have h := HON.out; rwa [if_pos ⟨HBB.out, hcin⟩] at h⟩
          have hi2 : i < n := HII.out
          clear hHeld hcin
          have tp := zc (Aside0.mk HF.out.tab) 0
          have k0 := pw_cell_below HF.out.bel H0.out
          have k1 := pw_cell_below HF.out.bel H1.out
          have k2 := pw_cell_below HF.out.bel H2.out
          have k3 := pw_cell_below HF.out.bel H3.out
          have k4 := pw_cell_below HF.out.bel H4.out
          have k5 := pw_cell_below HF.out.bel H5.out
          have k6 := pw_cell_below HF.out.bel H6.out
          have k7 := pw_cell_below HF.out.bel H7.out
          have k8 := pw_cell_below HF.out.bel H8.out
          have k9 := pw_cell_below HF.out.bel H9.out
          have k10 := pw_cell_below HF.out.bel H10.out
          have k11 := pw_cell_below HF.out.bel H11.out
          obtain ⟨d0, d1, d2, d3, d4, d5, d6, d7, d8, d9, d10, d11⟩ := zc12 (Aside0.mk HF.out.bst)
          obtain ⟨f0, f1, f2, f3, f4, f5, f6, f7, f8, f9, f10, f11⟩ := zf12 (Aside0.mk HF.out.bst)
          go_upto_region 8 with (fail)
          clear d0 d1 d2 d3 d4 d5 d6 d7 d8 d9 d10 d11 f0 f1 f2 f3 f4 f5 f6 f7 f8 f9 f10 f11 k0 k1 k2 k3 k4 k5 k6 k7 k8 k9 k10 k11 tp
          have HF2 : Aside0 (RFi w ((((((((((((W5.setCell ⟨gb, 0, none⟩ (.string a.f0)).setCell ⟨gb, 1, none⟩ (.bool a.f1.f0.f0)).setCell ⟨gb, 2, none⟩ (.int .u64 a.f1.f0.f1)).setCell ⟨gb, 3, none⟩ (.int .u64 a.f1.f0.f2)).setCell ⟨gb, 4, none⟩ (.int .i64 a.f1.f1)).setCell ⟨gb, 5, none⟩ (.int .i64 a.f2)).setCell ⟨gb, 6, none⟩ (.int .i64 a.f3)).setCell ⟨gb, 7, none⟩ (.int .i64 a.f4)).setCell ⟨gb, 8, none⟩ (.int .i64 a.f5)).setCell ⟨gb, 9, none⟩ (.bool a.f6)).setCell ⟨gb, 10, none⟩ (.int .i64 a.f7)).setCell ⟨gb, 11, none⟩ (.slice Ax a.f8.length cx)) ga gr gb p (some ad) n c b a Ax cx) := ⟨below12 HF.out.bel (by have := HG2.out; omega), far12 HF.out.adr (by have := HG2.out; omega), far12 HF.out.res (by have := HG2.out; omega), put12 HF.out.bst, far12 HF.out.tab (by have := HG2.out; omega), HKC.out, HKL.out⟩
          generalize (((((((((((W5.setCell ⟨gb, 0, none⟩ (.string a.f0)).setCell ⟨gb, 1, none⟩ (.bool a.f1.f0.f0)).setCell ⟨gb, 2, none⟩ (.int .u64 a.f1.f0.f1)).setCell ⟨gb, 3, none⟩ (.int .u64 a.f1.f0.f2)).setCell ⟨gb, 4, none⟩ (.int .i64 a.f1.f1)).setCell ⟨gb, 5, none⟩ (.int .i64 a.f2)).setCell ⟨gb, 6, none⟩ (.int .i64 a.f3)).setCell ⟨gb, 7, none⟩ (.int .i64 a.f4)).setCell ⟨gb, 8, none⟩ (.int .i64 a.f5)).setCell ⟨gb, 9, none⟩ (.bool a.f6)).setCell ⟨gb, 10, none⟩ (.int .i64 a.f7)).setCell ⟨gb, 11, none⟩ (.slice Ax a.f8.length cx) = W6 at HF2 ⊢
          have d4 := zc (Aside0.mk HF2.out.bst) 4
          go_wp2
          go_roundg (n - i)
          case measure => have := HI.out.1; have := HII.out; omega
          case rel => exact ⟨i + 1, a, a.f1.f1, Ax, cx, by (have := HII.out; go_num), rfl, HI1, HE2, HF2⟩
      · have g1 : decide (bits < a.f1.f1) = false := decide_eq_false hb
        have HE2 : Aside0 (findS b (l.drop (i + 1)) best bits = r) := ⟨by have h := HON.out; rwa [if_neg (fun e => hb e.1)] at h⟩
        have hi2 : i < n := HII.out
        clear hb
        refine zp0 10 28 ?_
        refine zp0 11 29 ?_; refine zu0 12 30 ?_; refine zu0 13 31 ?_; refine zu0 14 32 ?_; refine zu0 15 33 ?_; refine zu0 16 34 ?_; refine zu0 17 35 ?_; refine zu0 18 36 ?_; refine zu0 19 37 ?_; refine zu0 20 38 ?_; refine zu0 21 39 ?_
        refine zp0 22 40 ?_
        refine zd0 ?_
        clear hHeld g1
        go_wp2
        go_roundg (n - i)
        case measure => have := HI.out.1; have := HII.out; omega
        case rel => exact ⟨i + 1, best, bits, Ab, cb, by (have := HII.out; go_num), rfl, HI1, HE2, HF⟩
    · have b1' : decide ((i : Int) < (n : Int)) = false := decide_eq_false (by omega)
      have b2' : decide (i < n) = false := decide_eq_false hi
      have HR : Aside0 (best = r) := ⟨by have h := HE.out; rw [List.drop_of_length_le (by rw [HN.out]; omega), findS] at h; exact h⟩
      obtain ⟨d0, d1, d2, d3, d4, d5, d6, d7, d8, d9, d10, d11⟩ := zc12 (Aside0.mk HF.out.bst)
      obtain ⟨f0, f1, f2, f3, f4, f5, f6, f7, f8, f9, f10, f11⟩ := zf12 (Aside0.mk HF.out.res)
      obtain ⟨x0, x1, x2, x3, x4, x5, x6, x7, x8, x9, x10, x11⟩ := zc12 (Aside0.mk HF.out.res)
      have HGR : Aside0 (w.heap.size ≤ gr) := ⟨HG.out.2.1⟩
      go_wp2
      refine bodyPost_ret (results_cell_row rfl _ _ gr 36 (asC best (.slice Ab best.f8.length cb)) (0, 0) _ rfl (put12 HF.out.res) Tryz.underlying36 rfl (by kernel_rfl)) rfl ?_
      have hbe := below12 (v0 := .string best.f0) (v1 := .bool best.f1.f0.f0) (v2 := .int .u64 best.f1.f0.f1) (v3 := .int .u64 best.f1.f0.f2) (v4 := .int .i64 best.f1.f1) (v5 := .int .i64 best.f2) (v6 := .int .i64 best.f3) (v7 := .int .i64 best.f4) (v8 := .int .i64 best.f5) (v9 := .bool best.f6) (v10 := .int .i64 best.f7) (v11 := .slice Ab best.f8.length cb) HF.out.bel HGR.out
      refine ⟨Ab, cb, by rw [HR.out], ?_, by rw [← HR.out]; exact HF.out.cap, hbe⟩
      rw [← HR.out]
      exact Kd.C_below HF.out.svc hbe
end Go.Proofs.YtnphnhkinjppjaaGreatDoor.Q
end

section
set_option maxHeartbeats 8000000
set_option maxRecDepth 100000
namespace Go.Proofs.YtnphnhkinjppjaaGreatDoor.Q
open Go.RowKit Go.Proofs.YtnphnhkinjppjaaGreatDoorW.PrintWords Go.Proofs.YtnphnhkinjppjaaGreatDoorW.PrintLast Go.Proofs.YtnphnhkinjppjaaGreatDoorW.PrintMore
attribute [local go_sem] max2_int min2_int max_two min_two max_three min_three max_four min_four
def asset_App.l0 : Nat → Int → Int → List (S74) → Int → Int → Option (Int)
  | 0, _, _, _, _, _ => none
  | k + 1, x1, x2, x10, x11, x12 => if x12 < x11 then (if 0 ≤ x12 then (if x12 < (x10.length : Int) then (if ((rd_T74 x10 x12).f0) = x1 then (if ((rd_T74 x10 x12).f1) = x2 then (some ((rd_T74 x10 x12).f2)) else (asset_App.l0 k x1 x2 x10 x11 (wrap64 (x12 + 1)))) else (asset_App.l0 k x1 x2 x10 x11 (wrap64 (x12 + 1)))) else (none)) else (none)) else (some 0)
def asset_App.f (k : Nat) (a0_0 : ByteArray) (a0_1 : Bool) (a0_2 : Int) (a0_3 : Int) (a0_4 : Int) (a0_5 : Int) (a0_6 : Int) (a0_7 : Int) (a0_8 : Int) (a0_9 : Bool) (a0_10 : Int) (l0_11 : List (S74)) (a1 : Int) (a2 : Int) : Option (Int) := asset_App.l0 k a1 a2 l0_11 (l0_11.length : Int) 0
theorem asset_App.mono_l : ∀ k, (∀ y0 y1 y2 y3 y4, LeO (asset_App.l0 k y0 y1 y2 y3 y4) (asset_App.l0 (k + 1) y0 y1 y2 y3 y4))
  | 0 => fun _ _ _ _ _ r h => by simp [asset_App.l0] at h
  | k + 1 => by
    have ih0 := asset_App.mono_l k
    · intro y0 y1 y2 y3 y4
      unfold asset_App.l0
      repeat' first
      | (with_reducible exact ih0 _ _ _ _ _)
      | (with_reducible exact LeO.refl _)
      | (with_reducible exact LeO.none _)
      | (with_reducible refine LeO.ite ?_ ?_)
      | (with_reducible refine LeO.bind ?_ (fun _ => ?_))
theorem asset_App.mono : ∀ a0 a1 a2 a3 a4 a5 a6 a7 a8 a9 a10 a11 a12 a13 k, LeO (asset_App.f k a0 a1 a2 a3 a4 a5 a6 a7 a8 a9 a10 a11 a12 a13) (asset_App.f (k + 1) a0 a1 a2 a3 a4 a5 a6 a7 a8 a9 a10 a11 a12 a13) := by
  intro a0 a1 a2 a3 a4 a5 a6 a7 a8 a9 a10 a11 a12 a13 k
  have ih0 := asset_App.mono_l k
  unfold asset_App.f
  repeat' first
      | (with_reducible exact ih0 _ _ _ _ _)
      | (with_reducible exact LeO.refl _)
      | (with_reducible exact LeO.none _)
      | (with_reducible refine LeO.ite ?_ ?_)
      | (with_reducible refine LeO.bind ?_ (fun _ => ?_))
theorem asset_App.calls (k : Nat) (a0_0 : ByteArray) (a0_1 : Bool) (a0_2 : Int) (a0_3 : Int) (a0_4 : Int) (a0_5 : Int) (a0_6 : Int) (a0_7 : Int) (a0_8 : Int) (a0_9 : Bool) (a0_10 : Int) (A0_11 : Option Addr) (c0_11 : Nat) (l0_11 : List (S74)) (a1 : Int) (a2 : Int) (r : Int) (w : World) (hr0_11 : Kd.C k74 w A0_11 l0_11.length l0_11) (hc0_11 : l0_11.length ≤ c0_11) (h : asset_App.f k a0_0 a0_1 a0_2 a0_3 a0_4 a0_5 a0_6 a0_7 a0_8 a0_9 a0_10 l0_11 a1 a2 = some r) :
 Calls Tryz.prog 19 #[.agg #[.string a0_0, .bool a0_1, .int .u64 a0_2, .int .u64 a0_3, .int .i64 a0_4, .int .i64 a0_5, .int .i64 a0_6, .int .i64 a0_7, .int .i64 a0_8, .bool a0_9, .int .i64 a0_10, .slice A0_11 l0_11.length c0_11], .int .i64 a1, .int .i64 a2] w fun e w' => e = .returned (.int .i64 r) ∧ Below w.heap.size w w' := by
 have hu36 := Tryz.underlying36
 have hu74 := Tryz.underlying74
 have HR0_11 := Aside0.mk hr0_11; have HC0_11 := Aside0.mk hc0_11; clear hr0_11 hc0_11; have HB := Aside0.mk (Below.refl w.heap.size w)
 unfold asset_App.f at h; have H := h
 clear h
 have H' := Aside0.mk H
 clear H
 go_enter Tryz.func19, Tryz.ntmps19
 go_wp2_with (first | ((with_reducible refine gate_dst (N := 3) rfl ?_); refine zx 3 #[.string a0_0, .bool a0_1, .int .u64 a0_2, .int .u64 a0_3, .int .i64 a0_4, .int .i64 a0_5, .int .i64 a0_6, .int .i64 a0_7, .int .i64 a0_8, .bool a0_9, .int .i64 a0_10, .slice A0_11 l0_11.length c0_11] 36 ?_; intro gb147 hg w4 hbox hb; have BK147 := Aside0.mk (hbox); have GW147 := zG HB hg; have GE147 := zG HB hg; replace HB := Aside0.mk (below_step (zB HB) hb); clear hb hbox hg; obtain ⟨hcz5_0, hcz5_1, hcz5_2, hcz5_3, hcz5_4, hcz5_5, hcz5_6, hcz5_7, hcz5_8, hcz5_9, hcz5_10, hcz5_11⟩ := zc12 BK147; obtain ⟨hfz5_0, hfz5_1, hfz5_2, hfz5_3, hfz5_4, hfz5_5, hfz5_6, hfz5_7, hfz5_8, hfz5_9, hfz5_10, hfz5_11⟩ := zf12 BK147))
 go_loopg [12] k (fun kq v12 w' => ∃ (x12_1 : Int), v12 = .int .i64 x12_1 ∧ Aside0 (asset_App.l0 kq a1 a2 l0_11 (l0_11.length : Int) x12_1 = some r) ∧ Aside0 (kq ≤ k) ∧ Aside0 (w'.heap[gb147]? = some (.cells #[.string a0_0, .bool a0_1, .int .u64 a0_2, .int .u64 a0_3, .int .i64 a0_4, .int .i64 a0_5, .int .i64 a0_6, .int .i64 a0_7, .int .i64 a0_8, .bool a0_9, .int .i64 a0_10, (.slice A0_11 l0_11.length c0_11)] 36 (0, 0))) ∧ Aside0 (Below w.heap.size w w'))
 case atStart => exact ⟨(0), zI, H', ⟨Nat.le_refl _⟩, ⟨zK BK147⟩, ⟨zB HB⟩⟩
 case round =>
  clear H'
  (try clear hcz5_0 hcz5_1 hcz5_10 hcz5_11 hcz5_2 hcz5_3 hcz5_4 hcz5_5 hcz5_6 hcz5_7 hcz5_8 hcz5_9); (try clear hfz5_0 hfz5_1 hfz5_10 hfz5_11 hfz5_2 hfz5_3 hfz5_4 hfz5_5 hfz5_6 hfz5_7 hfz5_8 hfz5_9)
  obtain ⟨x12_1, rfl, HA, HK1, BK147, HB⟩ := hrel
  rcases gk with _ | k1
  · exact absurd HA.out (by simp [asset_App.l0])
  have H := HA.out
  clear HA
  simp only [asset_App.l0] at H
  by_cases c6 : x12_1 < (l0_11.length : Int)
  rotate_left
  · rw [if_neg c6] at H
    have c6b0 : decide (x12_1 < (l0_11.length : Int)) = false := decide_eq_false c6; clear c6
    obtain rfl := Option.some.inj H
    go_wp2
    go_ret
    exact ⟨zr, zB HB⟩
  rw [if_pos c6] at H
  have c6b0 : decide (x12_1 < (l0_11.length : Int)) = true := decide_eq_true c6; clear c6
  by_cases c7 : 0 ≤ x12_1
  rotate_left
  · rw [if_neg c7] at H
    exact absurd H (by simp)
  rw [if_pos c7] at H
  have c7b0 : decide (0 ≤ x12_1) = true := decide_eq_true c7; clear c7
  by_cases c8 : x12_1 < (l0_11.length : Int)
  rotate_left
  · rw [if_neg c8] at H
    exact absurd H (by simp)
  rw [if_pos c8] at H
  have c8b0 : decide (x12_1 < (l0_11.length : Int)) = true := decide_eq_true c8; clear c8
  by_cases c9 : ((rd_T74 l0_11 x12_1).f0) = a1
  · rw [if_pos c9] at H
    have c9b0 : (((rd_T74 l0_11 x12_1).f0) == a1) = true := beq_iff_eq.mpr c9; have c9b1 : (((rd_T74 l0_11 x12_1).f0) != a1) = false := bne_eq_false_iff_eq.mpr c9; clear c9
    by_cases c10 : ((rd_T74 l0_11 x12_1).f1) = a2
    · rw [if_pos c10] at H
      have c10b0 : (((rd_T74 l0_11 x12_1).f1) == a2) = true := beq_iff_eq.mpr c10; have c10b1 : (((rd_T74 l0_11 x12_1).f1) != a2) = false := bne_eq_false_iff_eq.mpr c10; clear c10
      obtain rfl := Option.some.inj H
      have p148 : 0 ≤ (x12_1 : Int) := za
      have q148 : x12_1 < (l0_11.length : Int) := za
      obtain ⟨ad148, e148, hx148_0, hx148_1, hx148_2⟩ := at_T74 HR0_11.out x12_1 p148 q148
      cases e148
      replace hx148_0 := zh HB hx148_0; replace hx148_1 := zh HB hx148_1; replace hx148_2 := zh HB hx148_2
      replace p148 := eq_true p148
      replace q148 := eq_true q148
      go_wp2_with (first | ((with_reducible refine gate_dst (N := 8) rfl ?_); refine zx 8 #[.int .i64 0, .int .i64 0, .int .i64 0] 74 ?_; intro gb149 hg w11 hbox hb; have BK149 := Aside0.mk (hbox); have GW149 := zG HB hg; have GE149 := zG HB hg; replace HB := Aside0.mk (below_step (zB HB) hb); have NB147_149 := Aside0.mk ((by rw [hg]; exact Nat.ne_of_lt (blk_lt (g := gb147) (o := .cells #[.string a0_0, .bool a0_1, .int .u64 a0_2, .int .u64 a0_3, .int .i64 a0_4, .int .i64 a0_5, .int .i64 a0_6, .int .i64 a0_7, .int .i64 a0_8, .bool a0_9, .int .i64 a0_10, .slice (some ad148) l0_11.length c0_11] 36 (0, 0)) (zK BK147)) : gb147 ≠ gb149)); have NB149_147 := Aside0.mk ((by rw [hg]; exact Nat.ne_of_gt (blk_lt (g := gb147) (o := .cells #[.string a0_0, .bool a0_1, .int .u64 a0_2, .int .u64 a0_3, .int .i64 a0_4, .int .i64 a0_5, .int .i64 a0_6, .int .i64 a0_7, .int .i64 a0_8, .bool a0_9, .int .i64 a0_10, .slice (some ad148) l0_11.length c0_11] 36 (0, 0)) (zK BK147)) : gb149 ≠ gb147)); replace BK147 := zkb BK147 hb; clear hb hbox hg; have hnb12 := NB149_147.out; have hnc12 := NB147_149.out; obtain ⟨hcz13_0, hcz13_1, hcz13_2⟩ := zc3 BK149; obtain ⟨hfz13_0, hfz13_1, hfz13_2⟩ := zf3 BK149))
      go_ret
      exact ⟨zr, zB HB⟩
    rw [if_neg c10] at H
    have c10b0 : (((rd_T74 l0_11 x12_1).f1) == a2) = false := beq_eq_false_iff_ne.mpr c10
    have c10b1 : (((rd_T74 l0_11 x12_1).f1) != a2) = true := bne_iff_ne.mpr c10
    have H' := Aside0.mk H
    clear H
    have p148 : 0 ≤ (x12_1 : Int) := za
    have q148 : x12_1 < (l0_11.length : Int) := za
    obtain ⟨ad148, e148, hx148_0, hx148_1, hx148_2⟩ := at_T74 HR0_11.out x12_1 p148 q148
    cases e148
    replace hx148_0 := zh HB hx148_0; replace hx148_1 := zh HB hx148_1; replace hx148_2 := zh HB hx148_2
    replace p148 := eq_true p148
    replace q148 := eq_true q148
    go_wp2_with (first | ((with_reducible refine gate_dst (N := 8) rfl ?_); refine zx 8 #[.int .i64 0, .int .i64 0, .int .i64 0] 74 ?_; intro gb149 hg w14 hbox hb; have BK149 := Aside0.mk (hbox); have GW149 := zG HB hg; have GE149 := zG HB hg; replace HB := Aside0.mk (below_step (zB HB) hb); have NB147_149 := Aside0.mk ((by rw [hg]; exact Nat.ne_of_lt (blk_lt (g := gb147) (o := .cells #[.string a0_0, .bool a0_1, .int .u64 a0_2, .int .u64 a0_3, .int .i64 a0_4, .int .i64 a0_5, .int .i64 a0_6, .int .i64 a0_7, .int .i64 a0_8, .bool a0_9, .int .i64 a0_10, .slice (some ad148) l0_11.length c0_11] 36 (0, 0)) (zK BK147)) : gb147 ≠ gb149)); have NB149_147 := Aside0.mk ((by rw [hg]; exact Nat.ne_of_gt (blk_lt (g := gb147) (o := .cells #[.string a0_0, .bool a0_1, .int .u64 a0_2, .int .u64 a0_3, .int .i64 a0_4, .int .i64 a0_5, .int .i64 a0_6, .int .i64 a0_7, .int .i64 a0_8, .bool a0_9, .int .i64 a0_10, .slice (some ad148) l0_11.length c0_11] 36 (0, 0)) (zK BK147)) : gb149 ≠ gb147)); replace BK147 := zkb BK147 hb; clear hb hbox hg; have hnb15 := NB149_147.out; have hnc15 := NB147_149.out; obtain ⟨hcz16_0, hcz16_1, hcz16_2⟩ := zc3 BK149; obtain ⟨hfz16_0, hfz16_1, hfz16_2⟩ := zf3 BK149))
    go_roundg k1
    case measure => have := HK1.out; omega
    case rel => exact ⟨(wrap64 (x12_1 + 1)), zI, H', ⟨by have := HK1.out; omega⟩, ⟨by refine zL ?_; refine blk_far ?_ NB147_149.out _; refine zL ?_; refine blk_far ?_ NB147_149.out _; refine zL ?_; refine blk_far ?_ NB147_149.out _; refine zL ?_; exact BK147.out⟩, ⟨zB HB⟩⟩
  rw [if_neg c9] at H
  have c9b0 : (((rd_T74 l0_11 x12_1).f0) == a1) = false := beq_eq_false_iff_ne.mpr c9
  have c9b1 : (((rd_T74 l0_11 x12_1).f0) != a1) = true := bne_iff_ne.mpr c9
  have H' := Aside0.mk H
  clear H
  have p148 : 0 ≤ (x12_1 : Int) := za
  have q148 : x12_1 < (l0_11.length : Int) := za
  obtain ⟨ad148, e148, hx148_0, hx148_1, hx148_2⟩ := at_T74 HR0_11.out x12_1 p148 q148
  cases e148
  replace hx148_0 := zh HB hx148_0; replace hx148_1 := zh HB hx148_1; replace hx148_2 := zh HB hx148_2
  replace p148 := eq_true p148
  replace q148 := eq_true q148
  go_wp2_with (first | ((with_reducible refine gate_dst (N := 8) rfl ?_); refine zx 8 #[.int .i64 0, .int .i64 0, .int .i64 0] 74 ?_; intro gb149 hg w17 hbox hb; have BK149 := Aside0.mk (hbox); have GW149 := zG HB hg; have GE149 := zG HB hg; replace HB := Aside0.mk (below_step (zB HB) hb); have NB147_149 := Aside0.mk ((by rw [hg]; exact Nat.ne_of_lt (blk_lt (g := gb147) (o := .cells #[.string a0_0, .bool a0_1, .int .u64 a0_2, .int .u64 a0_3, .int .i64 a0_4, .int .i64 a0_5, .int .i64 a0_6, .int .i64 a0_7, .int .i64 a0_8, .bool a0_9, .int .i64 a0_10, .slice (some ad148) l0_11.length c0_11] 36 (0, 0)) (zK BK147)) : gb147 ≠ gb149)); have NB149_147 := Aside0.mk ((by rw [hg]; exact Nat.ne_of_gt (blk_lt (g := gb147) (o := .cells #[.string a0_0, .bool a0_1, .int .u64 a0_2, .int .u64 a0_3, .int .i64 a0_4, .int .i64 a0_5, .int .i64 a0_6, .int .i64 a0_7, .int .i64 a0_8, .bool a0_9, .int .i64 a0_10, .slice (some ad148) l0_11.length c0_11] 36 (0, 0)) (zK BK147)) : gb149 ≠ gb147)); replace BK147 := zkb BK147 hb; clear hb hbox hg; have hnb18 := NB149_147.out; have hnc18 := NB147_149.out; obtain ⟨hcz19_0, hcz19_1, hcz19_2⟩ := zc3 BK149; obtain ⟨hfz19_0, hfz19_1, hfz19_2⟩ := zf3 BK149))
  go_roundg k1
  case measure => have := HK1.out; omega
  case rel => exact ⟨(wrap64 (x12_1 + 1)), zI, H', ⟨by have := HK1.out; omega⟩, ⟨by refine zL ?_; refine blk_far ?_ NB147_149.out _; refine zL ?_; refine blk_far ?_ NB147_149.out _; refine zL ?_; refine blk_far ?_ NB147_149.out _; refine zL ?_; exact BK147.out⟩, ⟨zB HB⟩⟩
end Go.Proofs.YtnphnhkinjppjaaGreatDoor.Q
end

section
set_option maxHeartbeats 8000000
set_option maxRecDepth 100000
namespace Go.Proofs.YtnphnhkinjppjaaGreatDoor.Q
open Go.RowKit Go.Proofs.YtnphnhkinjppjaaGreatDoorW.PrintWords Go.Proofs.YtnphnhkinjppjaaGreatDoorW.PrintLast Go.Proofs.YtnphnhkinjppjaaGreatDoorW.PrintMore
def lvA : S36 := ⟨⟨#[97]⟩, ⟨⟨false, 0, 167772160⟩, 8⟩, 1, 1, 0, 8192, false, 2, []⟩
def lvB : S36 := ⟨⟨#[98]⟩, ⟨⟨false, 0, 167772160⟩, 24⟩, 1, 1, 0, 8192, false, 1, [⟨6, 80, 1⟩]⟩
def lvL : List S36 := [lvA, lvB]
def lvT1 : ByteArray := (⟨#[104, 111, 115, 116, 32, 97, 32, 49, 48, 46, 48, 46, 48, 46, 48, 47, 56, 32, 118, 97, 108, 117, 101, 32, 50, 59, 32, 35, 32, 116, 101, 110, 10, 104, 111, 115, 116, 32, 98, 32, 49, 48, 46, 48, 46, 48, 46, 48, 47, 50, 52, 32, 115, 101, 114, 118, 105, 99, 101, 32, 116, 99, 112, 32, 56, 48, 32, 104, 116, 116, 112, 59]⟩ : ByteArray)
def lvT2 : ByteArray := (⟨#[104, 111, 115, 116, 32, 97, 32, 49, 48, 46, 48, 46, 48, 46, 48, 47, 56, 32, 115, 112, 101, 101, 100, 32, 51, 59]⟩ : ByteArray)
def lvT3 : ByteArray := (⟨#[104, 111, 115, 116, 32, 97, 32, 49, 48, 46, 48, 46, 48, 46, 48, 47, 56, 32, 118, 97, 108, 117, 101, 32, 50, 59, 10]⟩ : ByteArray)
theorem lives18.e1 : asset_Parse.f 200 lvT1 = some (lvL, 0, 0) := by kernel_rfl
theorem lives18.e2 : asset_Parse.f 200 lvT2 = some ([], 15, 18) := by kernel_rfl
theorem lives18.e3 : asset_Check.f 200 lvL = some 0 := by kernel_rfl
theorem lives18.e4 : asset_App.f 200 lvB.f0 lvB.f1.f0.f0 lvB.f1.f0.f1 lvB.f1.f0.f2 lvB.f1.f1 lvB.f2 lvB.f3 lvB.f4 lvB.f5 lvB.f6 lvB.f7 lvB.f8 6 80 = some 1 := by kernel_rfl
theorem lives18.e5 : asset_Find.f lvL false 0 167772161 = some lvB := by kernel_rfl
theorem lives18.e6 : asset_Find.f lvL false 0 167837696 = some lvA := by kernel_rfl
theorem lives18.e7 : asset_Find.f lvL false 0 0 = some aDef := by kernel_rfl
theorem lives18.e8 : asset_Format.f 200 [lvA] = some lvT3 := by kernel_rfl
theorem lives18.e9 : asset_Check.f 200 [lvA, lvA] = some 7 := by kernel_rfl
theorem one_C {w : World} {A : Option Addr} {a b : S36} (h : Kd.C k36 w A 2 [a, b]) : Kd.C k36 w A 1 [a] := by
  obtain ⟨ad, e, hc⟩ := h.2.2 (by decide)
  refine ⟨rfl, by decide, fun _ => ⟨ad, e, fun j p hj => ?_⟩⟩
  match j, hj with
  | 0, hj => exact hc 0 p hj
  | j + 1, hj => simp at hj
theorem two_C {w : World} {A : Option Addr} {c base : Nat} {a : S36} {c0 : List Value} (ho : w.ownsRow base 36 12 (.slice A 2 c) 2 (c0 ++ c0)) (hl : c0.length = 12) (hK : (k36).K w a c0) : Kd.C k36 w A 2 [a, a] := by
  obtain ⟨ad, e, hc⟩ := q_cells (q_of_own ho) (by decide)
  refine ⟨rfl, by decide, fun _ => ⟨ad, e, fun j p hj => ?_⟩⟩
  match j, hj with
  | 0, hj =>
    cases Option.some.inj hj
    refine ⟨c0, hl, hK, fun i u hu => hc _ u ?_⟩
    rw [Nat.zero_mul, Nat.zero_add, List.getElem?_append_left (List.getElem?_eq_some_iff.mp hu).1]
    exact hu
  | 1, hj =>
    cases Option.some.inj hj
    refine ⟨c0, hl, hK, fun i u hu => hc _ u ?_⟩
    have e2 : 1 * (k36).sz + i = c0.length + i := by rw [hl, Nat.one_mul]; rfl
    rw [e2, List.getElem?_append_right (by omega), Nat.add_sub_cancel_left]
    exact hu
  | j + 2, hj => simp at hj
abbrev lvS (g : Nat) (Aa : Option Addr) (ca : Nat) (Ab : Option Addr) (cb : Nat) (w : World) : Prop := w.cell? ⟨g, 0, none⟩ = some (.string ⟨#[97]⟩) ∧ w.cell? ⟨g, 1, none⟩ = some (.bool false) ∧ w.cell? ⟨g, 2, none⟩ = some (.int .u64 0) ∧ w.cell? ⟨g, 3, none⟩ = some (.int .u64 167772160) ∧ w.cell? ⟨g, 4, none⟩ = some (.int .i64 8) ∧ w.cell? ⟨g, 5, none⟩ = some (.int .i64 1) ∧ w.cell? ⟨g, 6, none⟩ = some (.int .i64 1) ∧ w.cell? ⟨g, 7, none⟩ = some (.int .i64 0) ∧ w.cell? ⟨g, 8, none⟩ = some (.int .i64 8192) ∧ w.cell? ⟨g, 9, none⟩ = some (.bool false) ∧ w.cell? ⟨g, 10, none⟩ = some (.int .i64 2) ∧ w.cell? ⟨g, 11, none⟩ = some (.slice Aa 0 ca) ∧ w.cell? ⟨g, 12, none⟩ = some (.string ⟨#[98]⟩) ∧ w.cell? ⟨g, 13, none⟩ = some (.bool false) ∧ w.cell? ⟨g, 14, none⟩ = some (.int .u64 0) ∧ w.cell? ⟨g, 15, none⟩ = some (.int .u64 167772160) ∧ w.cell? ⟨g, 16, none⟩ = some (.int .i64 24) ∧ w.cell? ⟨g, 17, none⟩ = some (.int .i64 1) ∧ w.cell? ⟨g, 18, none⟩ = some (.int .i64 1) ∧ w.cell? ⟨g, 19, none⟩ = some (.int .i64 0) ∧ w.cell? ⟨g, 20, none⟩ = some (.int .i64 8192) ∧ w.cell? ⟨g, 21, none⟩ = some (.bool false) ∧ w.cell? ⟨g, 22, none⟩ = some (.int .i64 1) ∧ w.cell? ⟨g, 23, none⟩ = some (.slice Ab 1 cb)
theorem lvS.below {g : Nat} {Aa : Option Addr} {ca : Nat} {Ab : Option Addr} {cb : Nat} {w w1 : World} (h : lvS g Aa ca Ab cb w) (hb : Below w.heap.size w w1) : lvS g Aa ca Ab cb w1 := by
  obtain ⟨h0, h1, h2, h3, h4, h5, h6, h7, h8, h9, h10, h11, h12, h13, h14, h15, h16, h17, h18, h19, h20, h21, h22, h23⟩ := h
  exact ⟨pw_cell_below hb h0, pw_cell_below hb h1, pw_cell_below hb h2, pw_cell_below hb h3, pw_cell_below hb h4, pw_cell_below hb h5, pw_cell_below hb h6, pw_cell_below hb h7, pw_cell_below hb h8, pw_cell_below hb h9, pw_cell_below hb h10, pw_cell_below hb h11, pw_cell_below hb h12, pw_cell_below hb h13, pw_cell_below hb h14, pw_cell_below hb h15, pw_cell_below hb h16, pw_cell_below hb h17, pw_cell_below hb h18, pw_cell_below hb h19, pw_cell_below hb h20, pw_cell_below hb h21, pw_cell_below hb h22, pw_cell_below hb h23⟩
theorem lvS.of {w : World} {g : Nat} (h : Kd.C k36 w (some ⟨g, 0, none⟩) 2 lvL) : ∃ Aa ca Ab cb, lvS g Aa ca Ab cb w ∧ 1 ≤ cb ∧ Kd.C k74 w Aa 0 [] ∧ Kd.C k74 w Ab 1 lvB.f8 := by
  obtain ⟨ad, Aa, ca, he, a0, a1, a2, a3, a4, a5, a6, a7, a8, a9, a10, a11, al, ac⟩ := at_T36 h 0 (by decide) (by decide)
  cases Option.some.inj he
  obtain ⟨ad', Ab, cb, he, b0, b1, b2, b3, b4, b5, b6, b7, b8, b9, b10, b11, bl, bc⟩ := at_T36 h 1 (by decide) (by decide)
  cases Option.some.inj he
  exact ⟨Aa, ca, Ab, cb, ⟨a0, a1, a2, a3, a4, a5, a6, a7, a8, a9, a10, a11, b0, b1, b2, b3, b4, b5, b6, b7, b8, b9, b10, b11⟩, bl, ac, bc⟩
theorem fld_name (s : ByteArray) (x1 : Bool) (x2 x3 x4 x5 x6 x7 x8 : Int) (x9 : Bool) (x10 : Int) (v : Value) (w : World) : (Instr.field 36 (.agg #[.string s, .bool x1, .int .u64 x2, .int .u64 x3, .int .i64 x4, .int .i64 x5, .int .i64 x6, .int .i64 x7, .int .i64 x8, .bool x9, .int .i64 x10, v]) 0).run Tryz.prog w = .ok (.string s) w := by kernel_rfl
def w18_lives.f (k : Nat) : Option Bool := some true
theorem w18_lives.mono : ∀ k, LeO (w18_lives.f k) (w18_lives.f (k + 1)) := fun k => LeO.refl _
theorem w18_lives.calls (k : Nat) (r : Bool) (w : World) (h : w18_lives.f k = some r) (hW : WOK w) :
    Calls Tryz.prog 11 #[] w fun e w' => e = .returned (.bool r) ∧ Below w.heap.size w w' := by
  injection h with h
  subst h
  have hu := Tryz.underlying36
  have hu2 := Tryz.underlying22
  have hu3 := Tryz.underlying31
  have HW := Aside0.mk hW
  clear hW
  go_enter Tryz.func11, Tryz.ntmps11
  go_wp2_with fail
  refine (asset_Parse.calls 200 lvT1 _ _ _ w lives18.e1 HW.out).mono ?_
  rintro e w1 ⟨v, rfl, ho, hb⟩
  obtain ⟨g1, c1, hv, _⟩ := Kd.R_form ho (by decide)
  rw [show lvL.length = 2 from rfl] at hv
  subst hv
  have HC : Aside0 (Kd.C k36 w1 (some ⟨g1, 0, none⟩) 2 lvL) := ⟨(Kd.R_reads' ho).2.2⟩
  have HCAP : Aside0 (2 ≤ c1) := ⟨(Kd.R_reads' ho).2.1⟩
  have HB := Aside0.mk hb
  clear ho hb
  go_wp2_with fail
  refine (asset_Parse.calls 200 lvT2 _ _ _ w1 lives18.e2 (HW.out.below HB.out)).mono ?_
  rintro e w2 ⟨v, rfl, ho, hb⟩
  have HB1 : Aside0 (Below w1.heap.size w1 w2) := ⟨hb⟩
  clear ho hb
  go_wp2_with fail
  refine (new_ok 200 (some ⟨g1, 0, none⟩) c1 lvL w2 (Kd.C_below HC.out HB1.out) HCAP.out lives18.e3 (by decide) (by decide)).mono ?_
  rintro e w3 ⟨wn, p, v3, rfl, hbn, hT⟩
  have HB3 : Aside0 (Below w2.heap.size w2 w3) := ⟨below_then hbn hbn.size hT.bel⟩
  have HT := Aside0.mk hT
  have HBA := Aside0.mk (below_then HB.out HB.out.size (below_then HB1.out HB1.out.size HB3.out))
  replace HC := Aside0.mk (Kd.C_below HC.out (below_then HB1.out HB1.out.size HB3.out))
  replace HB := HBA
  clear HB1 HB3 HBA hbn hT
  obtain ⟨Aa, ca, Ab, cb, hS, hcb, ac, bc⟩ := lvS.of HC.out
  have HS := Aside0.mk hS
  have HAC := Aside0.mk ac
  have HBC := Aside0.mk bc
  clear hS ac bc
  have hfl := fld_name
  have hcap : 2 ≤ c1 := HCAP.out
  have hcapI : ((1 : Int) ≤ (c1 : Int)) = True := eq_true (by omega)
  go_upto_region 6 with (fail)
  refine start_ (n := 58) (S := fun w' => lvS g1 Aa ca Ab cb w') (ds := []) #[false, false, false, false, false, false, false, false, false, false, false, false, false, false, false, false, false, false, false, false, false, false, false, false, false, false, false, false, false, false, false, false, false, false, false, false, false, false, false, false, false, false, false, false, false, false, false, false, false, false, false, false, false, false, false, false, false, false] (by kernel_rfl) rfl rfl (lvS.below HS.out (below_drew (Below.refl _ _))) (fun hHeld => ?_)
  replace HC := Aside0.mk (Kd.C_drew HC.out)
  replace HAC := Aside0.mk (Kd.C_drew HAC.out)
  replace HBC := Aside0.mk (Kd.C_drew HBC.out)
  replace HB := Aside0.mk (below_drew HB.out)
  replace HT := Aside0.mk (HT.out.below (below_drew (Below.refl _ _)))
  clear HS
  generalize w3.drew = W3 at HC HAC HBC HB HT hHeld ⊢
  refine zp0 0 51 ?_
  refine zp0 1 52 ?_
  refine zp0 2 53 ?_
  refine zt0 3 54 hHeld ?_
  refine zp0 4 55 ?_
  refine zp0 5 56 ?_
  refine zp0 6 57 ?_
  refine zp0 7 58 ?_
  refine zp0 8 59 ?_
  refine zt0 9 60 hHeld ?_
  refine zp0 10 61 ?_
  refine zp0 11 62 ?_
  refine zp0 12 63 ?_
  refine zp0 13 64 ?_
  refine zp0 14 65 ?_
  refine zt0 15 66 hHeld ?_
  refine zo0 16 67 (fun K hK => ?_)
  refine zg Tryz.func19 #[.agg #[.string ⟨#[98]⟩, .bool false, .int .u64 0, .int .u64 167772160, .int .i64 24, .int .i64 1, .int .i64 1, .int .i64 0, .int .i64 8192, .bool false, .int .i64 1, .slice Ab 1 cb], .int .i64 6, .int .i64 80] ?_
  refine (asset_App.calls 200 lvB.f0 lvB.f1.f0.f0 lvB.f1.f0.f1 lvB.f1.f0.f2 lvB.f1.f1 lvB.f2 lvB.f3 lvB.f4 lvB.f5 lvB.f6 lvB.f7 Ab cb lvB.f8 6 80 1 W3 HBC.out hcb lives18.e4).mono ?_
  rintro e W4 ⟨rfl, hb⟩
  refine ⟨.int .i64 1, rfl, ?_⟩
  replace HC := Aside0.mk (Kd.C_below HC.out hb)
  replace HAC := Aside0.mk (Kd.C_below HAC.out hb)
  replace HBC := Aside0.mk (Kd.C_below HBC.out hb)
  replace HB := Aside0.mk (below_then HB.out HB.out.size hb)
  replace HT := Aside0.mk (HT.out.below hb)
  refine hK.out _ _ (lvS.below hHeld hb) (fun hHeld => ?_)
  clear hK K hb
  refine zn 67 ?_
  refine zp0 17 68 ?_
  refine zp0 18 69 ?_
  refine zp0 19 70 ?_
  refine zp0 20 71 ?_
  refine zp0 21 72 ?_
  refine zo0 22 73 (fun K hK => ?_)
  refine zg Tryz.func27 #[.pointer (some ⟨p, 0, none⟩), .agg #[.bool false, .int .u64 0, .int .u64 167772161]] ?_
  refine (find_ok wn W4 p lvL v3 false 0 167772161 lvB HT.out (by decide) (by decide) lives18.e5).mono ?_
  rintro e W5 ⟨v122, rfl, _, hb⟩
  refine ⟨.agg #[.string ⟨#[98]⟩, .bool false, .int .u64 0, .int .u64 167772160, .int .i64 24, .int .i64 1, .int .i64 1, .int .i64 0, .int .i64 8192, .bool false, .int .i64 1, v122], rfl, ?_⟩
  replace HC := Aside0.mk (Kd.C_below HC.out hb)
  replace HAC := Aside0.mk (Kd.C_below HAC.out hb)
  replace HBC := Aside0.mk (Kd.C_below HBC.out hb)
  replace HB := Aside0.mk (below_then HB.out HB.out.size hb)
  replace HT := Aside0.mk (HT.out.below hb)
  refine hK.out _ _ (lvS.below hHeld hb) (fun hHeld => ?_)
  clear hK K hb
  refine zn 73 ?_
  refine zp0 23 74 ?_
  refine zp0 24 75 ?_
  refine zp0 25 76 ?_
  refine zp0 26 77 ?_
  refine zp0 27 78 ?_
  refine zp0 28 79 ?_
  refine zo0 29 80 (fun K hK => ?_)
  refine zg Tryz.func27 #[.pointer (some ⟨p, 0, none⟩), .agg #[.bool false, .int .u64 0, .int .u64 167837696]] ?_
  refine (find_ok wn W5 p lvL v3 false 0 167837696 lvA HT.out (by decide) (by decide) lives18.e6).mono ?_
  rintro e W6 ⟨v129, rfl, _, hb⟩
  refine ⟨.agg #[.string ⟨#[97]⟩, .bool false, .int .u64 0, .int .u64 167772160, .int .i64 8, .int .i64 1, .int .i64 1, .int .i64 0, .int .i64 8192, .bool false, .int .i64 2, v129], rfl, ?_⟩
  replace HC := Aside0.mk (Kd.C_below HC.out hb)
  replace HAC := Aside0.mk (Kd.C_below HAC.out hb)
  replace HBC := Aside0.mk (Kd.C_below HBC.out hb)
  replace HB := Aside0.mk (below_then HB.out HB.out.size hb)
  replace HT := Aside0.mk (HT.out.below hb)
  refine hK.out _ _ (lvS.below hHeld hb) (fun hHeld => ?_)
  clear hK K hb
  refine zn 80 ?_
  refine zp0 30 81 ?_
  refine zp0 31 82 ?_
  refine zp0 32 83 ?_
  refine zp0 33 84 ?_
  refine zp0 34 85 ?_
  refine zp0 35 86 ?_
  refine zo0 36 87 (fun K hK => ?_)
  refine zg Tryz.func27 #[.pointer (some ⟨p, 0, none⟩), .agg #[.bool false, .int .u64 0, .int .u64 0]] ?_
  refine (find_ok wn W6 p lvL v3 false 0 0 aDef HT.out (by decide) (by decide) lives18.e7).mono ?_
  rintro e W7 ⟨v136, rfl, _, hb⟩
  refine ⟨.agg #[.string ⟨#[100, 101, 102, 97, 117, 108, 116]⟩, .bool false, .int .u64 0, .int .u64 0, .int .i64 0, .int .i64 1, .int .i64 1, .int .i64 0, .int .i64 8192, .bool false, .int .i64 1, v136], rfl, ?_⟩
  replace HC := Aside0.mk (Kd.C_below HC.out hb)
  replace HAC := Aside0.mk (Kd.C_below HAC.out hb)
  replace HBC := Aside0.mk (Kd.C_below HBC.out hb)
  replace HB := Aside0.mk (below_then HB.out HB.out.size hb)
  replace HT := Aside0.mk (HT.out.below hb)
  refine hK.out _ _ (lvS.below hHeld hb) (fun hHeld => ?_)
  clear hK K hb
  refine zn 87 ?_
  refine zp0 37 88 ?_
  refine zp0 38 89 ?_
  refine zp0 39 90 ?_
  refine zp0 40 91 ?_
  refine zp0 41 92 ?_
  refine zp0 42 93 ?_
  refine zo0 43 94 (fun K hK => ?_)
  refine zg Tryz.func14 #[.slice (some ⟨g1, 0, none⟩) 1 c1] ?_
  refine (asset_Format.calls 200 (some ⟨g1, 0, none⟩) c1 [lvA] lvT3 W7 (one_C HC.out) (Nat.le_of_succ_le hcap) lives18.e8 (HW.out.below HB.out)).mono ?_
  rintro e W8 ⟨rfl, hb⟩
  refine ⟨.string ⟨#[104, 111, 115, 116, 32, 97, 32, 49, 48, 46, 48, 46, 48, 46, 48, 47, 56, 32, 118, 97, 108, 117, 101, 32, 50, 59, 10]⟩, rfl, ?_⟩
  replace HC := Aside0.mk (Kd.C_below HC.out hb)
  replace HAC := Aside0.mk (Kd.C_below HAC.out hb)
  replace HBC := Aside0.mk (Kd.C_below HBC.out hb)
  replace HB := Aside0.mk (below_then HB.out HB.out.size hb)
  replace HT := Aside0.mk (HT.out.below hb)
  refine hK.out _ _ (lvS.below hHeld hb) (fun hHeld => ?_)
  clear hK K hb
  refine zn 94 ?_
  refine zp0 44 95 ?_
  refine zp0 45 96 ?_
  refine zp0 46 97 ?_
  refine zp0 47 98 ?_
  refine zp0 48 99 ?_
  refine zp0 49 100 ?_
  refine zp0 50 101 ?_
  refine zt0 51 102 hHeld ?_
  refine zo0 52 103 (fun K hK => ?_)
  refine value_ (w1 := ?_) (v := ?_) (by rfl) rfl ?_ ?_
  rotate_left 2
  · go_simp
    constructor
    · rfl
    · rfl
  have hb := below_alloc (Below.refl _ W8) (.cells #[.string ⟨#[97]⟩, .bool false, .int .u64 0, .int .u64 167772160, .int .i64 8, .int .i64 1, .int .i64 1, .int .i64 0, .int .i64 8192, .bool false, .int .i64 2, .slice Aa 0 ca] 36)
  refine hK.out _ _ (lvS.below hHeld hb) (fun hHeld => ?_)
  clear hK K
  refine zn 103 ?_
  have HN : Aside0 ((W8.alloc (.cells #[.string ⟨#[97]⟩, .bool false, .int .u64 0, .int .u64 167772160, .int .i64 8, .int .i64 1, .int .i64 1, .int .i64 0, .int .i64 8192, .bool false, .int .i64 2, .slice Aa 0 ca] 36)).heap[W8.heap.size]? = some (.cells #[.string ⟨#[97]⟩, .bool false, .int .u64 0, .int .u64 167772160, .int .i64 8, .int .i64 1, .int .i64 1, .int .i64 0, .int .i64 8192, .bool false, .int .i64 2, .slice Aa 0 ca] 36 (0, 0))) := ⟨heap_alloc_new _ _⟩
  replace HC := Aside0.mk (Kd.C_below HC.out hb)
  replace HAC := Aside0.mk (Kd.C_below HAC.out hb)
  replace HB := Aside0.mk (below_then HB.out HB.out.size hb)
  clear hb HT HBC
  generalize W8.heap.size = gn at HN ⊢
  generalize W8.alloc (.cells #[.string ⟨#[97]⟩, .bool false, .int .u64 0, .int .u64 167772160, .int .i64 8, .int .i64 1, .int .i64 1, .int .i64 0, .int .i64 8192, .bool false, .int .i64 2, .slice Aa 0 ca] 36) = U1 at HN HC HAC HB hHeld ⊢
  have hOld : ∀ j u, (#[.string ⟨#[97]⟩, .bool false, .int .u64 0, .int .u64 167772160, .int .i64 8, .int .i64 1, .int .i64 1, .int .i64 0, .int .i64 8192, .bool false, .int .i64 2, .slice Aa 0 ca] : Array Value).toList[j]? = some u → U1.cell? ((⟨g1, 0, none⟩ : Addr).add j) = some u := by
    intro j u hj
    obtain ⟨h0, h1, h2, h3, h4, h5, h6, h7, h8, h9, h10, h11, h12, h13, h14, h15, h16, h17, h18, h19, h20, h21, h22, h23⟩ := hHeld
    rcases j with _ | _ | _ | _ | _ | _ | _ | _ | _ | _ | _ | _ | j
    · cases Option.some.inj hj; exact h0
    · cases Option.some.inj hj; exact h1
    · cases Option.some.inj hj; exact h2
    · cases Option.some.inj hj; exact h3
    · cases Option.some.inj hj; exact h4
    · cases Option.some.inj hj; exact h5
    · cases Option.some.inj hj; exact h6
    · cases Option.some.inj hj; exact h7
    · cases Option.some.inj hj; exact h8
    · cases Option.some.inj hj; exact h9
    · cases Option.some.inj hj; exact h10
    · cases Option.some.inj hj; exact h11
    · simp at hj
  have hNew : ∀ j u, (#[.string ⟨#[97]⟩, .bool false, .int .u64 0, .int .u64 167772160, .int .i64 8, .int .i64 1, .int .i64 1, .int .i64 0, .int .i64 8192, .bool false, .int .i64 2, .slice Aa 0 ca] : Array Value).toList[j]? = some u → U1.cell? ((⟨gn, 0, none⟩ : Addr).add j) = some u := fun j u hj => by
    rw [Addr.add_lit, Nat.zero_add, blk_cell HN.out j, ← Array.getElem?_toList]
    exact hj
  obtain ⟨v5, U2, hrun, hown, hgr⟩ := run_append_arg_grows (P := Tryz.prog) U1 22 22 36 _ _ 12 120 hu2 rfl rfl rfl rfl rfl (by decide) ⟨g1, 0, none⟩ 1 1 (#[.string ⟨#[97]⟩, .bool false, .int .u64 0, .int .u64 167772160, .int .i64 8, .int .i64 1, .int .i64 1, .int .i64 0, .int .i64 8192, .bool false, .int .i64 2, .slice Aa 0 ca] : Array Value).toList rfl hOld ⟨gn, 0, none⟩ 1 1 (#[.string ⟨#[97]⟩, .bool false, .int .u64 0, .int .u64 167772160, .int .i64 8, .int .i64 1, .int .i64 1, .int .i64 0, .int .i64 8192, .bool false, .int .i64 2, .slice Aa 0 ca] : Array Value).toList rfl hNew (by decide) (by decide) (by decide)
  obtain ⟨A5, c5, hv5, hc5⟩ := q_slice (q_of_own hown)
  subst hv5
  have HB5 := Aside0.mk ((Below.refl _ U1).grown hgr (Nat.le_refl _) (by simp))
  have hCC : Kd.C k36 U2 A5 2 [lvA, lvA] := two_C hown rfl (k36_mk U2 lvA (A11 := Aa) (c11 := ca) (Nat.zero_le _) (Kd.C_below HAC.out HB5.out))
  refine zo0 53 104 (fun K hK => ?_)
  refine value_ (w1 := U2) (v := .slice A5 2 c5) (by rfl) rfl ?_ ?_
  · simp [execOp, resolve, invoke, builtin, Act.eval, hrun, Result.andThen]
  refine hK.out _ _ (lvS.below hHeld HB5.out) (fun hHeld => ?_)
  clear hK K hrun hown hgr hOld hNew
  refine zn 104 ?_
  refine zo0 54 105 (fun K hK => ?_)
  refine zg Tryz.func12 #[.slice A5 2 c5] ?_
  refine (asset_Check.calls 200 A5 c5 [lvA, lvA] 7 U2 hCC hc5 lives18.e9).mono ?_
  rintro e U3 ⟨rfl, hb⟩
  refine ⟨.int .i64 7, rfl, ?_⟩
  refine hK.out _ _ (lvS.below hHeld hb) (fun hHeld => ?_)
  have HBE := Aside0.mk (below_then HB.out HB.out.size (below_then HB5.out HB5.out.size hb))
  clear hK K hb hCC HB HB5 HC HAC HN
  refine zn 105 ?_
  refine zp0 55 106 ?_
  refine zp0 56 107 ?_
  refine zp0 57 0 ?_
  refine zd0 ?_
  go_wp2
  go_ret
  exact ⟨rfl, HBE.out⟩
def awB (a : Ad) : Bool := decide (0 ≤ a.f1 ∧ a.f1 < 18446744073709551616 ∧ 0 ≤ a.f2 ∧ a.f2 < 18446744073709551616)
theorem awB_iff {a : Ad} : awB a = true ↔ AW a := by unfold awB AW; rw [decide_eq_true_eq]
def w18_AssetFinds.f (k : Nat) (l : List S36) (b0 : Bool) (b1 b2 : Int) : Option Bool := if (l.all (fun x => awB x.f1.f0) && awB ⟨b0, b1, b2⟩) = true then some true else none
theorem found_len {l : List S36} (h : ∀ x ∈ l, GoodA x) (b : Ad) : (findS b l aDef (-1)).f8.length ≤ 1000 := by
  rcases findS_spec b l aDef (-1) with ⟨e, _⟩ | ⟨e, _⟩
  · rw [e]; decide
  · have := (h _ e).f8; omega
abbrev asT (A : S36) (v : Value) : Value := .agg #[.string A.f0, .bool A.f1.f0.f0, .int .u64 A.f1.f0.f1, .int .u64 A.f1.f0.f2, .int .i64 A.f1.f1, .int .i64 A.f2, .int .i64 A.f3, .int .i64 A.f4, .int .i64 A.f5, .bool A.f6, .int .i64 A.f7, v]
theorem w18_AssetFinds.calls (k : Nat) (A : Option Addr) (c : Nat) (l : List S36) (b0 : Bool) (b1 b2 : Int) (r : Bool) (w : World) (hC : Kd.C k36 w A l.length l) (hc : l.length ≤ c) (h : w18_AssetFinds.f k l b0 b1 b2 = some r) (hW_ : WOK w) :
    Calls Tryz.prog 6 #[.slice A l.length c, .agg #[.bool b0, .int .u64 b1, .int .u64 b2]] w fun e w' => e = .returned (.bool r) ∧ Below w.heap.size w w' := by
  have hu4 := Tryz.underlying31
  unfold w18_AssetFinds.f at h
  split at h
  case isFalse => cases h
  rename_i hok
  have hr := Option.some.inj h
  subst hr
  rw [Bool.and_eq_true, List.all_eq_true] at hok
  have ha : ∀ x ∈ l, AW x.f1.f0 := fun x hx => awB_iff.1 (hok.1 x hx)
  have hb : AW ⟨b0, b1, b2⟩ := awB_iff.1 hok.2
  have HA := Aside0.mk ha
  have HBW := Aside0.mk hb
  have HW := Aside0.mk hW_
  have HC := Aside0.mk hC
  have HCC := Aside0.mk hc
  obtain ⟨K1, e1⟩ := (few_ev l).rounds
  have E1 := Aside0.mk e1
  obtain ⟨n, hn⟩ : ∃ n, l.length = n := ⟨_, rfl⟩
  have HN := Aside0.mk hn
  rw [hn]
  clear hok h ha hb hW_ hC hc e1 hn
  go_enter Tryz.func6, Tryz.ntmps6
  go_upto_region 1 with (fail)
  have HX : Aside0 ((w.alloc (.cells #[.bool b0, .int .u64 b1, .int .u64 b2] 31)).heap[w.heap.size]? = some (.cells #[.bool b0, .int .u64 b1, .int .u64 b2] 31 (0, 0))) := ⟨heap_alloc_new _ _⟩
  have HB := Aside0.mk (below_alloc (Below.refl w.heap.size w) (.cells #[.bool b0, .int .u64 b1, .int .u64 b2] 31))
  obtain ⟨ga, hga⟩ : ∃ x, w.heap.size = x := ⟨_, rfl⟩
  rw [hga] at HX
  simp only [hga]
  clear hga
  change Code.wp _ _ _ _ (w.alloc (.cells #[.bool b0, .int .u64 b1, .int .u64 b2] 31))
  generalize w.alloc (.cells #[.bool b0, .int .u64 b1, .int .u64 b2] 31) = W1 at HX HB ⊢
  go_wp2_with fail
  have hcf := r18_Few.calls K1 A c l _ W1 (Kd.C_below HC.out HB.out) HCC.out E1.out
  rw [HN.out] at hcf
  refine hcf.mono ?_
  rintro e w2 ⟨rfl, hb⟩
  replace HX := Aside0.mk (blk_below HX.out hb.below)
  replace HB := Aside0.mk (below_then HB.out HB.out.size hb.below)
  clear hb hcf
  cases hf : fewB l
  · clear hf
    go_wp2_with fail
    refine (w18_lives.calls 0 true w2 rfl (HW.out.below HB.out)).mono ?_
    rintro e w3 ⟨rfl, hb⟩
    replace HB := Aside0.mk (below_then HB.out HB.out.size hb)
    clear hb
    go_wp2
    go_ret
    exact ⟨rfl, HB.out⟩
  obtain ⟨q0, q1, q2⟩ := zc3 HX
  go_wp2_with fail
  refine (r06_Valid.calls b0 b1 b2 (adB ⟨b0, b1, b2⟩) w2 (rfine_eq ⟨b0, b1, b2⟩)).mono ?_
  rintro e w3 ⟨rfl, hb⟩
  replace HX := Aside0.mk (blk_below HX.out hb)
  replace HB := Aside0.mk (below_then HB.out HB.out.size hb)
  clear hb hf q0 q1 q2
  cases hv : adB ⟨b0, b1, b2⟩
  · clear hv
    go_wp2_with fail
    refine (w18_lives.calls 0 true w3 rfl (HW.out.below HB.out)).mono ?_
    rintro e w4 ⟨rfl, hb⟩
    replace HB := Aside0.mk (below_then HB.out HB.out.size hb)
    clear hb
    go_wp2
    go_ret
    exact ⟨rfl, HB.out⟩
  have HAF := Aside0.mk ((fine_iff HBW.out).1 hv)
  clear hv
  obtain ⟨K2, e2⟩ := (check_ev l HA.out).rounds
  obtain ⟨K3, e3⟩ := (rcheck_ev l HA.out).rounds
  by_cases hk : chkB l = 0
  · have HGD : Aside0 (l.length ≤ 64 ∧ ∀ x ∈ l, GoodA x) := ⟨(chkB_one hk).1, fun x hx => good_of ((chkB_one hk).2 x hx)⟩
    rw [hk] at e2 e3
    have E2 := Aside0.mk e2
    have E3 := Aside0.mk e3
    clear e2 e3 hk
    go_wp2_with fail
    have hcn := new_ok K2 A c l w3 (Kd.C_below HC.out HB.out) HCC.out E2.out (by have := HGD.out.1; omega) (fun x hx => by have := (HGD.out.2 x hx).f8; omega)
    rw [HN.out] at hcn
    refine hcn.mono ?_
    rintro e w4 ⟨wn, pt, vt, rfl, hbn, hT⟩
    have HBN := Aside0.mk (below_then hbn hbn.size hT.bel)
    have HT := Aside0.mk hT
    replace HX := Aside0.mk (blk_below HX.out HBN.out)
    replace HB := Aside0.mk (below_then HB.out HB.out.size HBN.out)
    clear hbn hT HBN hcn
    go_wp2_with fail
    have hcn := rnew_ok K3 A c l w4 (Kd.C_below HC.out HB.out) HCC.out E3.out
    rw [HN.out] at hcn
    refine hcn.mono ?_
    rintro e w5 ⟨px, rfl, hpx, hb, hpw⟩
    have HP := Aside0.mk hpx
    replace HX := Aside0.mk (blk_below HX.out hb)
    replace HT := Aside0.mk (HT.out.below hb)
    replace HB := Aside0.mk (below_then HB.out HB.out.size hb)
    clear hpx hb hpw hcn
    go_upto_region 7 with (fail)
    refine start_ (n := 15) (S := fun w' => w'.cell? ⟨ga, 0, none⟩ = some (.bool b0) ∧ w'.cell? ⟨ga, 1, none⟩ = some (.int .u64 b1) ∧ w'.cell? ⟨ga, 2, none⟩ = some (.int .u64 b2)) (ds := []) #[false, false, false, false, false, false, false, false, false, false, false, false, false, false, false] (by kernel_rfl) rfl rfl ⟨zc HX 0, zc HX 1, zc HX 2⟩ (fun hHeld => ?_)
    replace HX := Aside0.mk (blk_below HX.out (below_drew (Below.refl _ _)))
    replace HP := Aside0.mk (blk_below HP.out (below_drew (Below.refl _ _)))
    replace HT := Aside0.mk (HT.out.below (below_drew (Below.refl _ _)))
    replace HB := Aside0.mk (below_drew HB.out)
    generalize w5.drew = V5 at HX HP HT HB hHeld ⊢
    refine zp0 0 38 ?_; refine zp0 1 39 ?_; refine zp0 2 40 ?_; refine zp0 3 41 ?_; refine zt0 4 42 hHeld ?_; refine zp0 6 44 ?_; refine zt0 7 45 hHeld ?_; refine zo0 5 43 (fun K hK => ?_)
    have hfe : asset_Find.f l b0 b1 b2 = some (findS ⟨b0, b1, b2⟩ l aDef (-1)) := find_eq HBW.out l (fun x hx => ⟨HGD.out.2 x hx, HA.out x hx⟩) aDef (-1)
    obtain ⟨X, hX⟩ : ∃ X, findS ⟨b0, b1, b2⟩ l aDef (-1) = X := ⟨_, rfl⟩
    have HXL : Aside0 (X.f8.length ≤ 1000) := ⟨by rw [← hX]; exact found_len HGD.out.2 _⟩
    rw [hX] at hfe
    have HXE := Aside0.mk hX
    refine zg Tryz.func27 #[.pointer (some ⟨pt, 0, none⟩), .agg #[.bool b0, .int .u64 b1, .int .u64 b2]] ?_
    refine (find_ok wn V5 pt l vt b0 b1 b2 X HT.out (by have := HGD.out.1; omega) (fun x hx => by have := (HGD.out.2 x hx).f8; omega) hfe).mono ?_
    rintro e w6 ⟨v', rfl, ho, hb⟩
    obtain ⟨A6, c6, hv6⟩ := Kd.R_slice ho
    subst hv6
    refine ⟨asT X (.slice A6 X.f8.length c6), rfl, ?_⟩
    have HS6 : Aside0 (X.f8.length ≤ c6 ∧ Kd.C k74 w6 A6 X.f8.length X.f8) := ⟨(Kd.R_reads' ho).2⟩
    replace HX := Aside0.mk (blk_below HX.out hb)
    replace HP := Aside0.mk (blk_below HP.out hb)
    replace HB := Aside0.mk (below_then HB.out HB.out.size hb)
    refine hK.out _ _ ⟨zc HX 0, zc HX 1, zc HX 2⟩ (fun hHeld => ?_)
    clear hK K hb ho hfe hX HT
    refine zn 43 ?_
    refine zo0 8 46 (fun K hK => ?_)
    refine zg Tryz.func28 #[.pointer (some ⟨px, 0, none⟩), .agg #[.bool b0, .int .u64 b1, .int .u64 b2]] ?_
    refine (rfind_ok w6 px A c l ⟨b0, b1, b2⟩ X (by rw [HN.out]; exact HP.out) (Kd.C_below HC.out HB.out) (by have := HGD.out.1; omega) (fun x hx => (rin_ev (HGD.out.2 x hx) HAF.out).rounds) HXE.out).mono ?_
    rintro e w7 ⟨A7, c7, rfl, hs7, hc7, hb⟩
    refine ⟨asT X (.slice A7 X.f8.length c7), rfl, ?_⟩
    have HS7 := Aside0.mk hs7
    have HC7 := Aside0.mk hc7
    replace HS6 : Aside0 (X.f8.length ≤ c6 ∧ Kd.C k74 w7 A6 X.f8.length X.f8) := ⟨HS6.out.1, Kd.C_below HS6.out.2 hb⟩
    replace HX := Aside0.mk (blk_below HX.out hb)
    replace HB := Aside0.mk (below_then HB.out HB.out.size hb)
    refine hK.out _ _ ⟨zc HX 0, zc HX 1, zc HX 2⟩ (fun hHeld => ?_)
    clear hK K hb hs7 hc7
    refine zn 46 ?_
    refine zo0 9 47 (fun K hK => ?_)
    obtain ⟨v4, hv4, e4⟩ := one_some X X HXL.out
    obtain rfl := hv4.2 rfl
    obtain ⟨K4, e4⟩ := e4.rounds
    refine zg Tryz.func16 #[asT X (.slice A6 X.f8.length c6), asT X (.slice A7 X.f8.length c7)] ?_
    refine (r18_One.calls K4 _ _ _ _ _ _ _ _ _ _ _ A6 c6 X.f8 _ _ _ _ _ _ _ _ _ _ _ A7 c7 X.f8 true w7 HS6.out.2 HS6.out.1 HS7.out HC7.out e4).mono ?_
    rintro e w8 ⟨rfl, hb⟩
    refine ⟨_, rfl, ?_⟩
    replace HX := Aside0.mk (blk_below HX.out hb)
    replace HB := Aside0.mk (below_then HB.out HB.out.size hb)
    refine hK.out _ _ ⟨zc HX 0, zc HX 1, zc HX 2⟩ (fun hHeld => ?_)
    clear hK K hb e4 hv4
    refine zn 47 ?_; refine zp0 10 48 ?_; refine zp0 11 49 ?_
    refine zo0 12 50 (fun K hK => ?_)
    refine zg Tryz.func11 #[] ?_
    refine (w18_lives.calls 0 true w8 rfl (HW.out.below HB.out)).mono ?_
    rintro e w9 ⟨rfl, hb⟩
    refine ⟨_, rfl, ?_⟩
    replace HX := Aside0.mk (blk_below HX.out hb)
    replace HB := Aside0.mk (below_then HB.out HB.out.size hb)
    refine hK.out _ _ ⟨zc HX 0, zc HX 1, zc HX 2⟩ (fun hHeld => ?_)
    clear hK K hb
    refine zn 50 ?_; refine zp0 13 51 ?_; refine zp0 14 4 ?_
    refine zd0 ?_
    go_wp2
    go_ret
    exact ⟨rfl, HB.out⟩
  · obtain ⟨er, her⟩ : ∃ er, chkB l = er := ⟨_, rfl⟩
    rw [her] at e2 e3 hk
    have E2 := Aside0.mk e2
    have E3 := Aside0.mk e3
    have HK := Aside0.mk hk
    have g1 : (er != 0) = true := bne_iff_ne.mpr hk
    clear e2 e3 hk her
    go_wp2_with fail
    have hcn := new_bad K2 A c l er w3 (Kd.C_below HC.out HB.out) HCC.out E2.out HK.out
    rw [HN.out] at hcn
    refine hcn.mono ?_
    rintro e w4 ⟨rfl, hb⟩
    replace HX := Aside0.mk (blk_below HX.out hb)
    replace HB := Aside0.mk (below_then HB.out HB.out.size hb)
    clear hb hcn
    go_wp2_with fail
    have hcn := rnew_bad K3 A c l er w4 (Kd.C_below HC.out HB.out) HCC.out E3.out HK.out
    rw [HN.out] at hcn
    refine hcn.mono ?_
    rintro e w5 ⟨rfl, hb⟩
    replace HX := Aside0.mk (blk_below HX.out hb)
    replace HB := Aside0.mk (below_then HB.out HB.out.size hb)
    clear hb hcn
    have g2 : (er != er) = false := bne_self_eq_false er
    go_upto_region 7 with (fail)
    refine start_ (n := 15) (S := fun w' => True) (ds := []) #[false, false, false, false, false, false, false, false, false, false, false, false, false, false, false] (by kernel_rfl) rfl rfl trivial (fun hHeld => ?_)
    replace HB := Aside0.mk (below_drew HB.out)
    generalize w5.drew = V5 at HB hHeld ⊢
    refine zp0 0 38 ?_; refine zp0 1 39 ?_; refine zp0 2 40 ?_; refine zu0 3 41 ?_; refine zu0 4 42 ?_; refine zu0 5 43 ?_; refine zu0 6 44 ?_; refine zu0 7 45 ?_; refine zu0 8 46 ?_; refine zu0 9 47 ?_; refine zp0 10 48 ?_; refine zp0 11 49 ?_
    refine zo0 12 50 (fun K hK => ?_)
    refine zg Tryz.func11 #[] ?_
    refine (w18_lives.calls 0 true V5 rfl (HW.out.below HB.out)).mono ?_
    rintro e w9 ⟨rfl, hb⟩
    refine ⟨_, rfl, ?_⟩
    replace HB := Aside0.mk (below_then HB.out HB.out.size hb)
    refine hK.out _ _ trivial (fun hHeld => ?_)
    clear hK K hb
    refine zn 50 ?_; refine zp0 13 51 ?_; refine zp0 14 4 ?_
    refine zd0 ?_
    go_wp2
    go_ret
    exact ⟨rfl, HB.out⟩
end Go.Proofs.YtnphnhkinjppjaaGreatDoor.Q
end

section
namespace Go.Proofs.YtnphnhkinjppjaaGreatDoor.Pure
open Go.RowKit Go.Proofs.YtnphnhkinjppjaaGreatDoor.Q Go.Proofs.YtnphnhkinjppjaaGreatDoorW.PrintWords Go.Proofs.YtnphnhkinjppjaaGreatDoorW.PrintLast
theorem AssetFinds : ∀ (l0 : List (S36)) (x1 : S31), l0.length ≤ maxLen → (∀ x ∈ l0, q36 x) → q31 x1 → ∃ k, w18_AssetFinds.f k l0 x1.f0 x1.f1 x1.f2 = some true := by
  intro l b _ hq hb
  refine ⟨0, if_pos ?_⟩
  rw [Bool.and_eq_true, List.all_eq_true]
  exact ⟨fun x hx => awB_iff.2 (aw_of (hq x hx).2.1.1), awB_iff.2 (aw_of hb)⟩
end Go.Proofs.YtnphnhkinjppjaaGreatDoor.Pure
end

section
set_option maxHeartbeats 8000000
set_option maxRecDepth 100000
namespace Go.Proofs.YtnphnhkinjppjaaGreatDoor.Q
open Go.RowKit
theorem returns_laid {H : Type} {enc : TypeId × Value → H} {a : Assume} {C : Checked} {os : Os} {f : FuncId} {fn : Func} {s : ChangeSpec} {conds : List PathCond} {apart fresh handsOn again : Bool} {X : World → Array Value → Prop}
    (hX : ∀ (w w' : World) (args : Array Value), w.heap = w'.heap → X w args → X w' args)
    (own : ownKnob C.prog.godebug = none) (started : os.Started) (noInit : C.prog.inits.idxOf? f = none) (hfn : C.prog.funcs[f]? = some fn)
    (witness : ∃ (w : World) (tape : Tape) (i : Input), w.os = os ∧ (w.forCall tape i).Shaped C.prog ∧ i.vars = [] ∧ Input.okWide C.prog (w.forCall tape i) .any w.heap.size f i ∧
      ((s.pre enc C.prog fn conds apart (w.forCall tape i).memory i.args ∧ X (w.forCall tape i).memory i.args) ∧ sizedMet enc C.prog fn (OpenSpec.ofChange s) apart (w.forCall tape i).memory i.args) ∧ a.holds C.prog (lone (Frame.enter C.prog f i.args .normal) [] (w.forCall tape i)))
    (contract : ∀ (W : World) (base : Nat) (args : Array Value) (ds gs : List (DataW H)) (before : List MemPlace),
      (∀ (j : Nat) t v, fn.params[j]? = some t → args[j]? = some v → Value.okWide C.prog W .any base t v) →
      DataW.Whole enc C.prog fn.params.toList s.vars apart W args.toList ds gs before →
      conds.all (PathCond.test C.prog ⟨fn.params.toList, ds, s.plain.varTypes C.prog, gs⟩) = true →
      (DataW.weightsEach C.prog (fn.params.toList ++ s.plain.varTypes C.prog) (ds ++ gs)).all (· ≤ reachBytes) = true → X W args → W.ShapedOpen C.prog →
      a.holds C.prog (lone (Frame.enter C.prog f args .normal) [] W) →
      Calls C.prog f args W fun e W' => ∃ v, e = .returned v ∧ s.post enc C.prog fn apart fresh handsOn again W args v W') :
    ReturnsInHanded a C os f .any (fun w args => (s.pre enc C.prog fn conds apart w args ∧ X w args) ∧ sizedMet enc C.prog fn (OpenSpec.ofChange s) apart w args) (s.post enc C.prog fn apart fresh handsOn again) := by
  refine returnsInHanded_of_calls own started noInit witness ?_
  intro w tape i _ hsh _ hok hpre hholds
  obtain ⟨_, _, _, fn', hfn', _, _, _, _, hval⟩ := hok
  have e : fn' = fn := Option.some.inj (hfn'.symm.trans hfn)
  subst e
  obtain ⟨⟨⟨ds, gs, before, hw, hc⟩, hx⟩, hz⟩ := hpre
  have hw' := DataW.Whole.of_heap (w' := w.forCall tape i) (by rfl) hw
  refine (contract (w.forCall tape i) w.heap.size i.args ds gs before hval hw' hc (hz.weights hw) (hX _ _ _ (by rfl) hx) hsh hholds).mono fun e W' ⟨v, he, hp⟩ => ?_
  subst he
  exact ChangeSpec.post_blind hp
theorem laidVars_at {P : Program} {W : World} : ∀ {laid : List (String × DataW Unit)} {ps : List MemPlace}, DataW.LaidVars P W laid ps → ∀ (i : Nat) (n : String) (d : DataW Unit), laid[i]? = some (n, d) →
    ∃ g t cs fuel p, P.globalNamed n = some g ∧ (P.globals[g]?).map (·.type) = some t ∧ W.var? P n = some cs ∧ DataW.trod (fun _ => ()) P W 0 (fun _ => true) false fuel t cs.toList = some (d, p)
  | [], _, _, i, _, _, h => by simp at h
  | (m, c) :: r, ps, h, i, n, d, hi => by
    obtain ⟨g, t, cs, fuel, p, q, h1, h2, h3, h4, h5, _⟩ := h
    cases i with
    | zero =>
      simp only [List.getElem?_cons_zero, Option.some.injEq, Prod.mk.injEq] at hi
      obtain ⟨rfl, rfl⟩ := hi
      exact ⟨g, t, cs, fuel, p, h1, h2, h3, h4⟩
    | succ j => exact laidVars_at h5 j n d (by simpa using hi)
theorem tabIs_at {P : Program} {W : World} {laid : List (String × DataW Unit)} {name : String} {k : IntKind} {zs : List Int} {g : Nat} {t e : TypeId} {n : Nat} (i : Nat) (hi : laid[i]? = some (name, Lib.tabData k zs))
    (hg : P.globalNamed name = some g) (hty : (P.globals[g]?).map (·.type) = some t) (ht : P.underlying t = some (.array n e)) (he : P.underlying e = some (.int k)) (hce : P.cellsOf e = 1) (hct : P.cellsOf t = n)
    (h : laidMet P laid W) : Lib.TabIs P W name k zs := by
  obtain ⟨ps, h, _⟩ := h
  obtain ⟨g', t', cs, fuel, p, hg', ht', hvar, hd⟩ := laidVars_at h i _ _ hi
  obtain rfl := Option.some.inj (hg.symm.trans hg')
  obtain rfl := Option.some.inj (hty.symm.trans ht')
  unfold Lib.TabIs
  rw [hvar, ← Lib.cells_of_tab ht he hce hct hd]
def laidL : List (String × DataW Unit) := [("math/bits.deBruijn32tab", Rows.laid_math_bits_deBruijn32tab), ("math/bits.deBruijn64tab", Rows.laid_math_bits_deBruijn64tab), ("internal/strconv.uint64pow10", Rows.laid_internal_strconv_uint64pow10), ("unicode/utf8.acceptRanges", Rows.laid_unicode_utf8_acceptRanges), ("unicode/utf8.first", Rows.laid_unicode_utf8_first)]
theorem wok_of {W : World} (h : laidMetH Tryz.prog laidL W) (hs : W.ShapedOpen Tryz.prog) : WOK W := by
  rw [MakeChecks.laidMetH_plain _ _ _ (by kernel_rfl)] at h
  refine ⟨?_, ?_, ?_⟩
  · exact cell_of_shapedOpen_int (t := 3) (zero := #[.int .i64 0]) hs (by decide +kernel) (by kernel_rfl) (by kernel_rfl) (by kernel_rfl) (by kernel_rfl) Tryz.underlying3
  · exact tabIs_at (g := 0) (n := 20) 2 (by rfl) (by kernel_rfl) (t := 164) (by kernel_rfl) (by kernel_rfl) (e := 29) Tryz.underlying29 (by kernel_rfl) (by kernel_rfl) h
  · have hb : Lib.TabIs Tryz.prog W "math/bits.deBruijn64tab" .u8 (Lib.deBruijn64tab.map Int.ofNat) := tabIs_at (g := 3) (n := 64) 1 (by rfl) (by kernel_rfl) (t := 186) (by kernel_rfl) (by kernel_rfl) (e := 5) Tryz.underlying5 (by kernel_rfl) (by kernel_rfl) h
    intro j hj
    have h2 := hb.cell (g := 3) (by kernel_rfl) j (by rw [List.length_map]; exact hj)
    rw [h2, List.getD, List.getD, List.getElem?_map, List.getElem?_eq_getElem hj]
    rfl
theorem laid_world (os : Os) (args : Array Value) : laidMetH Tryz.prog laidL ((World.laidAll Tryz.prog os laidL).forCall (fun _ _ => 0) ⟨#[], args, []⟩).memory := by
  rw [MakeChecks.laidMetH_plain _ _ _ (by kernel_rfl)]
  exact laidMet_laidAll _ (by kernel_rfl) (by kernel_rfl)
end Go.Proofs.YtnphnhkinjppjaaGreatDoor.Q
end

section
set_option maxHeartbeats 8000000
set_option maxRecDepth 100000
namespace Go.Proofs.YtnphnhkinjppjaaGreatDoor.assetFinds
open Go.ChangeShapes Go.WideShapes Go.ChangeAt Go.RowKit Go.Proofs.YtnphnhkinjppjaaGreatDoorW.PrintWords Go.Proofs.YtnphnhkinjppjaaGreatDoor.Read Go.Proofs.YtnphnhkinjppjaaGreatDoor.Q
open Go.ChangeMaps (open_string shut_string)
theorem own : ownKnob Tryz.prog.godebug = none := by kernel_rfl
theorem laidOut : laidOutB Tryz.prog = true := by kernel_rfl
theorem lifted (os : Os) (started : os.Started) (H : Type) (enc : TypeId × Value → H) :
    ReturnsInHanded {} Tryz.checked os 6 .any (fun w args => (Rows.assetFindsSpec.pre enc Tryz.prog Tryz.f6 Rows.assetFindsRow.domain false w args ∧ laidMetH Tryz.prog laidL w) ∧ sizedMet enc Tryz.prog Tryz.f6 (OpenSpec.ofChange Rows.assetFindsSpec) false w args) (Rows.assetFindsSpec.post enc Tryz.prog Tryz.f6 false true false false) := by
  refine returns_laid (C := Tryz.checked) (X := (fun w _ => laidMetH Tryz.prog laidL w)) (fun _ _ _ hh h => h.of_heap hh) own started (by kernel_rfl) Tryz.func6
    (ChangeSpec.witness_shaped (enc := enc) (C := Tryz.checked) (os := os) (X := (fun w _ => laidMetH Tryz.prog laidL w)) false (World.laidAll Tryz.prog os laidL) #[.slice none 0 0, .agg #[.bool false, .int .u64 0, .int .u64 0]] 8 (World.laidAll_os _ _ _)
      (World.shaped_of_ZipB (by kernel_rfl) (by kernel_rfl)) (by kernel_rfl) (by kernel_rfl) (by kernel_rfl) (laid_world os _)) ?_
  intro W base args ds gs before hval0 hW hcnd hsz0 hL hsh _
  have hWok := wok_of hL hsh
  have hsz : (DataW.weightsEach Tryz.prog (Tryz.f6.params.toList ++ Rows.assetFindsSpec.plain.varTypes Tryz.prog) (ds ++ gs)).all (· ≤ reachBytes) = true := hsz0
  have hval : ∀ (j : Nat) t v, Tryz.f6.params[j]? = some t → args[j]? = some v → Value.okWide Tryz.prog W .any base t v := hval0
  have hW' := hW
  obtain ⟨p, q, hA0, hV, rfl, hfz, hnd⟩ := hW
  have hA : DataW.TrodAll enc Tryz.prog W 0 (fun _ => true) true Tryz.f6.params.toList args.toList ds p := hA0
  rw [Tryz.params6] at hA hval hsz
  obtain ⟨v0, vs0, d0, ds0, p0, q0, hargs, rfl, rfl, h0, r0⟩ := trodAll_cons hA
  obtain ⟨v1, vs1, d1, ds1, p1, q1, rfl, rfl, rfl, h1, r1⟩ := trodAll_cons r0
  obtain ⟨rfl, rfl, rfl⟩ := trodAll_nil r1
  obtain rfl : args = #[v0, v1] := by cases args; simp_all
  obtain ⟨rfl, rfl⟩ := trodVars_none hV
  obtain ⟨a0, len0, cap0, rfl⟩ := okWide_slice Tryz.underlying22 (hval 0 22 v0 rfl rfl)
  have k0_ := h0
  have lt0 : ∀ x ∈ p0, x.block < W.heap.size := by obtain ⟨m, hm⟩ := k0_; exact DataW.trod_lt m _ _ _ hm
  obtain ⟨fuel0, hf0⟩ := h0
  obtain ⟨l0, ⟨A0, c0, hcs0, hle0, hC0⟩, hm0, hq0⟩ := (reads_slice Tryz.underlying22 (by kernel_rfl) (reads_k36 W) : Reads Tryz.prog W (Kd.slice 36 k36) _ 22) H enc fuel0 _ _ hf0
  simp [Value.cells] at hcs0
  obtain ⟨rfl, rfl, rfl⟩ := hcs0
  obtain ⟨cs1, rfl, hz1⟩ := okWide_struct Tryz.underlying31 (hval 1 31 v1 rfl rfl)
  have k1_ := h1
  have lt1 : ∀ x ∈ p1, x.block < W.heap.size := by obtain ⟨m, hm⟩ := k1_; exact DataW.trod_lt m _ _ _ hm
  obtain ⟨fuel1, hf1⟩ := h1
  obtain ⟨x1, hK1, hq1⟩ := reads_k31 W H enc fuel1 _ _ hf1
  have hcs1 := k31_open hK1
  simp only [Value.cells] at hcs1
  obtain rfl : cs1 = #[.bool x1.f0, .int .u64 x1.f1, .int .u64 x1.f2] := by rw [← Array.toList_inj]; exact hcs1
  clear hA0 hval0 hsz0 hsz
  obtain ⟨k, hk⟩ := Pure.AssetFinds l0 x1 hm0 hq0 hq1
  refine (w18_AssetFinds.calls k _ _ l0 x1.f0 x1.f1 x1.f2 true W hC0 hle0 hk hWok).mono fun e W' he => ?_
  obtain ⟨rfl, bel⟩ := he
  exact ⟨_, rfl, _, _, _, [], _, [], hW', trodAll_mk1 (shut_bool Tryz.underlying4 _), (trodAll_cons_mk (Below.trod laidOut (by kernel_rfl) (of_decide_eq_true (by kernel_rfl)) k0_ bel lt0) (trodAll_cons_mk (Below.trod laidOut (by kernel_rfl) (of_decide_eq_true (by kernel_rfl)) k1_ bel lt1) trodAll_mk0)), rfl, bel.frame _, fun h => by cases h⟩
theorem over : Rows.assetFindsRow.holds Tryz.pinned (OpenSpec.ofChange Rows.assetFindsSpec) :=
  OpenClaim.holds_of_wide 6 Tryz.f6 rfl rfl rfl rfl rfl rfl rfl ⟨rfl, rfl, rfl, rfl, rfl⟩ rfl rfl rfl rfl rfl (by kernel_rfl) Tryz.func6 (by kernel_rfl)
    (of_decide_eq_true (by kernel_rfl)) (by unfold Func.isWrapper; first | (rw [if_pos (by decide +kernel)]; kernel_rfl) | (rw [if_neg (by decide +kernel)]; exact ⟨rfl, rfl⟩))
    (fun os started H enc _ => lifted os started H enc)
theorem card : Rows.AssetFindsCardSaid :=
  Claim7.holds_tied_plain_at .later [] [.data, .data, .data, .data, .pinned] true (true, "e2fb7f09b75ce55e686a17d0d7ee68673f5cc2846f6649169a4a74c75a4abc06") false over (fun _ h => by cases h) (by kernel_rfl) (fun _ h => by cases h) assetFinds_row_tie rfl ⟨rfl, rfl⟩ (by kernel_rfl) rfl
    (fun f fn hf hfn => by
      obtain rfl : f = 6 := Option.some.inj ((show Tryz.prog.funcNamed "intrusion/intrusionlaw18.AssetFinds" = some 6 by kernel_rfl).symm.trans hf) |>.symm
      obtain rfl : fn = Tryz.f6 := (Option.some.inj (Tryz.func6.symm.trans hfn)).symm
      exact ⟨by kernel_rfl, fun j t ht => by
        rw [Tryz.params6] at ht
        have hm : t ∈ [22, 31] := by simpa using Array.mem_of_getElem? ht
        have hall : ([22, 31].all fun u => !Tryz.prog.wantsStandIn u) = true := by kernel_rfl
        exact (show Tryz.prog.wantsStandIn t = false by simpa using List.all_eq_true.1 hall t hm)⟩)
    (by kernel_rfl)
#print axioms card
end Go.Proofs.YtnphnhkinjppjaaGreatDoor.assetFinds
namespace Go.Proofs.YtnphnhkinjppjaaGreatDoor
theorem assetFinds_holds : Rows.AssetFindsCardSaid := assetFinds.card
end Go.Proofs.YtnphnhkinjppjaaGreatDoor
end
