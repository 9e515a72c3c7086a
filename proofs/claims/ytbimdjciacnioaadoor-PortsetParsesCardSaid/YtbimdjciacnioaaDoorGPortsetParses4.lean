/- The law PortsetParses answers true for every input and leaves its arguments as they were. No condition. (Part 4 of 5: the kit's printed words and walks, hand-made contracts and plain laws, joined in build order, without what the theorem does not reach.) -/
import Derived.Deep.Slices
import Derived.ChangeArms
import Derived.WideShapes
import Derived.DataElems
import Derived.Shelf.Abstract
import Derived.Test.YtbimdjciacnioaaDoorGPortsetParses3
section
namespace Go.Proofs.YtbimdjciacnioaaDoor.Q
open Go.RowKit Go.Proofs.YtbimdjciacnioaaDoorW.PrintWords Go.Proofs.YtbimdjciacnioaaDoorW.PrintLast Go.Proofs.YtbimdjciacnioaaDoorW.PrintMore
attribute [local go_sem] max2_int min2_int max_two min_two max_three min_three max_four min_four
set_option linter.unusedVariables false
set_option linter.unusedSimpArgs false
def intrusionref08_split.l0 : Nat → ByteArray → Int → List ByteArray → Int → Int → Option (List ByteArray)
  | 0, _, _, _, _, _ => none
  | k + 1, x0, x1, x5, x6, x7 => if x7 ≤ (x0.size : Int) then (if x7 = (x0.size : Int) then (if 0 ≤ x6 then (if x6 ≤ x7 then (if x5.length < 8796093022208 then (intrusionref08_split.l0 k x0 x1 (x5 ++ [x0.extract (x6 : Int).toNat (x7 : Int).toNat]) (wrap64 (x7 + 1)) (wrap64 (x7 + 1))) else (none)) else (none)) else (none)) else (if 0 ≤ x7 then (if x7 < (x0.size : Int) then (if (bt x0 x7) = x1 then (if 0 ≤ x6 then (if x6 ≤ x7 then (if x5.length < 8796093022208 then (intrusionref08_split.l0 k x0 x1 (x5 ++ [x0.extract (x6 : Int).toNat (x7 : Int).toNat]) (wrap64 (x7 + 1)) (wrap64 (x7 + 1))) else (none)) else (none)) else (none)) else (intrusionref08_split.l0 k x0 x1 x5 x6 (wrap64 (x7 + 1)))) else (none)) else (none))) else (some x5)
def intrusionref08_split.f (k : Nat) (a0 : ByteArray) (a1 : Int) : Option (List ByteArray) := intrusionref08_split.l0 k a0 a1 (([] : List ByteArray)) 0 0
theorem intrusionref08_split.mono_l : ∀ k, (∀ y0 y1 y2 y3 y4, LeO (intrusionref08_split.l0 k y0 y1 y2 y3 y4) (intrusionref08_split.l0 (k + 1) y0 y1 y2 y3 y4))
  | 0 => fun _ _ _ _ _ r h => by simp [intrusionref08_split.l0] at h
  | k + 1 => by
    have ih0 := intrusionref08_split.mono_l k
    · intro y0 y1 y2 y3 y4
      unfold intrusionref08_split.l0
      repeat' first
      | (with_reducible exact ih0 _ _ _ _ _)
      | (with_reducible exact LeO.refl _)
      | (with_reducible exact LeO.none _)
      | (with_reducible refine LeO.ite ?_ ?_)
      | (with_reducible refine LeO.bind ?_ (fun _ => ?_))
      | exact ih0 _ _ _ _ _
      | exact LeO.none _
      | refine LeO.ite ?_ ?_
      | refine LeO.bind ?_ (fun _ => ?_)
theorem intrusionref08_split.mono : ∀ a0 a1 k, LeO (intrusionref08_split.f k a0 a1) (intrusionref08_split.f (k + 1) a0 a1) := by
  intro a0 a1 k
  have ih0 := intrusionref08_split.mono_l k
  unfold intrusionref08_split.f
  repeat' first
      | (with_reducible exact ih0 _ _ _ _ _)
      | (with_reducible exact LeO.refl _)
      | (with_reducible exact LeO.none _)
      | (with_reducible refine LeO.ite ?_ ?_)
      | (with_reducible refine LeO.bind ?_ (fun _ => ?_))
      | exact ih0 _ _ _ _ _
      | exact LeO.none _
      | refine LeO.ite ?_ ?_
      | refine LeO.bind ?_ (fun _ => ?_)
set_option maxHeartbeats 8000000 in
set_option maxRecDepth 100000 in
theorem intrusionref08_split.calls (k : Nat) (a0 : ByteArray) (a1 : Int) (r : List ByteArray) (w : World) (h : intrusionref08_split.f k a0 a1 = some r) :
 Calls Tryd.prog 29 #[.string a0, .int .u8 a1] w fun e w' => ∃ v0_ : Value, e = .returned (v0_) ∧ Kd.R Kd.string 9 w' w.heap.size (fun _ => True) v0_ r ∧ Below w.heap.size w w' := by
 have HB := Aside0.mk (Below.refl w.heap.size w)
 unfold intrusionref08_split.f at h; have H := h
 clear h
 obtain ⟨y384, hy384⟩ : ∃ y_ : List ByteArray, y_ = (([] : List ByteArray)) := ⟨_, rfl⟩
 rw [← hy384] at H; try dsimp only [Option.bind_some] at H
 have Ny384 := Aside0.mk hy384
 clear hy384
 have H' := Aside0.mk H
 clear H
 go_enter Tryd.func29, Tryd.ntmps29
 go_wp2_with (first | ((with_reducible refine gate_dst (N := 8) rfl ?_); refine Kd.R_lit Kd.string _ 9 ?hg (N := 8) ?hd (xs := ([] : List ByteArray)) (inner := []) (ok := fun _ => True) (okp := fun _ => True) ?hr ?hp (fun _ hk => hk) trivial (Below.refl _ _) (Nat.le_refl _) (by simp) ?_; (case hd => rfl); (case hg => rfl); (case hr => first | (go_simp; done) | (go_simp; rfl)); (case hp => exact (Reps.none _ _)); intro v385 w3 ho4 hb hg_ hnew_; clear hg_ hnew_; (first | rw [← Ny384.out] at ho4 | (simp only [Int.reduceToNat] at ho4; rw [← Ny384.out] at ho4)); have HO386 := Aside0.mk (Kd.R_lower ho4 (below_size (zB HB))); replace HB := Aside0.mk (below_step (zB HB) hb); clear hb ho4))
 go_loopg [5, 6, 7] k (fun kq v5 v6 v7 w' => ∃ (x5_1 : List ByteArray) (x6_1 : Int) (x7_1 : Int), v6 = .int .i64 x6_1 ∧ v7 = .int .i64 x7_1 ∧ Aside0 (intrusionref08_split.l0 kq a0 a1 x5_1 x6_1 x7_1 = some r) ∧ Aside0 (kq ≤ k) ∧ Aside0 (Kd.R Kd.string 9 w' w.heap.size (fun _ => True) v5 x5_1) ∧ Aside0 (Below w.heap.size w w'))
 case atStart => exact ⟨(y384), (0), (0), (by first | rfl | (simp; done) | (simp [*]; done)), (by first | rfl | (simp; done) | (simp [*]; done)), H', ⟨Nat.le_refl _⟩, ⟨zR HO386⟩, ⟨zB HB⟩⟩
 case round =>
  clear H'
  try clear c2
  try clear p2
  obtain ⟨x5_1, x6_1, x7_1, rfl, rfl, HA, HK1, HO_5, HB⟩ := hrel
  cases gk with
  | zero => exact absurd HA.out (by simp [intrusionref08_split.l0])
  | succ k1 =>
   have H := HA.out
   clear HA
   simp only [intrusionref08_split.l0] at H
   by_cases c5 : x7_1 ≤ (a0.size : Int)
   · rw [if_pos c5] at H
     have c5b0 : decide (x7_1 ≤ (a0.size : Int)) = true := decide_eq_true c5
     clear c5
     by_cases c6 : x7_1 = (a0.size : Int)
     · rw [if_pos c6] at H
       have c6b0 : (x7_1 == (a0.size : Int)) = true := beq_iff_eq.mpr c6
       have c6b1 : (x7_1 != (a0.size : Int)) = false := bne_eq_false_iff_eq.mpr c6
       clear c6
       by_cases c7 : 0 ≤ x6_1
       · rw [if_pos c7] at H
         have c7b0 := eq_true c7
         have c7b1 : decide (0 ≤ x6_1) = true := decide_eq_true c7
         clear c7
         by_cases c8 : x6_1 ≤ x7_1
         · rw [if_pos c8] at H
           have c8b0 := eq_true c8
           have c8b1 : decide (x6_1 ≤ x7_1) = true := decide_eq_true c8
           clear c8
           have c9b0 := eq_true (of_decide_eq_true (by first | (with_reducible assumption) | assumption) : x7_1 ≤ (a0.size : Int))
           by_cases c10 : x5_1.length < 8796093022208
           · rw [if_pos c10] at H
             have LMc10 := Aside0.mk c10
             clear c10
             obtain ⟨y387, hy387⟩ : ∃ y_ : List ByteArray, y_ = (x5_1 ++ [a0.extract (x6_1 : Int).toNat (x7_1 : Int).toNat]) := ⟨_, rfl⟩
             rw [← hy387] at H; try dsimp only [Option.bind_some] at H
             have Ny387 := Aside0.mk hy387
             clear hy387
             have H' := Aside0.mk H
             clear H
             go_wp2_with (first | ((with_reducible refine gate_builtin (b := .append) (xs := #[.tmp 26, .tmp 31]) rfl ?_); at_builtin; refine Kd.R_append Kd.string (w0 := w) w.heap.size rfl (.tmp 26) (.tmp 31) 38 9 (.string ⟨#[]⟩) 16 rfl Tryd.underlying38 info9 rfl (by decide) (by omega) u5 x5_1 (a0.extract (x6_1 : Int).toNat (x7_1 : Int).toNat) [.string (a0.extract (x6_1 : Int).toNat (x7_1 : Int).toNat)] (fun _ => True) (fun _ => False) rfl rfl ?aP (fun _ hk => hk.elim) ?aF ?aO ?aB ?aS ?aL ?_; (case aP => exact rfl); (case aB => exact (zB HB)); (case aF => exact (fun _ _ => trivial)); (case aO => exact (zR HO_5)); (case aS => exact (below_size (zB HB))); (case aL => have := LMc10.out; omega); intro v388 w11 ho hb hg hat; rw [← Ny387.out] at ho; replace HB := Aside0.mk (hb); have HO389 := Aside0.mk (ho); clear HO_5; clear ho hb hg hat))
             go_roundg k1
             case measure => have := HK1.out; omega
             case rel => exact ⟨(y387), (wrap64 (x7_1 + 1)), (wrap64 (x7_1 + 1)), (by first | rfl | (simp; done) | (simp [*]; done)), (by first | rfl | (simp; done) | (simp [*]; done)), H', ⟨by have := HK1.out; omega⟩, ⟨zR HO389⟩, ⟨zB HB⟩⟩
           · rw [if_neg c10] at H
             exact absurd H (by simp)
         · rw [if_neg c8] at H
           exact absurd H (by simp)
       · rw [if_neg c7] at H
         exact absurd H (by simp)
     · rw [if_neg c6] at H
       have c6b0 : (x7_1 == (a0.size : Int)) = false := beq_eq_false_iff_ne.mpr c6
       have c6b1 : (x7_1 != (a0.size : Int)) = true := bne_iff_ne.mpr c6
       by_cases c12 : 0 ≤ x7_1
       · rw [if_pos c12] at H
         have c12b0 : decide (0 ≤ x7_1) = true := decide_eq_true c12
         clear c12
         by_cases c13 : x7_1 < (a0.size : Int)
         · rw [if_pos c13] at H
           have c13b0 : decide (x7_1 < (a0.size : Int)) = true := decide_eq_true c13
           clear c13
           by_cases c15 : (bt a0 x7_1) = a1
           · rw [if_pos c15] at H
             have c15b0 : ((bt a0 x7_1) == a1) = true := beq_iff_eq.mpr c15
             have c15b1 : ((bt a0 x7_1) != a1) = false := bne_eq_false_iff_eq.mpr c15
             clear c15
             by_cases c16 : 0 ≤ x6_1
             · rw [if_pos c16] at H
               have c16b0 := eq_true c16
               have c16b1 : decide (0 ≤ x6_1) = true := decide_eq_true c16
               clear c16
               by_cases c17 : x6_1 ≤ x7_1
               · rw [if_pos c17] at H
                 have c17b0 := eq_true c17
                 have c17b1 : decide (x6_1 ≤ x7_1) = true := decide_eq_true c17
                 clear c17
                 have c18b0 := eq_true (of_decide_eq_true (by first | (with_reducible assumption) | assumption) : x7_1 ≤ (a0.size : Int))
                 by_cases c19 : x5_1.length < 8796093022208
                 · rw [if_pos c19] at H
                   have LMc19 := Aside0.mk c19
                   clear c19
                   obtain ⟨y390, hy390⟩ : ∃ y_ : List ByteArray, y_ = (x5_1 ++ [a0.extract (x6_1 : Int).toNat (x7_1 : Int).toNat]) := ⟨_, rfl⟩
                   rw [← hy390] at H; try dsimp only [Option.bind_some] at H
                   have Ny390 := Aside0.mk hy390
                   clear hy390
                   have H' := Aside0.mk H
                   clear H
                   have p14 : 0 ≤ (x7_1 : Int) := za
                   have q14 : x7_1 < (a0.size : Int) := za
                   have hx14 := bt_at a0 x7_1
                   replace p14 := eq_true p14
                   replace q14 := eq_true q14
                   go_wp2_with (first | ((with_reducible refine gate_builtin (b := .append) (xs := #[.tmp 26, .tmp 31]) rfl ?_); at_builtin; refine Kd.R_append Kd.string (w0 := w) w.heap.size rfl (.tmp 26) (.tmp 31) 38 9 (.string ⟨#[]⟩) 16 rfl Tryd.underlying38 info9 rfl (by decide) (by omega) u5 x5_1 (a0.extract (x6_1 : Int).toNat (x7_1 : Int).toNat) [.string (a0.extract (x6_1 : Int).toNat (x7_1 : Int).toNat)] (fun _ => True) (fun _ => False) rfl rfl ?aP (fun _ hk => hk.elim) ?aF ?aO ?aB ?aS ?aL ?_; (case aP => exact rfl); (case aB => exact (zB HB)); (case aF => exact (fun _ _ => trivial)); (case aO => exact (zR HO_5)); (case aS => exact (below_size (zB HB))); (case aL => have := LMc19.out; omega); intro v391 w20 ho hb hg hat; rw [← Ny390.out] at ho; replace HB := Aside0.mk (hb); have HO392 := Aside0.mk (ho); clear HO_5; clear ho hb hg hat))
                   go_roundg k1
                   case measure => have := HK1.out; omega
                   case rel => exact ⟨(y390), (wrap64 (x7_1 + 1)), (wrap64 (x7_1 + 1)), (by first | rfl | (simp; done) | (simp [*]; done)), (by first | rfl | (simp; done) | (simp [*]; done)), H', ⟨by have := HK1.out; omega⟩, ⟨zR HO392⟩, ⟨zB HB⟩⟩
                 · rw [if_neg c19] at H
                   exact absurd H (by simp)
               · rw [if_neg c17] at H
                 exact absurd H (by simp)
             · rw [if_neg c16] at H
               exact absurd H (by simp)
           · rw [if_neg c15] at H
             have c15b0 : ((bt a0 x7_1) == a1) = false := beq_eq_false_iff_ne.mpr c15
             have c15b1 : ((bt a0 x7_1) != a1) = true := bne_iff_ne.mpr c15
             have H' := Aside0.mk H
             clear H
             have p14 : 0 ≤ (x7_1 : Int) := za
             have q14 : x7_1 < (a0.size : Int) := za
             have hx14 := bt_at a0 x7_1
             replace p14 := eq_true p14
             replace q14 := eq_true q14
             go_wp2
             go_roundg k1
             case measure => have := HK1.out; omega
             case rel => exact ⟨(x5_1), (x6_1), (wrap64 (x7_1 + 1)), (by first | rfl | (simp; done) | (simp [*]; done)), (by first | rfl | (simp; done) | (simp [*]; done)), H', ⟨by have := HK1.out; omega⟩, ⟨zR HO_5⟩, ⟨zB HB⟩⟩
         · rw [if_neg c13] at H
           exact absurd H (by simp)
       · rw [if_neg c12] at H
         exact absurd H (by simp)
   · rw [if_neg c5] at H
     have c5b0 : decide (x7_1 ≤ (a0.size : Int)) = false := decide_eq_false c5
     clear c5
     obtain rfl := Option.some.inj H
     go_wp2
     go_ret
     exact ⟨_, by first | rfl | (simp [errW_none, errW_some] <;> rfl) | (simp [*, errW_none, errW_some] <;> rfl), by (with_reducible repeat (first | apply Kd.R_alloc | apply Kd.R_drewN | apply Kd.R_drew)); exact HO_5.out, by repeat (first | (with_reducible first | exact HB.out | apply below_alloc | apply pw_below_drewN | apply below_drew1) | exact HB.out)⟩
end Go.Proofs.YtbimdjciacnioaaDoor.Q
end

section
namespace Go.Proofs.YtbimdjciacnioaaDoor.Q
open Go.RowKit Go.Proofs.YtbimdjciacnioaaDoorW.PrintWords Go.Proofs.YtbimdjciacnioaaDoorW.PrintLast Go.Proofs.YtbimdjciacnioaaDoorW.PrintMore
attribute [local go_sem] max2_int min2_int max_two min_two max_three min_three max_four min_four
set_option linter.unusedVariables false
set_option linter.unusedSimpArgs false
mutual
def intrusionref08_number.j0 : Nat → ByteArray → Bool → Option (Int × Bool)
  | 0, _, _ => none
  | k + 1, x0, x17 => if x17 = true then (some (0, false)) else (intrusionref08_number.l0 k x0 0 0)
def intrusionref08_number.l0 : Nat → ByteArray → Int → Int → Option (Int × Bool)
  | 0, _, _, _ => none
  | k + 1, x0, x4, x5 => if x5 < (x0.size : Int) then (if 0 ≤ x5 then (if (bt x0 x5) < 48 then (some (0, false)) else (if (bt x0 x5) > 57 then (some (0, false)) else (intrusionref08_number.l0 k x0 (mn (wrap64 ((wrap64 (x4 * 10)) + (((bt x0 x5) - 48) % 256))) 65536) (wrap64 (x5 + 1))))) else (none)) else (some (x4, true))
end
def intrusionref08_number.f (k : Nat) (a0 : ByteArray) : Option (Int × Bool) := if a0.toList = ([] : List UInt8) then (intrusionref08_number.j0 k a0 true) else (if (a0.size : Int) > 1 then (if 0 < (a0.size : Int) then (intrusionref08_number.j0 k a0 ((bt a0 0) == 48)) else (none)) else (intrusionref08_number.j0 k a0 false))
theorem intrusionref08_number.mono_l : ∀ k, (∀ y0 y1, LeO (intrusionref08_number.j0 k y0 y1) (intrusionref08_number.j0 (k + 1) y0 y1)) ∧ (∀ y0 y1 y2, LeO (intrusionref08_number.l0 k y0 y1 y2) (intrusionref08_number.l0 (k + 1) y0 y1 y2))
  | 0 => ⟨fun _ _ r h => by simp [intrusionref08_number.j0] at h, fun _ _ _ r h => by simp [intrusionref08_number.l0] at h⟩
  | k + 1 => by
    obtain ⟨ih0, ih1⟩ := intrusionref08_number.mono_l k
    refine ⟨?_, ?_⟩
    · intro y0 y1
      unfold intrusionref08_number.j0
      repeat' first
      | (with_reducible exact ih0 _ _)
      | (with_reducible exact ih1 _ _ _)
      | (with_reducible exact LeO.refl _)
      | (with_reducible exact LeO.none _)
      | (with_reducible refine LeO.ite ?_ ?_)
      | (with_reducible refine LeO.bind ?_ (fun _ => ?_))
      | exact ih0 _ _
      | exact ih1 _ _ _
      | exact LeO.none _
      | refine LeO.ite ?_ ?_
      | refine LeO.bind ?_ (fun _ => ?_)
    · intro y0 y1 y2
      unfold intrusionref08_number.l0
      repeat' first
      | (with_reducible exact ih0 _ _)
      | (with_reducible exact ih1 _ _ _)
      | (with_reducible exact LeO.refl _)
      | (with_reducible exact LeO.none _)
      | (with_reducible refine LeO.ite ?_ ?_)
      | (with_reducible refine LeO.bind ?_ (fun _ => ?_))
      | exact ih0 _ _
      | exact ih1 _ _ _
      | exact LeO.none _
      | refine LeO.ite ?_ ?_
      | refine LeO.bind ?_ (fun _ => ?_)
theorem intrusionref08_number.mono : ∀ a0 k, LeO (intrusionref08_number.f k a0) (intrusionref08_number.f (k + 1) a0) := by
  intro a0 k
  obtain ⟨ih0, ih1⟩ := intrusionref08_number.mono_l k
  unfold intrusionref08_number.f
  repeat' first
      | (with_reducible exact ih0 _ _)
      | (with_reducible exact ih1 _ _ _)
      | (with_reducible exact LeO.refl _)
      | (with_reducible exact LeO.none _)
      | (with_reducible refine LeO.ite ?_ ?_)
      | (with_reducible refine LeO.bind ?_ (fun _ => ?_))
      | exact ih0 _ _
      | exact ih1 _ _ _
      | exact LeO.none _
      | refine LeO.ite ?_ ?_
      | refine LeO.bind ?_ (fun _ => ?_)
set_option maxHeartbeats 8000000 in
set_option maxRecDepth 100000 in
theorem intrusionref08_number.calls (k : Nat) (a0 : ByteArray) (r1 : Int) (r2 : Bool) (w : World) (h : intrusionref08_number.f k a0 = some (r1, r2)) :
 Calls Tryd.prog 47 #[.string a0] w fun e w' => e = .returned (.tuple #[.int .i64 r1, .bool r2]) ∧ Below w.heap.size w w' := by
 have HB := Aside0.mk (Below.refl w.heap.size w)
 unfold intrusionref08_number.f at h; have H := h
 clear h
 have HC2 := Aside0.mk H
 clear H
 go_enter Tryd.func47, Tryd.ntmps47
 go_upto_region 1 with (fail)
 go_cut [17] (fun v17 wc => ∃ (kq : Nat) (x17_1 : Bool), v17 = .bool x17_1 ∧ Aside0 (intrusionref08_number.j0 kq a0 x17_1 = some (r1, r2)) ∧ Aside0 (kq ≤ k) ∧ Aside0 (Below w.heap.size w wc))
 case first =>
  have H := HC2.out
  clear HC2
  by_cases c3 : a0.toList = ([] : List UInt8)
  · rw [if_pos c3] at H
    have c3b0 : (a0.toList == ([] : List UInt8)) = true := beq_iff_eq.mpr c3
    have c3b1 : (a0.toList != ([] : List UInt8)) = false := bne_eq_false_iff_eq.mpr c3
    clear c3
    (first | rw [c3b0] | (simp only [i64_w, i32_w]; rw [c3b0]) | skip)
    have H' := Aside0.mk H
    clear H
    go_wp2
    go_meet
    case rel => exact ⟨_, (true), (by first | rfl | (simp; done) | (simp [*]; done)), H', ⟨by first | omega | exact Nat.le_refl _⟩, ⟨zB HB⟩⟩
  · rw [if_neg c3] at H
    have c3b0 : (a0.toList == ([] : List UInt8)) = false := beq_eq_false_iff_ne.mpr c3
    have c3b1 : (a0.toList != ([] : List UInt8)) = true := bne_iff_ne.mpr c3
    (first | rw [c3b0] | (simp only [i64_w, i32_w]; rw [c3b0]) | skip)
    by_cases c4 : (a0.size : Int) > 1
    · rw [if_pos c4] at H
      have c4b0 : decide (1 < (a0.size : Int)) = true := decide_eq_true c4
      have c4b1 : decide (1 < a0.size) = true := decide_eq_true (by omega)
      clear c4
      by_cases c5 : 0 < (a0.size : Int)
      · rw [if_pos c5] at H
        have c5b0 : decide (0 < (a0.size : Int)) = true := decide_eq_true c5
        have c5b1 : decide (0 < a0.size) = true := decide_eq_true (by omega)
        clear c5
        have H' := Aside0.mk H
        clear H
        have p6 : 0 ≤ (0 : Int) := (by omega)
        have q6 : 0 < a0.size := (by have : (0 : Int) < (a0.size : Int) := za; omega)
        have hx6 : ∀ h : 0 < a0.size, ((a0[0]'h).toNat : Int) = bt a0 0 := bt_at a0 0
        clear p6
        have qi6 : (0 < (a0.size : Int)) = True := eq_true (of_decide_eq_true (by first | (with_reducible assumption) | assumption))
        replace q6 := eq_true q6
        go_wp2
        go_meet
        case rel => exact ⟨_, (((bt a0 0) == 48)), (by first | rfl | (simp; done) | (simp [*]; done)), H', ⟨by first | omega | exact Nat.le_refl _⟩, ⟨zB HB⟩⟩
      · rw [if_neg c5] at H
        exact absurd H (by simp)
    · rw [if_neg c4] at H
      have c4b0 : decide (1 < (a0.size : Int)) = false := decide_eq_false c4
      have c4b1 : decide (1 < a0.size) = false := decide_eq_false (by omega)
      clear c4
      have H' := Aside0.mk H
      clear H
      go_wp2
      go_meet
      case rel => exact ⟨_, (false), (by first | rfl | (simp; done) | (simp [*]; done)), H', ⟨by first | omega | exact Nat.le_refl _⟩, ⟨zB HB⟩⟩
 case rest =>
  clear HC2
  try clear p2
  try clear c3
  try clear c3b0
  try clear c3b1
  try clear c4
  try clear c4b0
  try clear c4b1
  try clear c5
  try clear c5b0
  try clear c5b1
  try clear p6
  try clear q6
  try clear hx6
  try clear qi6
  try clear p6
  try clear q6
  obtain ⟨kq, x17_1, rfl, HA, HJ1, HB⟩ := hcut
  cases kq with
  | zero => exact absurd HA.out (by simp [intrusionref08_number.j0])
  | succ kj1 =>
   have H := HA.out
   clear HA
   simp only [intrusionref08_number.j0] at H
   by_cases c7 : x17_1 = true
   · subst c7
     rw [if_pos rfl] at H
     simp only [Option.some.injEq, Prod.mk.injEq] at H
     obtain ⟨rfl, rfl⟩ := H
     go_wp2
     go_ret2
     exact ⟨by first | rfl | (simp [errW_none, errW_some] <;> rfl) | (simp [*, errW_none, errW_some] <;> rfl), by repeat (first | (with_reducible first | exact HB.out | apply below_alloc | apply pw_below_drewN | apply below_drew1) | exact HB.out)⟩
   · replace c7 := Bool.eq_false_iff.mpr c7
     subst c7
     rw [if_neg zF] at H
     have H' := Aside0.mk H
     clear H
     go_wp2
     go_loopg [4, 5] kj1 (fun kq v4 v5 w' => ∃ (x4_2 : Int) (x5_2 : Int), v4 = .int .i64 x4_2 ∧ v5 = .int .i64 x5_2 ∧ Aside0 (intrusionref08_number.l0 kq a0 x4_2 x5_2 = some (r1, r2)) ∧ Aside0 (kq ≤ kj1) ∧ Aside0 (Below w.heap.size w w'))
     case atStart => exact ⟨(0), (0), (by first | rfl | (simp; done) | (simp [*]; done)), (by first | rfl | (simp; done) | (simp [*]; done)), H', ⟨Nat.le_refl _⟩, ⟨zB HB⟩⟩
     case round =>
      clear H'
      try clear p2
      try clear c3
      try clear c3b0
      try clear c3b1
      try clear c4
      try clear c4b0
      try clear c4b1
      try clear c5
      try clear c5b0
      try clear c5b1
      try clear p6
      try clear q6
      try clear hx6
      try clear qi6
      try clear c7
      try clear p2
      try clear p6
      try clear q6
      obtain ⟨x4_2, x5_2, rfl, rfl, HA, HK2, HB⟩ := hrel
      cases gk with
      | zero => exact absurd HA.out (by simp [intrusionref08_number.l0])
      | succ k2 =>
       have H := HA.out
       clear HA
       simp only [intrusionref08_number.l0] at H
       by_cases c8 : x5_2 < (a0.size : Int)
       · rw [if_pos c8] at H
         have c8b0 : decide (x5_2 < (a0.size : Int)) = true := decide_eq_true c8
         clear c8
         by_cases c9 : 0 ≤ x5_2
         · rw [if_pos c9] at H
           have c9b0 : decide (0 ≤ x5_2) = true := decide_eq_true c9
           clear c9
           by_cases c11 : (bt a0 x5_2) < 48
           · rw [if_pos c11] at H
             have c11b0 : decide ((bt a0 x5_2) < 48) = true := decide_eq_true c11
             clear c11
             simp only [Option.some.injEq, Prod.mk.injEq] at H
             obtain ⟨rfl, rfl⟩ := H
             have p10 : 0 ≤ (x5_2 : Int) := za
             have q10 : x5_2 < (a0.size : Int) := za
             have hx10 := bt_at a0 x5_2
             replace p10 := eq_true p10
             replace q10 := eq_true q10
             go_wp2
             go_ret2
             exact ⟨by first | rfl | (simp [errW_none, errW_some] <;> rfl) | (simp [*, errW_none, errW_some] <;> rfl), by repeat (first | (with_reducible first | exact HB.out | apply below_alloc | apply pw_below_drewN | apply below_drew1) | exact HB.out)⟩
           · rw [if_neg c11] at H
             have c11b0 : decide ((bt a0 x5_2) < 48) = false := decide_eq_false c11
             clear c11
             by_cases c13 : (bt a0 x5_2) > 57
             · rw [if_pos c13] at H
               have c13b0 : decide (57 < (bt a0 x5_2)) = true := decide_eq_true c13
               clear c13
               simp only [Option.some.injEq, Prod.mk.injEq] at H
               obtain ⟨rfl, rfl⟩ := H
               have p10 : 0 ≤ (x5_2 : Int) := za
               have q10 : x5_2 < (a0.size : Int) := za
               have hx10 := bt_at a0 x5_2
               replace p10 := eq_true p10
               replace q10 := eq_true q10
               have p12 : 0 ≤ (x5_2 : Int) := za
               have q12 : x5_2 < (a0.size : Int) := za
               have hx12 := bt_at a0 x5_2
               replace p12 := eq_true p12
               replace q12 := eq_true q12
               go_wp2
               go_ret2
               exact ⟨by first | rfl | (simp [errW_none, errW_some] <;> rfl) | (simp [*, errW_none, errW_some] <;> rfl), by repeat (first | (with_reducible first | exact HB.out | apply below_alloc | apply pw_below_drewN | apply below_drew1) | exact HB.out)⟩
             · rw [if_neg c13] at H
               have c13b0 : decide (57 < (bt a0 x5_2)) = false := decide_eq_false c13
               clear c13
               obtain ⟨ji15, hji15⟩ : ∃ j_ : Int, (mn (wrap64 ((wrap64 (x4_2 * 10)) + (((bt a0 x5_2) - 48) % 256))) 65536) = j_ := ⟨_, rfl⟩
               replace H : (intrusionref08_number.l0 k2 a0 ji15 (wrap64 (x5_2 + 1))) = some (r1, r2) := by first | (rw [hji15] at H; exact H) | (simp only [hji15] at H ⊢; exact H)
               have hji15_ : (if 65536 < (wrap64 ((wrap64 (x4_2 * 10)) + (((bt a0 x5_2) - 48) % 256))) then 65536 else (wrap64 ((wrap64 (x4_2 * 10)) + (((bt a0 x5_2) - 48) % 256)))) = ji15 := hji15
               have H' := Aside0.mk H
               clear H
               have p10 : 0 ≤ (x5_2 : Int) := za
               have q10 : x5_2 < (a0.size : Int) := za
               have hx10 := bt_at a0 x5_2
               replace p10 := eq_true p10
               replace q10 := eq_true q10
               have p12 : 0 ≤ (x5_2 : Int) := za
               have q12 : x5_2 < (a0.size : Int) := za
               have hx12 := bt_at a0 x5_2
               replace p12 := eq_true p12
               replace q12 := eq_true q12
               have p14 : 0 ≤ (x5_2 : Int) := za
               have q14 : x5_2 < (a0.size : Int) := za
               have hx14 := bt_at a0 x5_2
               replace p14 := eq_true p14
               replace q14 := eq_true q14
               go_wp2
               go_roundg k2
               case measure => have := HJ1.out; have := HK2.out; omega
               case rel => exact ⟨(ji15), (wrap64 (x5_2 + 1)), (by first | rfl | (simp; done) | (simp only [← hji15] <;> (first | rfl | simp)) | (simp [*]; done)), (by first | rfl | (simp; done) | (simp [*]; done)), H', ⟨by have := HJ1.out; have := HK2.out; omega⟩, ⟨zB HB⟩⟩
         · rw [if_neg c9] at H
           exact absurd H (by simp)
       · rw [if_neg c8] at H
         have c8b0 : decide (x5_2 < (a0.size : Int)) = false := decide_eq_false c8
         clear c8
         simp only [Option.some.injEq, Prod.mk.injEq] at H
         obtain ⟨rfl, rfl⟩ := H
         go_wp2
         go_ret2
         exact ⟨by first | rfl | (simp [errW_none, errW_some] <;> rfl) | (simp [*, errW_none, errW_some] <;> rfl), by repeat (first | (with_reducible first | exact HB.out | apply below_alloc | apply pw_below_drewN | apply below_drew1) | exact HB.out)⟩
end Go.Proofs.YtbimdjciacnioaaDoor.Q
end

section
namespace Go.Proofs.YtbimdjciacnioaaDoor.Q
open Go.RowKit Go.Proofs.YtbimdjciacnioaaDoorW.PrintWords Go.Proofs.YtbimdjciacnioaaDoorW.PrintLast Go.Proofs.YtbimdjciacnioaaDoorW.PrintMore
attribute [local go_sem] max2_int min2_int max_two min_two max_three min_three max_four min_four
set_option linter.unusedVariables false
set_option linter.unusedSimpArgs false
mutual
def intrusionref08_item.j0 : Nat → List ByteArray → Bool → Option (Int × Int × Int)
  | 0, _, _ => none
  | k + 1, x4, x18 => if x18 = true then (some (0, 0, 14)) else (if 0 < (x4.length : Int) then (if (rdOf ByteArray.empty x4 0).toList = ([] : List UInt8) then (intrusionref08_item.j1 k x4 ((x4.length : Int) == 1) 0 65535) else (intrusionref08_item.j1 k x4 true 0 65535)) else (none))
def intrusionref08_item.j1 : Nat → List ByteArray → Bool → Int → Int → Option (Int × Int × Int)
  | 0, _, _, _, _ => none
  | k + 1, x4, x29, x398000, x398001 => if x29 = true then (if 0 < (x4.length : Int) then ((intrusionref08_number.f k (rdOf ByteArray.empty x4 0)).bind fun bt400 => (if bt400.2 = true then (intrusionref08_item.j2 k x4 bt400.1 x398001) else (some (0, 0, 14)))) else (none)) else (intrusionref08_item.j2 k x4 x398000 x398001)
def intrusionref08_item.j2 : Nat → List ByteArray → Int → Int → Option (Int × Int × Int)
  | 0, _, _, _ => none
  | k + 1, x4, x398000, x398001 => if (x4.length : Int) = 1 then (if x398000 > 65535 then (some (0, 0, 4)) else (if x398000 > x398000 then (some (0, 0, 4)) else (some (x398000, x398000, 0)))) else (if 1 < (x4.length : Int) then (if (rdOf ByteArray.empty x4 1).toList = ([] : List UInt8) then (if x398000 > 65535 then (some (0, 0, 4)) else (if x398001 > 65535 then (some (0, 0, 4)) else (if x398000 > x398001 then (some (0, 0, 4)) else (some (x398000, x398001, 0))))) else ((intrusionref08_number.f k (rdOf ByteArray.empty x4 1)).bind fun bt404 => (if bt404.2 = true then (if x398000 > 65535 then (some (0, 0, 4)) else (if bt404.1 > 65535 then (some (0, 0, 4)) else (if x398000 > bt404.1 then (some (0, 0, 4)) else (some (x398000, bt404.1, 0))))) else (some (0, 0, 14))))) else (none))
end
def intrusionref08_item.f (k : Nat) (a0 : ByteArray) : Option (Int × Int × Int) := (intrusionref08_split.f k a0 58).bind fun t394 => (if (t394.length : Int) > 2 then (intrusionref08_item.j0 k t394 true) else (intrusionref08_item.j0 k t394 (a0.toList == ([58] : List UInt8))))
theorem intrusionref08_item.mono_l : ∀ k, (∀ y0 y1, LeO (intrusionref08_item.j0 k y0 y1) (intrusionref08_item.j0 (k + 1) y0 y1)) ∧ (∀ y0 y1 y2 y3, LeO (intrusionref08_item.j1 k y0 y1 y2 y3) (intrusionref08_item.j1 (k + 1) y0 y1 y2 y3)) ∧ (∀ y0 y1 y2, LeO (intrusionref08_item.j2 k y0 y1 y2) (intrusionref08_item.j2 (k + 1) y0 y1 y2))
  | 0 => ⟨fun _ _ r h => by simp [intrusionref08_item.j0] at h, fun _ _ _ _ r h => by simp [intrusionref08_item.j1] at h, fun _ _ _ r h => by simp [intrusionref08_item.j2] at h⟩
  | k + 1 => by
    obtain ⟨ih0, ih1, ih2⟩ := intrusionref08_item.mono_l k
    refine ⟨?_, ?_, ?_⟩
    · intro y0 y1
      unfold intrusionref08_item.j0
      repeat' first
      | (with_reducible exact ih0 _ _)
      | (with_reducible exact ih1 _ _ _ _)
      | (with_reducible exact ih2 _ _ _)
      | (with_reducible exact intrusionref08_number.mono _ _)
      | (with_reducible exact intrusionref08_split.mono _ _ _)
      | (with_reducible exact LeO.refl _)
      | (with_reducible exact LeO.none _)
      | (with_reducible refine LeO.ite ?_ ?_)
      | (with_reducible refine LeO.bind ?_ (fun _ => ?_))
      | exact ih0 _ _
      | exact ih1 _ _ _ _
      | exact ih2 _ _ _
      | exact intrusionref08_number.mono _ _
      | exact intrusionref08_split.mono _ _ _
      | exact LeO.none _
      | refine LeO.ite ?_ ?_
      | refine LeO.bind ?_ (fun _ => ?_)
    · intro y0 y1 y2 y3
      unfold intrusionref08_item.j1
      repeat' first
      | (with_reducible exact ih0 _ _)
      | (with_reducible exact ih1 _ _ _ _)
      | (with_reducible exact ih2 _ _ _)
      | (with_reducible exact intrusionref08_number.mono _ _)
      | (with_reducible exact intrusionref08_split.mono _ _ _)
      | (with_reducible exact LeO.refl _)
      | (with_reducible exact LeO.none _)
      | (with_reducible refine LeO.ite ?_ ?_)
      | (with_reducible refine LeO.bind ?_ (fun _ => ?_))
      | exact ih0 _ _
      | exact ih1 _ _ _ _
      | exact ih2 _ _ _
      | exact intrusionref08_number.mono _ _
      | exact intrusionref08_split.mono _ _ _
      | exact LeO.none _
      | refine LeO.ite ?_ ?_
      | refine LeO.bind ?_ (fun _ => ?_)
    · intro y0 y1 y2
      unfold intrusionref08_item.j2
      repeat' first
      | (with_reducible exact ih0 _ _)
      | (with_reducible exact ih1 _ _ _ _)
      | (with_reducible exact ih2 _ _ _)
      | (with_reducible exact intrusionref08_number.mono _ _)
      | (with_reducible exact intrusionref08_split.mono _ _ _)
      | (with_reducible exact LeO.refl _)
      | (with_reducible exact LeO.none _)
      | (with_reducible refine LeO.ite ?_ ?_)
      | (with_reducible refine LeO.bind ?_ (fun _ => ?_))
      | exact ih0 _ _
      | exact ih1 _ _ _ _
      | exact ih2 _ _ _
      | exact intrusionref08_number.mono _ _
      | exact intrusionref08_split.mono _ _ _
      | exact LeO.none _
      | refine LeO.ite ?_ ?_
      | refine LeO.bind ?_ (fun _ => ?_)
theorem intrusionref08_item.mono : ∀ a0 k, LeO (intrusionref08_item.f k a0) (intrusionref08_item.f (k + 1) a0) := by
  intro a0 k
  obtain ⟨ih0, ih1, ih2⟩ := intrusionref08_item.mono_l k
  unfold intrusionref08_item.f
  repeat' first
      | (with_reducible exact ih0 _ _)
      | (with_reducible exact ih1 _ _ _ _)
      | (with_reducible exact ih2 _ _ _)
      | (with_reducible exact intrusionref08_number.mono _ _)
      | (with_reducible exact intrusionref08_split.mono _ _ _)
      | (with_reducible exact LeO.refl _)
      | (with_reducible exact LeO.none _)
      | (with_reducible refine LeO.ite ?_ ?_)
      | (with_reducible refine LeO.bind ?_ (fun _ => ?_))
      | exact ih0 _ _
      | exact ih1 _ _ _ _
      | exact ih2 _ _ _
      | exact intrusionref08_number.mono _ _
      | exact intrusionref08_split.mono _ _ _
      | exact LeO.none _
      | refine LeO.ite ?_ ?_
      | refine LeO.bind ?_ (fun _ => ?_)
set_option maxHeartbeats 8000000 in
set_option maxRecDepth 100000 in
theorem intrusionref08_item.calls (k : Nat) (a0 : ByteArray) (r1 : Int) (r2 : Int) (r3 : Int) (w : World) (h : intrusionref08_item.f k a0 = some (r1, r2, r3)) :
 Calls Tryd.prog 30 #[.string a0] w fun e w' => e = .returned (.tuple #[.agg #[.int .i64 r1, .int .i64 r2], .int .i64 r3]) ∧ Below w.heap.size w w' := by
 have hu33 := Tryd.underlying33
 have HB := Aside0.mk (Below.refl w.heap.size w)
 unfold intrusionref08_item.f at h; have H := h
 clear h
 replace H := Option.bind_eq_some_iff.mp H
 obtain ⟨t394, A20, H⟩ := H
 replace H : (if (t394.length : Int) > 2 then (intrusionref08_item.j0 k t394 true) else (intrusionref08_item.j0 k t394 (a0.toList == ([58] : List UInt8)))) = some (r1, r2, r3) := H
 have A2 := Aside0.mk A20
 clear A20
 have HC3 := Aside0.mk H
 clear H
 go_enter Tryd.func30, Tryd.ntmps30
 go_upto_region 2 with (first | ((with_reducible refine gate_dst (N := 2) rfl ?_); (try (refine gate_guard (by rfl) ?_; dsimp only)); refine zx 2 #[.int .i64 0, .int .i64 0] 33 ?_; intro gb393 hg w4 hbox hb; have BK393 := Aside0.mk (hbox); have GW393 := Aside0.mk ((by rw [hg]; exact (below_size (zB HB)) : w.heap.size ≤ gb393)); have GE393 := Aside0.mk ((by rw [hg]; exact (below_size (zB HB)) : w.heap.size ≤ gb393)); replace HB := Aside0.mk (below_step (zB HB) hb); clear hb hbox hg) | ((with_reducible refine gate_callee (f := 29) rfl ?_); refine goesL_ (some 11) rfl rfl Tryd.func29 (by kernel_rfl) rfl #[.string a0, .int .u8 58] rfl (by (try simp only [List.map_toArray, List.map_cons, List.map_nil]); first | done | rfl | (simp only [List.length_drop, List.length_take]; rfl)) ?_; (with_reducible refine (intrusionref08_split.calls k a0 58 t394 _ A2.out).mono ?_); rintro e w5 ⟨v395, rfl, ho0, hb⟩; refine ⟨_, rfl, ?_⟩; have HO396 := Aside0.mk (Kd.R_lower ho0 (below_size (zB HB))); replace BK393 := Aside0.mk (blk_below (g := gb393) (o := .cells #[.int .i64 0, .int .i64 0] 33 (0, 0)) (zK BK393) hb); replace HB := Aside0.mk (below_step (zB HB) hb); (try clear hb); (try clear ho0)))
 (try simp only [Act.put, List.setIfInBounds_toArray, List.set_cons_zero, List.set_cons_succ])
 go_cut [18] (fun v18 wc => ∃ (kq : Nat) (x18_2 : Bool), v18 = .bool x18_2 ∧ Aside0 (intrusionref08_item.j0 kq t394 x18_2 = some (r1, r2, r3)) ∧ Aside0 (kq ≤ k) ∧ Aside0 (Kd.R Kd.string 9 wc w.heap.size (fun _ => True) v395 t394) ∧ Aside0 (wc.heap[gb393]? = some (.cells #[.int .i64 0, .int .i64 0] 33 (0, 0))) ∧ Aside0 (Below w.heap.size w wc))
 case first =>
  have H := HC3.out
  clear HC3
  by_cases c6 : (t394.length : Int) > 2
  · rw [if_pos c6] at H
    have c6b0 : decide (2 < (t394.length : Int)) = true := decide_eq_true c6
    have c6b1 : decide (2 < t394.length) = true := decide_eq_true (by omega)
    clear c6
    (first | rw [c6b0] | (simp only [i64_w, i32_w]; rw [c6b0]) | skip)
    have H' := Aside0.mk H
    clear H
    obtain ⟨Ao7, co7, eo7⟩ := Kd.R_slice HO396.out
    subst eo7
    go_wp2
    go_meet
    case rel => exact ⟨_, (true), (by first | rfl | (simp; done) | (simp [*]; done)), H', ⟨by first | omega | exact Nat.le_refl _⟩, ⟨zR HO396⟩, ⟨zK BK393⟩, ⟨zB HB⟩⟩
  · rw [if_neg c6] at H
    have c6b0 : decide (2 < (t394.length : Int)) = false := decide_eq_false c6
    have c6b1 : decide (2 < t394.length) = false := decide_eq_false (by omega)
    clear c6
    (first | rw [c6b0] | (simp only [i64_w, i32_w]; rw [c6b0]) | skip)
    have H' := Aside0.mk H
    clear H
    obtain ⟨Ao8, co8, eo8⟩ := Kd.R_slice HO396.out
    subst eo8
    go_wp2
    go_meet
    case rel => exact ⟨_, ((a0.toList == ([58] : List UInt8))), (by first | rfl | (simp; done) | (simp [*]; done)), H', ⟨by first | omega | exact Nat.le_refl _⟩, ⟨zR HO396⟩, ⟨zK BK393⟩, ⟨zB HB⟩⟩
 case rest =>
  clear HC3
  try clear c2
  try clear p2
  try clear c3
  try clear c6
  try clear c6b0
  try clear c6b1
  obtain ⟨kq, x18_2, rfl, HA, HJ2, HO_4, BK393, HB⟩ := hcut
  cases kq with
  | zero => exact absurd HA.out (by simp [intrusionref08_item.j0])
  | succ kj2 =>
   have H := HA.out
   clear HA
   simp only [intrusionref08_item.j0] at H
   by_cases c9 : x18_2 = true
   · subst c9
     rw [if_pos rfl] at H
     simp only [Option.some.injEq, Prod.mk.injEq] at H
     obtain ⟨rfl, rfl, rfl⟩ := H
     obtain ⟨hcz10_0, hcz10_1⟩ := zc2 BK393
     obtain ⟨hfz10_0, hfz10_1⟩ := zf2 BK393
     go_wp2
     refine bodyPost_ret (results_ct rfl _ _ gb393 33 #[.int .i64 0, .int .i64 0] (0, 0) _ rfl (by refine zL ?_; refine blk_put (cs := #[.int .i64 0, .int .i64 0]) ?_ 1 _ rfl; refine zL ?_; refine blk_put (cs := #[.int .i64 0, .int .i64 0]) ?_ 0 _ rfl; refine zL ?_; exact BK393.out) Tryd.underlying33 rfl (by kernel_rfl)) rfl ?_
     exact ⟨by first | rfl | (simp [errW_none, errW_some] <;> rfl) | (simp [*, errW_none, errW_some] <;> rfl), by repeat (first | (with_reducible first | exact HB.out | apply below_alloc | apply pw_below_drewN | apply below_drew1 | refine below_set ?_ GE393.out) | exact HB.out)⟩
   · replace c9 := Bool.eq_false_iff.mpr c9
     subst c9
     rw [if_neg zF] at H
     have HC11 := Aside0.mk H
     clear H
     go_upto_region 5 with (first | ((with_reducible refine gate_dst (N := 5) rfl ?_); (try (refine gate_guard (by rfl) ?_; dsimp only)); refine zx 5 #[.int .i64 0, .int .i64 0] 33 ?_; intro gb397 hg w12 hbox hb; replace HO_4 := Aside0.mk (Kd.R_below (zR HO_4) hb); have BK397 := Aside0.mk (hbox); have GW397 := Aside0.mk ((by rw [hg]; exact (below_size (zB HB)) : w.heap.size ≤ gb397)); have GE397 := Aside0.mk ((by rw [hg]; exact (below_size (zB HB)) : w.heap.size ≤ gb397)); replace HB := Aside0.mk (below_step (zB HB) hb); have NB393_397 := Aside0.mk ((by rw [hg]; exact Nat.ne_of_lt (blk_lt (g := gb393) (o := .cells #[.int .i64 0, .int .i64 0] 33 (0, 0)) (zK BK393)) : gb393 ≠ gb397)); have NB397_393 := Aside0.mk ((by rw [hg]; exact Nat.ne_of_gt (blk_lt (g := gb393) (o := .cells #[.int .i64 0, .int .i64 0] 33 (0, 0)) (zK BK393)) : gb397 ≠ gb393)); replace BK393 := Aside0.mk (blk_below (g := gb393) (o := .cells #[.int .i64 0, .int .i64 0] 33 (0, 0)) (zK BK393) hb); clear hb hbox hg; have hnb13 := NB397_393.out; have hnc13 := NB393_397.out; obtain ⟨hcz14_0, hcz14_1⟩ := zc2 BK397; obtain ⟨hfz14_0, hfz14_1⟩ := zf2 BK397))
     (try simp only [Act.put, List.setIfInBounds_toArray, List.set_cons_zero, List.set_cons_succ])
     go_cut [29] (fun v29 wc => ∃ (kq : Nat) (x29_10 : Bool), v29 = .bool x29_10 ∧ Aside0 (intrusionref08_item.j1 kq t394 x29_10 0 65535 = some (r1, r2, r3)) ∧ Aside0 (kq ≤ kj2) ∧ Aside0 (Kd.R Kd.string 9 wc w.heap.size (fun _ => True) v395 t394) ∧ Aside0 (wc.heap[gb393]? = some (.cells #[.int .i64 0, .int .i64 0] 33 (0, 0))) ∧ Aside0 (wc.heap[gb397]? = some (.cells #[.int .i64 0, .int .i64 65535] 33 (0, 0))) ∧ Aside0 (Below w.heap.size w wc))
     case first =>
      have H := HC11.out
      clear HC11
      by_cases c15 : 0 < (t394.length : Int)
      · rw [if_pos c15] at H
        have c15b0 : decide (0 < (t394.length : Int)) = true := decide_eq_true c15
        have c15b1 : decide (0 < t394.length) = true := decide_eq_true (by omega)
        clear c15
        (first | rw [c15b0] | (simp only [i64_w, i32_w]; rw [c15b0]) | skip)
        by_cases c16 : (rdOf ByteArray.empty t394 0).toList = ([] : List UInt8)
        · rw [if_pos c16] at H
          have c16b0 : ((rdOf ByteArray.empty t394 0).toList == ([] : List UInt8)) = true := beq_iff_eq.mpr c16
          have c16b1 : ((rdOf ByteArray.empty t394 0).toList != ([] : List UInt8)) = false := bne_eq_false_iff_eq.mpr c16
          clear c16
          have H' := Aside0.mk H
          clear H
          obtain ⟨Ao17, co17, eo17⟩ := Kd.R_slice HO_4.out
          subst eo17
          have p398 : 0 ≤ (0 : Int) := (by omega)
          have q398 : 0 < (t394.length : Int) := za
          obtain ⟨ad398, e398, hx398_0⟩ := Kd.at_string (Kd.R_reads' HO_4.out).2.2 0 p398 q398
          cases e398
          have qi398 : (0 < t394.length) = True := eq_true (by omega)
          (try rw [show ((0 : Int)).toNat = 0 from rfl] at hx398_0)
          (try rw [Addr.add_zero'] at hx398_0)
          have hn398_0 : ad398.block ≠ gb397 := (by first | exact Kd.own_blk (Kd.R_ne HO_4.out BK397.out (by decide)) | exact Kd.own_blk (Kd.R_away HO_4.out (fun _ hk => by first | exact hk.2 | exact hk | exact hk.1 | exact hk.2.2 | exact hk.1.2)))
          have hn398_1 : ad398.block ≠ gb397 := (by first | exact Kd.own_blk (Kd.R_ne HO_4.out BK397.out (by decide)) | exact Kd.own_blk (Kd.R_away HO_4.out (fun _ hk => by first | exact hk.2 | exact hk | exact hk.1 | exact hk.2.2 | exact hk.1.2)))
          replace hx398_0 := (cell_far (p := ⟨gb397, 0, none⟩) (by first | (rw [add_block]; exact hn398_0) | (show (Addr.add _ _).block ≠ _; rw [add_block]; exact hn398_0) | exact hn398_0) (.int .i64 0)).trans hx398_0
          replace hx398_0 := (cell_far (p := ⟨gb397, 1, none⟩) (by first | (rw [add_block]; exact hn398_1) | (show (Addr.add _ _).block ≠ _; rw [add_block]; exact hn398_1) | exact hn398_1) (.int .i64 65535)).trans hx398_0
          clear hn398_0
          clear hn398_1
          replace p398 := eq_true p398
          replace q398 := eq_true q398
          go_wp2
          go_meet
          case rel => exact ⟨_, (((t394.length : Int) == 1)), (by first | rfl | (simp; done) | (simp [*]; done)), H', ⟨by have := HJ2.out; first | omega | exact Nat.le_refl _⟩, ⟨by (with_reducible repeat (first | apply Kd.R_alloc | apply Kd.R_drewN | apply Kd.R_drew)); exact Kd.R_mono (Kd.R_far (p := ⟨gb397, 1, none⟩) (Kd.R_far (p := ⟨gb397, 0, none⟩) (Kd.R_types HO_4.out BK397.out (by decide)) (fun _ hk => hk.2) (.int .i64 0)) (fun _ hk => hk.2) (.int .i64 65535)) (fun _ hk => trivial)⟩, ⟨by refine zL ?_; refine blk_far ?_ NB393_397.out _; refine zL ?_; refine blk_far ?_ NB393_397.out _; refine zL ?_; exact BK393.out⟩, ⟨by refine zL ?_; refine blk_put (cs := #[.int .i64 0, .int .i64 0]) ?_ 1 _ rfl; refine zL ?_; refine blk_put (cs := #[.int .i64 0, .int .i64 0]) ?_ 0 _ rfl; refine zL ?_; exact BK397.out⟩, ⟨zB HB⟩⟩
        · rw [if_neg c16] at H
          have c16b0 : ((rdOf ByteArray.empty t394 0).toList == ([] : List UInt8)) = false := beq_eq_false_iff_ne.mpr c16
          have c16b1 : ((rdOf ByteArray.empty t394 0).toList != ([] : List UInt8)) = true := bne_iff_ne.mpr c16
          have H' := Aside0.mk H
          clear H
          obtain ⟨Ao18, co18, eo18⟩ := Kd.R_slice HO_4.out
          subst eo18
          have p398 : 0 ≤ (0 : Int) := (by omega)
          have q398 : 0 < (t394.length : Int) := za
          obtain ⟨ad398, e398, hx398_0⟩ := Kd.at_string (Kd.R_reads' HO_4.out).2.2 0 p398 q398
          cases e398
          have qi398 : (0 < t394.length) = True := eq_true (by omega)
          (try rw [show ((0 : Int)).toNat = 0 from rfl] at hx398_0)
          (try rw [Addr.add_zero'] at hx398_0)
          have hn398_0 : ad398.block ≠ gb397 := (by first | exact Kd.own_blk (Kd.R_ne HO_4.out BK397.out (by decide)) | exact Kd.own_blk (Kd.R_away HO_4.out (fun _ hk => by first | exact hk.2 | exact hk | exact hk.1 | exact hk.2.2 | exact hk.1.2)))
          have hn398_1 : ad398.block ≠ gb397 := (by first | exact Kd.own_blk (Kd.R_ne HO_4.out BK397.out (by decide)) | exact Kd.own_blk (Kd.R_away HO_4.out (fun _ hk => by first | exact hk.2 | exact hk | exact hk.1 | exact hk.2.2 | exact hk.1.2)))
          replace hx398_0 := (cell_far (p := ⟨gb397, 0, none⟩) (by first | (rw [add_block]; exact hn398_0) | (show (Addr.add _ _).block ≠ _; rw [add_block]; exact hn398_0) | exact hn398_0) (.int .i64 0)).trans hx398_0
          replace hx398_0 := (cell_far (p := ⟨gb397, 1, none⟩) (by first | (rw [add_block]; exact hn398_1) | (show (Addr.add _ _).block ≠ _; rw [add_block]; exact hn398_1) | exact hn398_1) (.int .i64 65535)).trans hx398_0
          clear hn398_0
          clear hn398_1
          replace p398 := eq_true p398
          replace q398 := eq_true q398
          go_wp2
          go_meet
          case rel => exact ⟨_, (true), (by first | rfl | (simp; done) | (simp [*]; done)), H', ⟨by have := HJ2.out; first | omega | exact Nat.le_refl _⟩, ⟨by (with_reducible repeat (first | apply Kd.R_alloc | apply Kd.R_drewN | apply Kd.R_drew)); exact Kd.R_mono (Kd.R_far (p := ⟨gb397, 1, none⟩) (Kd.R_far (p := ⟨gb397, 0, none⟩) (Kd.R_types HO_4.out BK397.out (by decide)) (fun _ hk => hk.2) (.int .i64 0)) (fun _ hk => hk.2) (.int .i64 65535)) (fun _ hk => trivial)⟩, ⟨by refine zL ?_; refine blk_far ?_ NB393_397.out _; refine zL ?_; refine blk_far ?_ NB393_397.out _; refine zL ?_; exact BK393.out⟩, ⟨by refine zL ?_; refine blk_put (cs := #[.int .i64 0, .int .i64 0]) ?_ 1 _ rfl; refine zL ?_; refine blk_put (cs := #[.int .i64 0, .int .i64 0]) ?_ 0 _ rfl; refine zL ?_; exact BK397.out⟩, ⟨zB HB⟩⟩
      · rw [if_neg c15] at H
        exact absurd H (by simp)
     case rest =>
      clear HC11
      try clear c1
      try clear c2
      try clear p2
      try clear c3
      try clear p3
      try clear q3
      try clear hx3
      try clear qi3
      try clear c6
      try clear c6b0
      try clear c6b1
      try clear c9
      try clear c13
      try clear c15
      try clear c15b0
      try clear c15b1
      try clear c16
      try clear c16b0
      try clear c16b1
      try clear hcz10_0
      try clear hcz10_1
      try clear hcz14_0
      try clear hcz14_1
      try clear hfz10_0
      try clear hfz10_1
      try clear hfz14_0
      try clear hfz14_1
      try clear hx398_0
      try clear p2
      try clear p398
      try clear q398
      obtain ⟨kq, x29_10, rfl, HA, HJ10, HO_4, BK393, BK397, HB⟩ := hcut
      cases kq with
      | zero => exact absurd HA.out (by simp [intrusionref08_item.j1])
      | succ kj10 =>
       have H := HA.out
       clear HA
       simp only [intrusionref08_item.j1] at H
       have HC19 := Aside0.mk H
       clear H
       go_upto_if 29 with (fail)
       go_cut [] (fun wc => ∃ (kq : Nat) (x394000_18 : Int) (x394001_18 : Int) (x398000_18 : Int), Aside0 (intrusionref08_item.j2 kq t394 x398000_18 65535 = some (r1, r2, r3)) ∧ Aside0 (kq ≤ kj10) ∧ Aside0 (Kd.R Kd.string 9 wc w.heap.size (fun _ => True) v395 t394) ∧ Aside0 (wc.heap[gb393]? = some (.cells #[.int .i64 x394000_18, .int .i64 x394001_18] 33 (0, 0))) ∧ Aside0 (wc.heap[gb397]? = some (.cells #[.int .i64 x398000_18, .int .i64 65535] 33 (0, 0))) ∧ Aside0 (Below w.heap.size w wc))
       case first =>
        have H := HC19.out
        clear HC19
        by_cases c20 : x29_10 = true
        · subst c20
          rw [if_pos rfl] at H
          by_cases c21 : 0 < (t394.length : Int)
          · rw [if_pos c21] at H
            have c21b0 : decide (0 < (t394.length : Int)) = true := decide_eq_true c21
            have c21b1 : decide (0 < t394.length) = true := decide_eq_true (by omega)
            clear c21
            (first | rw [c21b0] | (simp only [i64_w, i32_w]; rw [c21b0]) | skip)
            replace H := Option.bind_eq_some_iff.mp H
            obtain ⟨⟨t400, t401⟩, A220, H⟩ := H
            replace H : (if t401 = true then (intrusionref08_item.j2 kj10 t394 t400 65535) else (some (0, 0, 14))) = some (r1, r2, r3) := H
            have A22 := Aside0.mk A220
            clear A220
            by_cases c23 : t401 = true
            · subst c23
              rw [if_pos rfl] at H
              have H' := Aside0.mk H
              clear H
              obtain ⟨Ao24, co24, eo24⟩ := Kd.R_slice HO_4.out
              subst eo24
              have p399 : 0 ≤ (0 : Int) := (by omega)
              have q399 : 0 < (t394.length : Int) := za
              obtain ⟨ad399, e399, hx399_0⟩ := Kd.at_string (Kd.R_reads' HO_4.out).2.2 0 p399 q399
              cases e399
              have qi399 : (0 < t394.length) = True := eq_true (by omega)
              (try rw [show ((0 : Int)).toNat = 0 from rfl] at hx399_0)
              (try rw [Addr.add_zero'] at hx399_0)
              replace p399 := eq_true p399
              replace q399 := eq_true q399
              go_wp2_with (first | ((with_reducible refine gate_callee (f := 47) rfl ?_); refine goesL_ (some 34) rfl rfl Tryd.func47 (by kernel_rfl) rfl #[.string (rdOf ByteArray.empty t394 0)] rfl (by (try simp only [List.map_toArray, List.map_cons, List.map_nil]); first | done | rfl | (simp only [List.length_drop, List.length_take]; rfl)) ?_; (with_reducible refine (intrusionref08_number.calls kj10 (rdOf ByteArray.empty t394 0) t400 true _ A22.out).mono ?_); rintro e w25 ⟨rfl, hb⟩; refine ⟨_, rfl, ?_⟩; replace HO_4 := Aside0.mk (Kd.R_below (zR HO_4) hb); replace BK393 := Aside0.mk (blk_below (g := gb393) (o := .cells #[.int .i64 0, .int .i64 0] 33 (0, 0)) (zK BK393) hb); replace BK397 := Aside0.mk (blk_below (g := gb397) (o := .cells #[.int .i64 0, .int .i64 65535] 33 (0, 0)) (zK BK397) hb); replace HB := Aside0.mk (below_step (zB HB) hb); (try clear hb); have hnb26 := NB397_393.out; have hnc26 := NB393_397.out; obtain ⟨hcz27_0, hcz27_1⟩ := zc2 BK397; obtain ⟨hfz27_0, hfz27_1⟩ := zf2 BK397))
              go_meet
              case rel => exact ⟨_, (0), (0), (t400), H', ⟨by have := HJ2.out; have := HJ10.out; first | omega | exact Nat.le_refl _⟩, ⟨by (with_reducible repeat (first | apply Kd.R_alloc | apply Kd.R_drewN | apply Kd.R_drew)); exact Kd.R_mono (Kd.R_far (p := ⟨gb397, 0, none⟩) (Kd.R_types HO_4.out BK397.out (by decide)) (fun _ hk => hk.2) (.int .i64 t400)) (fun _ hk => trivial)⟩, ⟨by refine zL ?_; refine blk_far ?_ NB393_397.out _; refine zL ?_; exact BK393.out⟩, ⟨by refine zL ?_; refine blk_put (cs := #[.int .i64 0, .int .i64 65535]) ?_ 0 _ rfl; refine zL ?_; exact BK397.out⟩, ⟨zB HB⟩⟩
            · replace c23 := Bool.eq_false_iff.mpr c23
              subst c23
              rw [if_neg zF] at H
              simp only [Option.some.injEq, Prod.mk.injEq] at H
              obtain ⟨rfl, rfl, rfl⟩ := H
              obtain ⟨Ao28, co28, eo28⟩ := Kd.R_slice HO_4.out
              subst eo28
              have p399 : 0 ≤ (0 : Int) := (by omega)
              have q399 : 0 < (t394.length : Int) := za
              obtain ⟨ad399, e399, hx399_0⟩ := Kd.at_string (Kd.R_reads' HO_4.out).2.2 0 p399 q399
              cases e399
              have qi399 : (0 < t394.length) = True := eq_true (by omega)
              (try rw [show ((0 : Int)).toNat = 0 from rfl] at hx399_0)
              (try rw [Addr.add_zero'] at hx399_0)
              replace p399 := eq_true p399
              replace q399 := eq_true q399
              go_wp2_with (first | ((with_reducible refine gate_callee (f := 47) rfl ?_); refine goesL_ (some 34) rfl rfl Tryd.func47 (by kernel_rfl) rfl #[.string (rdOf ByteArray.empty t394 0)] rfl (by (try simp only [List.map_toArray, List.map_cons, List.map_nil]); first | done | rfl | (simp only [List.length_drop, List.length_take]; rfl)) ?_; (with_reducible refine (intrusionref08_number.calls kj10 (rdOf ByteArray.empty t394 0) t400 false _ A22.out).mono ?_); rintro e w29 ⟨rfl, hb⟩; refine ⟨_, rfl, ?_⟩; replace HO_4 := Aside0.mk (Kd.R_below (zR HO_4) hb); replace BK393 := Aside0.mk (blk_below (g := gb393) (o := .cells #[.int .i64 0, .int .i64 0] 33 (0, 0)) (zK BK393) hb); replace BK397 := Aside0.mk (blk_below (g := gb397) (o := .cells #[.int .i64 0, .int .i64 65535] 33 (0, 0)) (zK BK397) hb); replace HB := Aside0.mk (below_step (zB HB) hb); (try clear hb); have hnb30 := NB393_397.out; have hnc30 := NB397_393.out; obtain ⟨hcz31_0, hcz31_1⟩ := zc2 BK393; obtain ⟨hfz31_0, hfz31_1⟩ := zf2 BK393))
              refine bodyPost_ret (results_ct rfl _ _ gb393 33 #[.int .i64 0, .int .i64 0] (0, 0) _ rfl (by refine zL ?_; refine blk_put (cs := #[.int .i64 0, .int .i64 0]) ?_ 1 _ rfl; refine zL ?_; refine blk_put (cs := #[.int .i64 0, .int .i64 0]) ?_ 0 _ rfl; refine zL ?_; exact BK393.out) Tryd.underlying33 rfl (by kernel_rfl)) rfl ?_
              exact ⟨by first | rfl | (simp [errW_none, errW_some] <;> rfl) | (simp [*, errW_none, errW_some] <;> rfl), by repeat (first | (with_reducible first | exact HB.out | apply below_alloc | apply pw_below_drewN | apply below_drew1 | refine below_set ?_ GE393.out | refine below_set ?_ GE397.out) | exact HB.out)⟩
          · rw [if_neg c21] at H
            exact absurd H (by simp)
        · replace c20 := Bool.eq_false_iff.mpr c20
          subst c20
          rw [if_neg zF] at H
          have H' := Aside0.mk H
          clear H
          go_wp2
          go_meet
          case rel => exact ⟨_, (0), (0), (0), H', ⟨by have := HJ2.out; have := HJ10.out; first | omega | exact Nat.le_refl _⟩, ⟨zR HO_4⟩, ⟨zK BK393⟩, ⟨zK BK397⟩, ⟨zB HB⟩⟩
       case rest =>
        clear HC19
        try clear c1
        try clear c2
        try clear p2
        try clear c3
        try clear p3
        try clear q3
        try clear hx3
        try clear qi3
        try clear c4
        try clear c6
        try clear c6b0
        try clear c6b1
        try clear c9
        try clear c13
        try clear c15
        try clear c15b0
        try clear c15b1
        try clear c16
        try clear c16b0
        try clear c16b1
        try clear c20
        try clear c21
        try clear c21b0
        try clear c21b1
        try clear c23
        try clear c26
        try clear c29
        try clear c30
        try clear hcz10_0
        try clear hcz10_1
        try clear hcz14_0
        try clear hcz14_1
        try clear hcz27_0
        try clear hcz27_1
        try clear hcz31_0
        try clear hcz31_1
        try clear hfz10_0
        try clear hfz10_1
        try clear hfz14_0
        try clear hfz14_1
        try clear hfz27_0
        try clear hfz27_1
        try clear hfz31_0
        try clear hfz31_1
        try clear hx398_0
        try clear hx399_0
        try clear p2
        try clear p3
        try clear p398
        try clear p399
        try clear q3
        try clear q398
        try clear q399
        obtain ⟨kq, x394000_18, x394001_18, x398000_18, HA, HJ18, HO_4, BK393, BK397, HB⟩ := hcut
        cases kq with
        | zero => exact absurd HA.out (by simp [intrusionref08_item.j2])
        | succ kj18 =>
         have H := HA.out
         clear HA
         simp only [intrusionref08_item.j2] at H
         by_cases c32 : (t394.length : Int) = 1
         · rw [if_pos c32] at H
           have c32b0 : ((t394.length : Int) == 1) = true := beq_iff_eq.mpr c32
           have c32b1 : ((t394.length : Int) != 1) = false := bne_eq_false_iff_eq.mpr c32
           clear c32
           by_cases c33 : x398000_18 > 65535
           · rw [if_pos c33] at H
             have c33b0 : decide (65535 < x398000_18) = true := decide_eq_true c33
             clear c33
             simp only [Option.some.injEq, Prod.mk.injEq] at H
             obtain ⟨rfl, rfl, rfl⟩ := H
             obtain ⟨Ao34, co34, eo34⟩ := Kd.R_slice HO_4.out
             subst eo34
             have hnb35 := NB397_393.out
             have hnc35 := NB393_397.out
             obtain ⟨hcz36_0, hcz36_1⟩ := zc2 BK397
             obtain ⟨hfz36_0, hfz36_1⟩ := zf2 BK397
             obtain ⟨hcz37_0, hcz37_1⟩ := zc2 BK393
             obtain ⟨hfz37_0, hfz37_1⟩ := zf2 BK393
             go_wp2
             refine bodyPost_ret (results_ct rfl _ _ gb393 33 #[.int .i64 0, .int .i64 0] (0, 0) _ rfl (by refine zL ?_; refine blk_put (cs := #[.int .i64 0, .int .i64 x394001_18]) ?_ 1 _ rfl; refine zL ?_; refine blk_put (cs := #[.int .i64 x394000_18, .int .i64 x394001_18]) ?_ 0 _ rfl; refine zL ?_; refine blk_far ?_ NB393_397.out _; refine zL ?_; exact BK393.out) Tryd.underlying33 rfl (by kernel_rfl)) rfl ?_
             exact ⟨by first | rfl | (simp [errW_none, errW_some] <;> rfl) | (simp [*, errW_none, errW_some] <;> rfl), by repeat (first | (with_reducible first | exact HB.out | apply below_alloc | apply pw_below_drewN | apply below_drew1 | refine below_set ?_ GE393.out | refine below_set ?_ GE397.out) | exact HB.out)⟩
           · rw [if_neg c33] at H
             have c33b0 : decide (65535 < x398000_18) = false := decide_eq_false c33
             clear c33
             by_cases c38 : x398000_18 > x398000_18
             · exact absurd c38 (Int.lt_irrefl _)
             · rw [if_neg c38] at H
               have c38b0 : decide (x398000_18 < x398000_18) = false := decide_eq_false c38
               clear c38
               simp only [Option.some.injEq, Prod.mk.injEq] at H
               obtain ⟨rfl, rfl, rfl⟩ := H
               obtain ⟨Ao43, co43, eo43⟩ := Kd.R_slice HO_4.out
               subst eo43
               have hnb44 := NB397_393.out
               have hnc44 := NB393_397.out
               obtain ⟨hcz45_0, hcz45_1⟩ := zc2 BK397
               obtain ⟨hfz45_0, hfz45_1⟩ := zf2 BK397
               obtain ⟨hcz46_0, hcz46_1⟩ := zc2 BK393
               obtain ⟨hfz46_0, hfz46_1⟩ := zf2 BK393
               go_wp2
               refine bodyPost_ret (results_ct rfl _ _ gb393 33 #[.int .i64 x398000_18, .int .i64 x398000_18] (0, 0) _ rfl (by refine zL ?_; refine blk_put (cs := #[.int .i64 x398000_18, .int .i64 x394001_18]) ?_ 1 _ rfl; refine zL ?_; refine blk_put (cs := #[.int .i64 x394000_18, .int .i64 x394001_18]) ?_ 0 _ rfl; refine zL ?_; refine blk_far ?_ NB393_397.out _; refine zL ?_; exact BK393.out) Tryd.underlying33 rfl (by kernel_rfl)) rfl ?_
               exact ⟨by first | rfl | (simp [errW_none, errW_some] <;> rfl) | (simp [*, errW_none, errW_some] <;> rfl), by repeat (first | (with_reducible first | exact HB.out | apply below_alloc | apply pw_below_drewN | apply below_drew1 | refine below_set ?_ GE393.out | refine below_set ?_ GE397.out) | exact HB.out)⟩
         · rw [if_neg c32] at H
           have c32b0 : ((t394.length : Int) == 1) = false := beq_eq_false_iff_ne.mpr c32
           have c32b1 : ((t394.length : Int) != 1) = true := bne_iff_ne.mpr c32
           by_cases c47 : 1 < (t394.length : Int)
           · rw [if_pos c47] at H
             have c47b0 : decide (1 < (t394.length : Int)) = true := decide_eq_true c47
             have c47b1 : decide (1 < t394.length) = true := decide_eq_true (by omega)
             clear c47
             by_cases c48 : (rdOf ByteArray.empty t394 1).toList = ([] : List UInt8)
             · rw [if_pos c48] at H
               have c48b0 : ((rdOf ByteArray.empty t394 1).toList == ([] : List UInt8)) = true := beq_iff_eq.mpr c48
               have c48b1 : ((rdOf ByteArray.empty t394 1).toList != ([] : List UInt8)) = false := bne_eq_false_iff_eq.mpr c48
               clear c48
               by_cases c49 : x398000_18 > 65535
               · rw [if_pos c49] at H
                 have c49b0 : decide (65535 < x398000_18) = true := decide_eq_true c49
                 clear c49
                 simp only [Option.some.injEq, Prod.mk.injEq] at H
                 obtain ⟨rfl, rfl, rfl⟩ := H
                 obtain ⟨Ao50, co50, eo50⟩ := Kd.R_slice HO_4.out
                 subst eo50
                 have p402 : 0 ≤ (1 : Int) := (by omega)
                 have q402 : 1 < (t394.length : Int) := za
                 obtain ⟨ad402, e402, hx402_0⟩ := Kd.at_string (Kd.R_reads' HO_4.out).2.2 1 p402 q402
                 cases e402
                 (try simp only [show (1 : Int).toNat = 1 from rfl, Nat.reduceMul, Nat.reduceEqDiff, Go.Addr.add, ↓reduceIte] at hx402_0)
                 have qi402 : (1 < t394.length) = True := eq_true (by omega)
                 (try rw [show ((1 : Int)).toNat = 1 from rfl] at hx402_0)
                 replace p402 := eq_true p402
                 replace q402 := eq_true q402
                 have hnb51 := NB397_393.out
                 have hnc51 := NB393_397.out
                 obtain ⟨hcz52_0, hcz52_1⟩ := zc2 BK397
                 obtain ⟨hfz52_0, hfz52_1⟩ := zf2 BK397
                 obtain ⟨hcz53_0, hcz53_1⟩ := zc2 BK393
                 obtain ⟨hfz53_0, hfz53_1⟩ := zf2 BK393
                 go_wp2
                 refine bodyPost_ret (results_ct rfl _ _ gb393 33 #[.int .i64 0, .int .i64 0] (0, 0) _ rfl (by refine zL ?_; refine blk_put (cs := #[.int .i64 0, .int .i64 x394001_18]) ?_ 1 _ rfl; refine zL ?_; refine blk_put (cs := #[.int .i64 x394000_18, .int .i64 x394001_18]) ?_ 0 _ rfl; refine zL ?_; exact BK393.out) Tryd.underlying33 rfl (by kernel_rfl)) rfl ?_
                 exact ⟨by first | rfl | (simp [errW_none, errW_some] <;> rfl) | (simp [*, errW_none, errW_some] <;> rfl), by repeat (first | (with_reducible first | exact HB.out | apply below_alloc | apply pw_below_drewN | apply below_drew1 | refine below_set ?_ GE393.out | refine below_set ?_ GE397.out) | exact HB.out)⟩
               · rw [if_neg c49] at H
                 have c49b0 : decide (65535 < x398000_18) = false := decide_eq_false c49
                 clear c49
                 by_cases c54 : (65535 : Int) > 65535
                 · exact absurd c54 (Int.lt_irrefl _)
                 · rw [if_neg c54] at H
                   have c54b0 : decide ((65535 : Int) < 65535) = false := decide_eq_false c54
                   clear c54
                   by_cases c59 : x398000_18 > 65535
                   · exact absurd c59 (of_decide_eq_false c49b0)
                   · rw [if_neg c59] at H
                     have c59b0 : decide (65535 < x398000_18) = false := decide_eq_false c59
                     clear c59
                     simp only [Option.some.injEq, Prod.mk.injEq] at H
                     obtain ⟨rfl, rfl, rfl⟩ := H
                     obtain ⟨Ao64, co64, eo64⟩ := Kd.R_slice HO_4.out
                     subst eo64
                     have p402 : 0 ≤ (1 : Int) := (by omega)
                     have q402 : 1 < (t394.length : Int) := za
                     obtain ⟨ad402, e402, hx402_0⟩ := Kd.at_string (Kd.R_reads' HO_4.out).2.2 1 p402 q402
                     cases e402
                     (try simp only [show (1 : Int).toNat = 1 from rfl, Nat.reduceMul, Nat.reduceEqDiff, Go.Addr.add, ↓reduceIte] at hx402_0)
                     have qi402 : (1 < t394.length) = True := eq_true (by omega)
                     (try rw [show ((1 : Int)).toNat = 1 from rfl] at hx402_0)
                     replace p402 := eq_true p402
                     replace q402 := eq_true q402
                     have hnb65 := NB397_393.out
                     have hnc65 := NB393_397.out
                     obtain ⟨hcz66_0, hcz66_1⟩ := zc2 BK397
                     obtain ⟨hfz66_0, hfz66_1⟩ := zf2 BK397
                     obtain ⟨hcz67_0, hcz67_1⟩ := zc2 BK393
                     obtain ⟨hfz67_0, hfz67_1⟩ := zf2 BK393
                     go_wp2
                     refine bodyPost_ret (results_ct rfl _ _ gb393 33 #[.int .i64 x398000_18, .int .i64 65535] (0, 0) _ rfl (by refine zL ?_; refine blk_put (cs := #[.int .i64 x398000_18, .int .i64 x394001_18]) ?_ 1 _ rfl; refine zL ?_; refine blk_put (cs := #[.int .i64 x394000_18, .int .i64 x394001_18]) ?_ 0 _ rfl; refine zL ?_; exact BK393.out) Tryd.underlying33 rfl (by kernel_rfl)) rfl ?_
                     exact ⟨by first | rfl | (simp [errW_none, errW_some] <;> rfl) | (simp [*, errW_none, errW_some] <;> rfl), by repeat (first | (with_reducible first | exact HB.out | apply below_alloc | apply pw_below_drewN | apply below_drew1 | refine below_set ?_ GE393.out | refine below_set ?_ GE397.out) | exact HB.out)⟩
             · rw [if_neg c48] at H
               have c48b0 : ((rdOf ByteArray.empty t394 1).toList == ([] : List UInt8)) = false := beq_eq_false_iff_ne.mpr c48
               have c48b1 : ((rdOf ByteArray.empty t394 1).toList != ([] : List UInt8)) = true := bne_iff_ne.mpr c48
               replace H := Option.bind_eq_some_iff.mp H
               obtain ⟨⟨t404, t405⟩, A680, H⟩ := H
               replace H : (if t405 = true then (if x398000_18 > 65535 then (some (0, 0, 4)) else (if t404 > 65535 then (some (0, 0, 4)) else (if x398000_18 > t404 then (some (0, 0, 4)) else (some (x398000_18, t404, 0))))) else (some (0, 0, 14))) = some (r1, r2, r3) := H
               have A68 := Aside0.mk A680
               clear A680
               by_cases c69 : t405 = true
               · subst c69
                 rw [if_pos rfl] at H
                 by_cases c70 : x398000_18 > 65535
                 · rw [if_pos c70] at H
                   have c70b0 : decide (65535 < x398000_18) = true := decide_eq_true c70
                   clear c70
                   simp only [Option.some.injEq, Prod.mk.injEq] at H
                   obtain ⟨rfl, rfl, rfl⟩ := H
                   obtain ⟨Ao71, co71, eo71⟩ := Kd.R_slice HO_4.out
                   subst eo71
                   have p402 : 0 ≤ (1 : Int) := (by omega)
                   have q402 : 1 < (t394.length : Int) := za
                   obtain ⟨ad402, e402, hx402_0⟩ := Kd.at_string (Kd.R_reads' HO_4.out).2.2 1 p402 q402
                   cases e402
                   (try simp only [show (1 : Int).toNat = 1 from rfl, Nat.reduceMul, Nat.reduceEqDiff, Go.Addr.add, ↓reduceIte] at hx402_0)
                   have qi402 : (1 < t394.length) = True := eq_true (by omega)
                   (try rw [show ((1 : Int)).toNat = 1 from rfl] at hx402_0)
                   replace p402 := eq_true p402
                   replace q402 := eq_true q402
                   have p403 : 0 ≤ (1 : Int) := (by omega)
                   have q403 : 1 < (t394.length : Int) := za
                   obtain ⟨ad403, e403, hx403_0⟩ := Kd.at_string (Kd.R_reads' HO_4.out).2.2 1 p403 q403
                   obtain rfl : ad402 = ad403 := (by injection e403)
                   (try simp only [show (1 : Int).toNat = 1 from rfl, Nat.reduceMul, Nat.reduceEqDiff, Go.Addr.add, ↓reduceIte] at hx403_0)
                   have qi403 : (1 < t394.length) = True := eq_true (by omega)
                   (try rw [show ((1 : Int)).toNat = 1 from rfl] at hx403_0)
                   replace p403 := eq_true p403
                   replace q403 := eq_true q403
                   go_wp2_with (first | ((with_reducible refine gate_callee (f := 47) rfl ?_); refine goesL_ (some 56) rfl rfl Tryd.func47 (by kernel_rfl) rfl #[.string (rdOf ByteArray.empty t394 1)] rfl (by (try simp only [List.map_toArray, List.map_cons, List.map_nil]); first | done | rfl | (simp only [List.length_drop, List.length_take]; rfl)) ?_; (with_reducible refine (intrusionref08_number.calls kj18 (rdOf ByteArray.empty t394 1) t404 true _ A68.out).mono ?_); rintro e w72 ⟨rfl, hb⟩; refine ⟨_, rfl, ?_⟩; replace HO_4 := Aside0.mk (Kd.R_below (zR HO_4) hb); replace BK393 := Aside0.mk (blk_below (g := gb393) (o := .cells #[.int .i64 x394000_18, .int .i64 x394001_18] 33 (0, 0)) (zK BK393) hb); replace BK397 := Aside0.mk (blk_below (g := gb397) (o := .cells #[.int .i64 x398000_18, .int .i64 65535] 33 (0, 0)) (zK BK397) hb); replace HB := Aside0.mk (below_step (zB HB) hb); (try clear hb); have hnb73 := NB397_393.out; have hnc73 := NB393_397.out; obtain ⟨hcz74_0, hcz74_1⟩ := zc2 BK397; obtain ⟨hfz74_0, hfz74_1⟩ := zf2 BK397; obtain ⟨hcz75_0, hcz75_1⟩ := zc2 BK393; obtain ⟨hfz75_0, hfz75_1⟩ := zf2 BK393))
                   refine bodyPost_ret (results_ct rfl _ _ gb393 33 #[.int .i64 0, .int .i64 0] (0, 0) _ rfl (by refine zL ?_; refine blk_put (cs := #[.int .i64 0, .int .i64 x394001_18]) ?_ 1 _ rfl; refine zL ?_; refine blk_put (cs := #[.int .i64 x394000_18, .int .i64 x394001_18]) ?_ 0 _ rfl; refine zL ?_; refine blk_far ?_ NB393_397.out _; refine zL ?_; exact BK393.out) Tryd.underlying33 rfl (by kernel_rfl)) rfl ?_
                   exact ⟨by first | rfl | (simp [errW_none, errW_some] <;> rfl) | (simp [*, errW_none, errW_some] <;> rfl), by repeat (first | (with_reducible first | exact HB.out | apply below_alloc | apply pw_below_drewN | apply below_drew1 | refine below_set ?_ GE393.out | refine below_set ?_ GE397.out) | exact HB.out)⟩
                 · rw [if_neg c70] at H
                   have c70b0 : decide (65535 < x398000_18) = false := decide_eq_false c70
                   clear c70
                   by_cases c76 : t404 > 65535
                   · rw [if_pos c76] at H
                     have c76b0 : decide (65535 < t404) = true := decide_eq_true c76
                     clear c76
                     simp only [Option.some.injEq, Prod.mk.injEq] at H
                     obtain ⟨rfl, rfl, rfl⟩ := H
                     obtain ⟨Ao77, co77, eo77⟩ := Kd.R_slice HO_4.out
                     subst eo77
                     have p402 : 0 ≤ (1 : Int) := (by omega)
                     have q402 : 1 < (t394.length : Int) := za
                     obtain ⟨ad402, e402, hx402_0⟩ := Kd.at_string (Kd.R_reads' HO_4.out).2.2 1 p402 q402
                     cases e402
                     (try simp only [show (1 : Int).toNat = 1 from rfl, Nat.reduceMul, Nat.reduceEqDiff, Go.Addr.add, ↓reduceIte] at hx402_0)
                     have qi402 : (1 < t394.length) = True := eq_true (by omega)
                     (try rw [show ((1 : Int)).toNat = 1 from rfl] at hx402_0)
                     replace p402 := eq_true p402
                     replace q402 := eq_true q402
                     have p403 : 0 ≤ (1 : Int) := (by omega)
                     have q403 : 1 < (t394.length : Int) := za
                     obtain ⟨ad403, e403, hx403_0⟩ := Kd.at_string (Kd.R_reads' HO_4.out).2.2 1 p403 q403
                     obtain rfl : ad402 = ad403 := (by injection e403)
                     (try simp only [show (1 : Int).toNat = 1 from rfl, Nat.reduceMul, Nat.reduceEqDiff, Go.Addr.add, ↓reduceIte] at hx403_0)
                     have qi403 : (1 < t394.length) = True := eq_true (by omega)
                     (try rw [show ((1 : Int)).toNat = 1 from rfl] at hx403_0)
                     replace p403 := eq_true p403
                     replace q403 := eq_true q403
                     go_wp2_with (first | ((with_reducible refine gate_callee (f := 47) rfl ?_); refine goesL_ (some 56) rfl rfl Tryd.func47 (by kernel_rfl) rfl #[.string (rdOf ByteArray.empty t394 1)] rfl (by (try simp only [List.map_toArray, List.map_cons, List.map_nil]); first | done | rfl | (simp only [List.length_drop, List.length_take]; rfl)) ?_; (with_reducible refine (intrusionref08_number.calls kj18 (rdOf ByteArray.empty t394 1) t404 true _ A68.out).mono ?_); rintro e w78 ⟨rfl, hb⟩; refine ⟨_, rfl, ?_⟩; replace HO_4 := Aside0.mk (Kd.R_below (zR HO_4) hb); replace BK393 := Aside0.mk (blk_below (g := gb393) (o := .cells #[.int .i64 x394000_18, .int .i64 x394001_18] 33 (0, 0)) (zK BK393) hb); replace BK397 := Aside0.mk (blk_below (g := gb397) (o := .cells #[.int .i64 x398000_18, .int .i64 65535] 33 (0, 0)) (zK BK397) hb); replace HB := Aside0.mk (below_step (zB HB) hb); (try clear hb); have hnb79 := NB397_393.out; have hnc79 := NB393_397.out; obtain ⟨hcz80_0, hcz80_1⟩ := zc2 BK397; obtain ⟨hfz80_0, hfz80_1⟩ := zf2 BK397; obtain ⟨hcz81_0, hcz81_1⟩ := zc2 BK393; obtain ⟨hfz81_0, hfz81_1⟩ := zf2 BK393))
                     refine bodyPost_ret (results_ct rfl _ _ gb393 33 #[.int .i64 0, .int .i64 0] (0, 0) _ rfl (by refine zL ?_; refine blk_put (cs := #[.int .i64 0, .int .i64 x394001_18]) ?_ 1 _ rfl; refine zL ?_; refine blk_put (cs := #[.int .i64 x394000_18, .int .i64 x394001_18]) ?_ 0 _ rfl; refine zL ?_; refine blk_far ?_ NB393_397.out _; refine zL ?_; exact BK393.out) Tryd.underlying33 rfl (by kernel_rfl)) rfl ?_
                     exact ⟨by first | rfl | (simp [errW_none, errW_some] <;> rfl) | (simp [*, errW_none, errW_some] <;> rfl), by repeat (first | (with_reducible first | exact HB.out | apply below_alloc | apply pw_below_drewN | apply below_drew1 | refine below_set ?_ GE393.out | refine below_set ?_ GE397.out) | exact HB.out)⟩
                   · rw [if_neg c76] at H
                     have c76b0 : decide (65535 < t404) = false := decide_eq_false c76
                     clear c76
                     by_cases c82 : x398000_18 > t404
                     · rw [if_pos c82] at H
                       have c82b0 : decide (t404 < x398000_18) = true := decide_eq_true c82
                       clear c82
                       simp only [Option.some.injEq, Prod.mk.injEq] at H
                       obtain ⟨rfl, rfl, rfl⟩ := H
                       obtain ⟨Ao83, co83, eo83⟩ := Kd.R_slice HO_4.out
                       subst eo83
                       have p402 : 0 ≤ (1 : Int) := (by omega)
                       have q402 : 1 < (t394.length : Int) := za
                       obtain ⟨ad402, e402, hx402_0⟩ := Kd.at_string (Kd.R_reads' HO_4.out).2.2 1 p402 q402
                       cases e402
                       (try simp only [show (1 : Int).toNat = 1 from rfl, Nat.reduceMul, Nat.reduceEqDiff, Go.Addr.add, ↓reduceIte] at hx402_0)
                       have qi402 : (1 < t394.length) = True := eq_true (by omega)
                       (try rw [show ((1 : Int)).toNat = 1 from rfl] at hx402_0)
                       replace p402 := eq_true p402
                       replace q402 := eq_true q402
                       have p403 : 0 ≤ (1 : Int) := (by omega)
                       have q403 : 1 < (t394.length : Int) := za
                       obtain ⟨ad403, e403, hx403_0⟩ := Kd.at_string (Kd.R_reads' HO_4.out).2.2 1 p403 q403
                       obtain rfl : ad402 = ad403 := (by injection e403)
                       (try simp only [show (1 : Int).toNat = 1 from rfl, Nat.reduceMul, Nat.reduceEqDiff, Go.Addr.add, ↓reduceIte] at hx403_0)
                       have qi403 : (1 < t394.length) = True := eq_true (by omega)
                       (try rw [show ((1 : Int)).toNat = 1 from rfl] at hx403_0)
                       replace p403 := eq_true p403
                       replace q403 := eq_true q403
                       go_wp2_with (first | ((with_reducible refine gate_callee (f := 47) rfl ?_); refine goesL_ (some 56) rfl rfl Tryd.func47 (by kernel_rfl) rfl #[.string (rdOf ByteArray.empty t394 1)] rfl (by (try simp only [List.map_toArray, List.map_cons, List.map_nil]); first | done | rfl | (simp only [List.length_drop, List.length_take]; rfl)) ?_; (with_reducible refine (intrusionref08_number.calls kj18 (rdOf ByteArray.empty t394 1) t404 true _ A68.out).mono ?_); rintro e w84 ⟨rfl, hb⟩; refine ⟨_, rfl, ?_⟩; replace HO_4 := Aside0.mk (Kd.R_below (zR HO_4) hb); replace BK393 := Aside0.mk (blk_below (g := gb393) (o := .cells #[.int .i64 x394000_18, .int .i64 x394001_18] 33 (0, 0)) (zK BK393) hb); replace BK397 := Aside0.mk (blk_below (g := gb397) (o := .cells #[.int .i64 x398000_18, .int .i64 65535] 33 (0, 0)) (zK BK397) hb); replace HB := Aside0.mk (below_step (zB HB) hb); (try clear hb); have hnb85 := NB397_393.out; have hnc85 := NB393_397.out; obtain ⟨hcz86_0, hcz86_1⟩ := zc2 BK397; obtain ⟨hfz86_0, hfz86_1⟩ := zf2 BK397; obtain ⟨hcz87_0, hcz87_1⟩ := zc2 BK393; obtain ⟨hfz87_0, hfz87_1⟩ := zf2 BK393))
                       refine bodyPost_ret (results_ct rfl _ _ gb393 33 #[.int .i64 0, .int .i64 0] (0, 0) _ rfl (by refine zL ?_; refine blk_put (cs := #[.int .i64 0, .int .i64 x394001_18]) ?_ 1 _ rfl; refine zL ?_; refine blk_put (cs := #[.int .i64 x394000_18, .int .i64 x394001_18]) ?_ 0 _ rfl; refine zL ?_; refine blk_far ?_ NB393_397.out _; refine zL ?_; exact BK393.out) Tryd.underlying33 rfl (by kernel_rfl)) rfl ?_
                       exact ⟨by first | rfl | (simp [errW_none, errW_some] <;> rfl) | (simp [*, errW_none, errW_some] <;> rfl), by repeat (first | (with_reducible first | exact HB.out | apply below_alloc | apply pw_below_drewN | apply below_drew1 | refine below_set ?_ GE393.out | refine below_set ?_ GE397.out) | exact HB.out)⟩
                     · rw [if_neg c82] at H
                       have c82b0 : decide (t404 < x398000_18) = false := decide_eq_false c82
                       clear c82
                       simp only [Option.some.injEq, Prod.mk.injEq] at H
                       obtain ⟨rfl, rfl, rfl⟩ := H
                       obtain ⟨Ao88, co88, eo88⟩ := Kd.R_slice HO_4.out
                       subst eo88
                       have p402 : 0 ≤ (1 : Int) := (by omega)
                       have q402 : 1 < (t394.length : Int) := za
                       obtain ⟨ad402, e402, hx402_0⟩ := Kd.at_string (Kd.R_reads' HO_4.out).2.2 1 p402 q402
                       cases e402
                       (try simp only [show (1 : Int).toNat = 1 from rfl, Nat.reduceMul, Nat.reduceEqDiff, Go.Addr.add, ↓reduceIte] at hx402_0)
                       have qi402 : (1 < t394.length) = True := eq_true (by omega)
                       (try rw [show ((1 : Int)).toNat = 1 from rfl] at hx402_0)
                       replace p402 := eq_true p402
                       replace q402 := eq_true q402
                       have p403 : 0 ≤ (1 : Int) := (by omega)
                       have q403 : 1 < (t394.length : Int) := za
                       obtain ⟨ad403, e403, hx403_0⟩ := Kd.at_string (Kd.R_reads' HO_4.out).2.2 1 p403 q403
                       obtain rfl : ad402 = ad403 := (by injection e403)
                       (try simp only [show (1 : Int).toNat = 1 from rfl, Nat.reduceMul, Nat.reduceEqDiff, Go.Addr.add, ↓reduceIte] at hx403_0)
                       have qi403 : (1 < t394.length) = True := eq_true (by omega)
                       (try rw [show ((1 : Int)).toNat = 1 from rfl] at hx403_0)
                       replace p403 := eq_true p403
                       replace q403 := eq_true q403
                       go_wp2_with (first | ((with_reducible refine gate_callee (f := 47) rfl ?_); refine goesL_ (some 56) rfl rfl Tryd.func47 (by kernel_rfl) rfl #[.string (rdOf ByteArray.empty t394 1)] rfl (by (try simp only [List.map_toArray, List.map_cons, List.map_nil]); first | done | rfl | (simp only [List.length_drop, List.length_take]; rfl)) ?_; (with_reducible refine (intrusionref08_number.calls kj18 (rdOf ByteArray.empty t394 1) t404 true _ A68.out).mono ?_); rintro e w89 ⟨rfl, hb⟩; refine ⟨_, rfl, ?_⟩; replace HO_4 := Aside0.mk (Kd.R_below (zR HO_4) hb); replace BK393 := Aside0.mk (blk_below (g := gb393) (o := .cells #[.int .i64 x394000_18, .int .i64 x394001_18] 33 (0, 0)) (zK BK393) hb); replace BK397 := Aside0.mk (blk_below (g := gb397) (o := .cells #[.int .i64 x398000_18, .int .i64 65535] 33 (0, 0)) (zK BK397) hb); replace HB := Aside0.mk (below_step (zB HB) hb); (try clear hb); have hnb90 := NB397_393.out; have hnc90 := NB393_397.out; obtain ⟨hcz91_0, hcz91_1⟩ := zc2 BK397; obtain ⟨hfz91_0, hfz91_1⟩ := zf2 BK397; obtain ⟨hcz92_0, hcz92_1⟩ := zc2 BK393; obtain ⟨hfz92_0, hfz92_1⟩ := zf2 BK393))
                       refine bodyPost_ret (results_ct rfl _ _ gb393 33 #[.int .i64 x398000_18, .int .i64 t404] (0, 0) _ rfl (by refine zL ?_; refine blk_put (cs := #[.int .i64 x398000_18, .int .i64 x394001_18]) ?_ 1 _ rfl; refine zL ?_; refine blk_put (cs := #[.int .i64 x394000_18, .int .i64 x394001_18]) ?_ 0 _ rfl; refine zL ?_; refine blk_far ?_ NB393_397.out _; refine zL ?_; exact BK393.out) Tryd.underlying33 rfl (by kernel_rfl)) rfl ?_
                       exact ⟨by first | rfl | (simp [errW_none, errW_some] <;> rfl) | (simp [*, errW_none, errW_some] <;> rfl), by repeat (first | (with_reducible first | exact HB.out | apply below_alloc | apply pw_below_drewN | apply below_drew1 | refine below_set ?_ GE393.out | refine below_set ?_ GE397.out) | exact HB.out)⟩
               · replace c69 := Bool.eq_false_iff.mpr c69
                 subst c69
                 rw [if_neg zF] at H
                 simp only [Option.some.injEq, Prod.mk.injEq] at H
                 obtain ⟨rfl, rfl, rfl⟩ := H
                 obtain ⟨Ao93, co93, eo93⟩ := Kd.R_slice HO_4.out
                 subst eo93
                 have p402 : 0 ≤ (1 : Int) := (by omega)
                 have q402 : 1 < (t394.length : Int) := za
                 obtain ⟨ad402, e402, hx402_0⟩ := Kd.at_string (Kd.R_reads' HO_4.out).2.2 1 p402 q402
                 cases e402
                 (try simp only [show (1 : Int).toNat = 1 from rfl, Nat.reduceMul, Nat.reduceEqDiff, Go.Addr.add, ↓reduceIte] at hx402_0)
                 have qi402 : (1 < t394.length) = True := eq_true (by omega)
                 (try rw [show ((1 : Int)).toNat = 1 from rfl] at hx402_0)
                 replace p402 := eq_true p402
                 replace q402 := eq_true q402
                 have p403 : 0 ≤ (1 : Int) := (by omega)
                 have q403 : 1 < (t394.length : Int) := za
                 obtain ⟨ad403, e403, hx403_0⟩ := Kd.at_string (Kd.R_reads' HO_4.out).2.2 1 p403 q403
                 obtain rfl : ad402 = ad403 := (by injection e403)
                 (try simp only [show (1 : Int).toNat = 1 from rfl, Nat.reduceMul, Nat.reduceEqDiff, Go.Addr.add, ↓reduceIte] at hx403_0)
                 have qi403 : (1 < t394.length) = True := eq_true (by omega)
                 (try rw [show ((1 : Int)).toNat = 1 from rfl] at hx403_0)
                 replace p403 := eq_true p403
                 replace q403 := eq_true q403
                 go_wp2_with (first | ((with_reducible refine gate_callee (f := 47) rfl ?_); refine goesL_ (some 56) rfl rfl Tryd.func47 (by kernel_rfl) rfl #[.string (rdOf ByteArray.empty t394 1)] rfl (by (try simp only [List.map_toArray, List.map_cons, List.map_nil]); first | done | rfl | (simp only [List.length_drop, List.length_take]; rfl)) ?_; (with_reducible refine (intrusionref08_number.calls kj18 (rdOf ByteArray.empty t394 1) t404 false _ A68.out).mono ?_); rintro e w94 ⟨rfl, hb⟩; refine ⟨_, rfl, ?_⟩; replace HO_4 := Aside0.mk (Kd.R_below (zR HO_4) hb); replace BK393 := Aside0.mk (blk_below (g := gb393) (o := .cells #[.int .i64 x394000_18, .int .i64 x394001_18] 33 (0, 0)) (zK BK393) hb); replace BK397 := Aside0.mk (blk_below (g := gb397) (o := .cells #[.int .i64 x398000_18, .int .i64 65535] 33 (0, 0)) (zK BK397) hb); replace HB := Aside0.mk (below_step (zB HB) hb); (try clear hb); have hnb95 := NB393_397.out; have hnc95 := NB397_393.out; obtain ⟨hcz96_0, hcz96_1⟩ := zc2 BK393; obtain ⟨hfz96_0, hfz96_1⟩ := zf2 BK393))
                 refine bodyPost_ret (results_ct rfl _ _ gb393 33 #[.int .i64 0, .int .i64 0] (0, 0) _ rfl (by refine zL ?_; refine blk_put (cs := #[.int .i64 0, .int .i64 x394001_18]) ?_ 1 _ rfl; refine zL ?_; refine blk_put (cs := #[.int .i64 x394000_18, .int .i64 x394001_18]) ?_ 0 _ rfl; refine zL ?_; exact BK393.out) Tryd.underlying33 rfl (by kernel_rfl)) rfl ?_
                 exact ⟨by first | rfl | (simp [errW_none, errW_some] <;> rfl) | (simp [*, errW_none, errW_some] <;> rfl), by repeat (first | (with_reducible first | exact HB.out | apply below_alloc | apply pw_below_drewN | apply below_drew1 | refine below_set ?_ GE393.out | refine below_set ?_ GE397.out) | exact HB.out)⟩
           · rw [if_neg c47] at H
             exact absurd H (by simp)
end Go.Proofs.YtbimdjciacnioaaDoor.Q
end

section
namespace Go.Proofs.YtbimdjciacnioaaDoor.Q
open Go.RowKit Go.Proofs.YtbimdjciacnioaaDoorW.PrintWords Go.Proofs.YtbimdjciacnioaaDoorW.PrintLast Go.Proofs.YtbimdjciacnioaaDoorW.PrintMore
attribute [local go_sem] max2_int min2_int max_two min_two max_three min_three max_four min_four
set_option linter.unusedVariables false
set_option linter.unusedSimpArgs false
mutual
def intrusionref08_Parse.l0 : Nat → List ByteArray → List (S33) → List (S33) → Int → Option ((List (S33)) × Int)
  | 0, _, _, _, _ => none
  | k + 1, x4, x5, x6, x7 => if x7 < (x4.length : Int) then (if 0 ≤ x7 then (if (rdOf ByteArray.empty x4 x7).toList = ([] : List UInt8) then (intrusionref08_Parse.j1 k x4 x5 x6 x7 (rdOf ByteArray.empty x4 x7) false) else (if 0 < ((rdOf ByteArray.empty x4 x7).size : Int) then (intrusionref08_Parse.j1 k x4 x5 x6 x7 (rdOf ByteArray.empty x4 x7) ((bt (rdOf ByteArray.empty x4 x7) 0) == 33)) else (none))) else (none)) else ((intrusionref08_Eval.f k x5 x6).bind fun t418 => (some (t418, 0)))
def intrusionref08_Parse.j1 : Nat → List ByteArray → List (S33) → List (S33) → Int → ByteArray → Bool → Option ((List (S33)) × Int)
  | 0, _, _, _, _, _, _ => none
  | k + 1, x4, x5, x6, x7, x8, x9 => if x9 = true then (if 1 ≤ (x8.size : Int) then (intrusionref08_Parse.j2 k x4 x5 x6 x7 (x8.extract 1 x8.size) x9) else (none)) else (intrusionref08_Parse.j2 k x4 x5 x6 x7 x8 x9)
def intrusionref08_Parse.j2 : Nat → List ByteArray → List (S33) → List (S33) → Int → ByteArray → Bool → Option ((List (S33)) × Int)
  | 0, _, _, _, _, _, _ => none
  | k + 1, x4, x5, x6, x7, x8, x9 => (intrusionref08_item.f k x8).bind fun bt422 => (if bt422.2.2 = 0 then (if x9 = true then (if x6.length < 8796093022208 then (intrusionref08_Parse.l0 k x4 x5 (x6 ++ [(⟨bt422.1, bt422.2.1⟩ : S33)]) (wrap64 (x7 + 1))) else (none)) else (if x5.length < 8796093022208 then (intrusionref08_Parse.l0 k x4 (x5 ++ [(⟨bt422.1, bt422.2.1⟩ : S33)]) x6 (wrap64 (x7 + 1))) else (none))) else (some (([] : List (S33)), bt422.2.2)))
end
def intrusionref08_Parse.f (k : Nat) (a0 : ByteArray) : Option ((List (S33)) × Int) := if (a0.size : Int) > 1024 then (some (([] : List (S33)), 3)) else (if a0.toList = ([97, 110, 121] : List UInt8) then ((intrusionref08_All.f).bind fun t406 => (some (t406, 0))) else ((intrusionref08_split.f k a0 44).bind fun t409 => (if (t409.length : Int) > 64 then (some (([] : List (S33)), 3)) else (intrusionref08_Parse.l0 k t409 (([] : List (S33))) (([] : List (S33))) 0))))
theorem intrusionref08_Parse.mono_l : ∀ k, (∀ y0 y1 y2 y3, LeO (intrusionref08_Parse.l0 k y0 y1 y2 y3) (intrusionref08_Parse.l0 (k + 1) y0 y1 y2 y3)) ∧ (∀ y0 y1 y2 y3 y4 y5, LeO (intrusionref08_Parse.j1 k y0 y1 y2 y3 y4 y5) (intrusionref08_Parse.j1 (k + 1) y0 y1 y2 y3 y4 y5)) ∧ (∀ y0 y1 y2 y3 y4 y5, LeO (intrusionref08_Parse.j2 k y0 y1 y2 y3 y4 y5) (intrusionref08_Parse.j2 (k + 1) y0 y1 y2 y3 y4 y5))
  | 0 => ⟨fun _ _ _ _ r h => by simp [intrusionref08_Parse.l0] at h, fun _ _ _ _ _ _ r h => by simp [intrusionref08_Parse.j1] at h, fun _ _ _ _ _ _ r h => by simp [intrusionref08_Parse.j2] at h⟩
  | k + 1 => by
    obtain ⟨ih0, ih1, ih2⟩ := intrusionref08_Parse.mono_l k
    refine ⟨?_, ?_, ?_⟩
    · intro y0 y1 y2 y3
      unfold intrusionref08_Parse.l0
      repeat' first
      | (with_reducible exact ih0 _ _ _ _)
      | (with_reducible exact ih1 _ _ _ _ _ _)
      | (with_reducible exact ih2 _ _ _ _ _ _)
      | (with_reducible exact intrusionref08_Eval.mono _ _ _)
      | (with_reducible exact intrusionref08_item.mono _ _)
      | (with_reducible exact intrusionref08_split.mono _ _ _)
      | (with_reducible exact LeO.refl _)
      | (with_reducible exact LeO.none _)
      | (with_reducible refine LeO.ite ?_ ?_)
      | (with_reducible refine LeO.bind ?_ (fun _ => ?_))
      | exact ih0 _ _ _ _
      | exact ih1 _ _ _ _ _ _
      | exact ih2 _ _ _ _ _ _
      | exact intrusionref08_Eval.mono _ _ _
      | exact intrusionref08_item.mono _ _
      | exact intrusionref08_split.mono _ _ _
      | exact LeO.none _
      | refine LeO.ite ?_ ?_
      | refine LeO.bind ?_ (fun _ => ?_)
    · intro y0 y1 y2 y3 y4 y5
      unfold intrusionref08_Parse.j1
      repeat' first
      | (with_reducible exact ih0 _ _ _ _)
      | (with_reducible exact ih1 _ _ _ _ _ _)
      | (with_reducible exact ih2 _ _ _ _ _ _)
      | (with_reducible exact intrusionref08_Eval.mono _ _ _)
      | (with_reducible exact intrusionref08_item.mono _ _)
      | (with_reducible exact intrusionref08_split.mono _ _ _)
      | (with_reducible exact LeO.refl _)
      | (with_reducible exact LeO.none _)
      | (with_reducible refine LeO.ite ?_ ?_)
      | (with_reducible refine LeO.bind ?_ (fun _ => ?_))
      | exact ih0 _ _ _ _
      | exact ih1 _ _ _ _ _ _
      | exact ih2 _ _ _ _ _ _
      | exact intrusionref08_Eval.mono _ _ _
      | exact intrusionref08_item.mono _ _
      | exact intrusionref08_split.mono _ _ _
      | exact LeO.none _
      | refine LeO.ite ?_ ?_
      | refine LeO.bind ?_ (fun _ => ?_)
    · intro y0 y1 y2 y3 y4 y5
      unfold intrusionref08_Parse.j2
      repeat' first
      | (with_reducible exact ih0 _ _ _ _)
      | (with_reducible exact ih1 _ _ _ _ _ _)
      | (with_reducible exact ih2 _ _ _ _ _ _)
      | (with_reducible exact intrusionref08_Eval.mono _ _ _)
      | (with_reducible exact intrusionref08_item.mono _ _)
      | (with_reducible exact intrusionref08_split.mono _ _ _)
      | (with_reducible exact LeO.refl _)
      | (with_reducible exact LeO.none _)
      | (with_reducible refine LeO.ite ?_ ?_)
      | (with_reducible refine LeO.bind ?_ (fun _ => ?_))
      | exact ih0 _ _ _ _
      | exact ih1 _ _ _ _ _ _
      | exact ih2 _ _ _ _ _ _
      | exact intrusionref08_Eval.mono _ _ _
      | exact intrusionref08_item.mono _ _
      | exact intrusionref08_split.mono _ _ _
      | exact LeO.none _
      | refine LeO.ite ?_ ?_
      | refine LeO.bind ?_ (fun _ => ?_)
theorem intrusionref08_Parse.mono : ∀ a0 k, LeO (intrusionref08_Parse.f k a0) (intrusionref08_Parse.f (k + 1) a0) := by
  intro a0 k
  obtain ⟨ih0, ih1, ih2⟩ := intrusionref08_Parse.mono_l k
  unfold intrusionref08_Parse.f
  repeat' first
      | (with_reducible exact ih0 _ _ _ _)
      | (with_reducible exact ih1 _ _ _ _ _ _)
      | (with_reducible exact ih2 _ _ _ _ _ _)
      | (with_reducible exact intrusionref08_Eval.mono _ _ _)
      | (with_reducible exact intrusionref08_item.mono _ _)
      | (with_reducible exact intrusionref08_split.mono _ _ _)
      | (with_reducible exact LeO.refl _)
      | (with_reducible exact LeO.none _)
      | (with_reducible refine LeO.ite ?_ ?_)
      | (with_reducible refine LeO.bind ?_ (fun _ => ?_))
      | exact ih0 _ _ _ _
      | exact ih1 _ _ _ _ _ _
      | exact ih2 _ _ _ _ _ _
      | exact intrusionref08_Eval.mono _ _ _
      | exact intrusionref08_item.mono _ _
      | exact intrusionref08_split.mono _ _ _
      | exact LeO.none _
      | refine LeO.ite ?_ ?_
      | refine LeO.bind ?_ (fun _ => ?_)
set_option maxHeartbeats 8000000 in
set_option maxRecDepth 100000 in
theorem intrusionref08_Parse.calls (k : Nat) (a0 : ByteArray) (r1 : List (S33)) (r2 : Int) (w : World) (h : intrusionref08_Parse.f k a0 = some (r1, r2)) :
 Calls Tryd.prog 11 #[.string a0] w fun e w' => ∃ v0_ : Value, e = .returned (.tuple #[v0_, .int .i64 r2]) ∧ Kd.R k33 33 w' w.heap.size (fun _ => True) v0_ r1 ∧ Below w.heap.size w w' := by
 have hu33 := Tryd.underlying33
 have HB := Aside0.mk (Below.refl w.heap.size w)
 unfold intrusionref08_Parse.f at h; have H := h
 clear h
 by_cases c2 : (a0.size : Int) > 1024
 · rw [if_pos c2] at H
   have c2b0 : decide (1024 < (a0.size : Int)) = true := decide_eq_true c2
   have c2b1 : decide (1024 < a0.size) = true := decide_eq_true (by omega)
   clear c2
   simp only [Option.some.injEq, Prod.mk.injEq] at H
   obtain ⟨rfl, rfl⟩ := H
   go_enter Tryd.func11, Tryd.ntmps11
   go_wp2
   go_ret2
   exact ⟨_, by first | rfl | (simp [errW_none, errW_some] <;> rfl) | (simp [*, errW_none, errW_some] <;> rfl), by first | exact Kd.R_nil _ _ _ _ _ | exact Kd.N_nil _ _ _ _ _ | exact Kd.V_nil _ _ _ _ _ | exact Kd.Q_nil _ _ _ _ _ | exact Kd.S_nil _ _ _ _ _, by repeat (first | (with_reducible first | exact HB.out | apply below_alloc | apply pw_below_drewN | apply below_drew1) | exact HB.out)⟩
 · rw [if_neg c2] at H
   have c2b0 : decide (1024 < (a0.size : Int)) = false := decide_eq_false c2
   have c2b1 : decide (1024 < a0.size) = false := decide_eq_false (by omega)
   clear c2
   by_cases c3 : a0.toList = ([97, 110, 121] : List UInt8)
   · rw [if_pos c3] at H
     have c3b0 : (a0.toList == ([97, 110, 121] : List UInt8)) = true := beq_iff_eq.mpr c3
     have c3b1 : (a0.toList != ([97, 110, 121] : List UInt8)) = false := bne_eq_false_iff_eq.mpr c3
     clear c3
     replace H := Option.bind_eq_some_iff.mp H
     obtain ⟨t406, A40, H⟩ := H
     replace H : (some (t406, 0)) = some (r1, r2) := H
     have A4 := Aside0.mk A40
     clear A40
     simp only [Option.some.injEq, Prod.mk.injEq] at H
     obtain ⟨rfl, rfl⟩ := H
     go_enter Tryd.func11, Tryd.ntmps11
     go_wp2_with (first | ((with_reducible refine gate_callee (f := 28) rfl ?_); refine goesL_ (some 17) rfl rfl Tryd.func28 (by kernel_rfl) rfl #[] rfl (by (try simp only [List.map_toArray, List.map_cons, List.map_nil]); first | done | rfl | (simp only [List.length_drop, List.length_take]; rfl)) ?_; (with_reducible refine (intrusionref08_All.calls  t406 _ A4.out).mono ?_); rintro e w5 ⟨v407, rfl, ho0, hb⟩; refine ⟨_, rfl, ?_⟩; have HO408 := Aside0.mk (Kd.R_lower ho0 (below_size (zB HB))); replace HB := Aside0.mk (below_step (zB HB) hb); (try clear hb); (try clear ho0)))
     go_ret2
     exact ⟨_, by first | rfl | (simp [errW_none, errW_some] <;> rfl) | (simp [*, errW_none, errW_some] <;> rfl), by (with_reducible repeat (first | apply Kd.R_alloc | apply Kd.R_drewN | apply Kd.R_drew)); exact HO408.out, by repeat (first | (with_reducible first | exact HB.out | apply below_alloc | apply pw_below_drewN | apply below_drew1) | exact HB.out)⟩
   · rw [if_neg c3] at H
     have c3b0 : (a0.toList == ([97, 110, 121] : List UInt8)) = false := beq_eq_false_iff_ne.mpr c3
     have c3b1 : (a0.toList != ([97, 110, 121] : List UInt8)) = true := bne_iff_ne.mpr c3
     replace H := Option.bind_eq_some_iff.mp H
     obtain ⟨t409, A60, H⟩ := H
     replace H : (if (t409.length : Int) > 64 then (some (([] : List (S33)), 3)) else (intrusionref08_Parse.l0 k t409 (([] : List (S33))) (([] : List (S33))) 0)) = some (r1, r2) := H
     have A6 := Aside0.mk A60
     clear A60
     by_cases c7 : (t409.length : Int) > 64
     · rw [if_pos c7] at H
       have c7b0 : decide (64 < (t409.length : Int)) = true := decide_eq_true c7
       have c7b1 : decide (64 < t409.length) = true := decide_eq_true (by omega)
       clear c7
       simp only [Option.some.injEq, Prod.mk.injEq] at H
       obtain ⟨rfl, rfl⟩ := H
       go_enter Tryd.func11, Tryd.ntmps11
       go_wp2_with (first | ((with_reducible refine gate_callee (f := 29) rfl ?_); refine goesL_ (some 19) rfl rfl Tryd.func29 (by kernel_rfl) rfl #[.string a0, .int .u8 44] rfl (by (try simp only [List.map_toArray, List.map_cons, List.map_nil]); first | done | rfl | (simp only [List.length_drop, List.length_take]; rfl)) ?_; (with_reducible refine (intrusionref08_split.calls k a0 44 t409 _ A6.out).mono ?_); rintro e w8 ⟨v410, rfl, ho0, hb⟩; refine ⟨_, rfl, ?_⟩; have HO411 := Aside0.mk (Kd.R_lower ho0 (below_size (zB HB))); replace HB := Aside0.mk (below_step (zB HB) hb); (try clear hb); (try clear ho0); obtain ⟨Ao9, co9, eo9⟩ := Kd.R_slice HO411.out; subst eo9))
       go_ret2
       exact ⟨_, by first | rfl | (simp [errW_none, errW_some] <;> rfl) | (simp [*, errW_none, errW_some] <;> rfl), by first | exact Kd.R_nil _ _ _ _ _ | exact Kd.N_nil _ _ _ _ _ | exact Kd.V_nil _ _ _ _ _ | exact Kd.Q_nil _ _ _ _ _ | exact Kd.S_nil _ _ _ _ _, by repeat (first | (with_reducible first | exact HB.out | apply below_alloc | apply pw_below_drewN | apply below_drew1) | exact HB.out)⟩
     · rw [if_neg c7] at H
       have c7b0 : decide (64 < (t409.length : Int)) = false := decide_eq_false c7
       have c7b1 : decide (64 < t409.length) = false := decide_eq_false (by omega)
       clear c7
       obtain ⟨y412, hy412⟩ : ∃ y_ : List (S33), y_ = (([] : List (S33))) := ⟨_, rfl⟩
       rw (occs := .pos [1]) [← hy412] at H; try dsimp only [Option.bind_some] at H
       have Ny412 := Aside0.mk hy412
       clear hy412
       obtain ⟨y415, hy415⟩ : ∃ y_ : List (S33), y_ = (([] : List (S33))) := ⟨_, rfl⟩
       rw [← hy415] at H; try dsimp only [Option.bind_some] at H
       have Ny415 := Aside0.mk hy415
       clear hy415
       have H' := Aside0.mk H
       clear H
       go_enter Tryd.func11, Tryd.ntmps11
       go_wp2_with (first | ((with_reducible refine gate_callee (f := 29) rfl ?_); refine goesL_ (some 19) rfl rfl Tryd.func29 (by kernel_rfl) rfl #[.string a0, .int .u8 44] rfl (by (try simp only [List.map_toArray, List.map_cons, List.map_nil]); first | done | rfl | (simp only [List.length_drop, List.length_take]; rfl)) ?_; (with_reducible refine (intrusionref08_split.calls k a0 44 t409 _ A6.out).mono ?_); rintro e w10 ⟨v410, rfl, ho0, hb⟩; refine ⟨_, rfl, ?_⟩; have HO411 := Aside0.mk (Kd.R_lower ho0 (below_size (zB HB))); replace HB := Aside0.mk (below_step (zB HB) hb); (try clear hb); (try clear ho0); obtain ⟨Ao11, co11, eo11⟩ := Kd.R_slice HO411.out; subst eo11) | ((with_reducible refine gate_dst (N := 23) rfl ?_); refine Kd.R_lit k33 _ 33 ?hg (N := 23) ?hd (xs := ([] : List (S33))) (inner := []) (ok := fun _ => True) (okp := fun _ => True) ?hr ?hp (fun _ hk => hk) trivial (Below.refl _ _) (Nat.le_refl _) (by simp) ?_; (case hd => rfl); (case hg => rfl); (case hr => first | (go_simp; done) | (go_simp; rfl)); (case hp => exact (Reps.none _ _)); intro v413 w12 ho13 hb hg_ hnew_; clear hg_ hnew_; (first | rw [← Ny412.out] at ho13 | (simp only [Int.reduceToNat] at ho13; rw [← Ny412.out] at ho13)); replace HO411 := Aside0.mk (Kd.R_below (zR HO411) hb); have HO414 := Aside0.mk (Kd.R_lower ho13 (below_size (zB HB))); replace HB := Aside0.mk (below_step (zB HB) hb); clear hb ho13) | ((with_reducible refine gate_dst (N := 24) rfl ?_); refine Kd.R_lit k33 _ 33 ?hg (N := 24) ?hd (xs := ([] : List (S33))) (inner := []) (ok := fun _ => True) (okp := fun _ => True) ?hr ?hp (fun _ hk => hk) trivial (Below.refl _ _) (Nat.le_refl _) (by simp) ?_; (case hd => rfl); (case hg => rfl); (case hr => first | (go_simp; done) | (go_simp; rfl)); (case hp => exact (Reps.none _ _)); intro v416 w14 ho15 hb hg_ hnew_; clear hg_ hnew_; (first | rw [← Ny415.out] at ho15 | (simp only [Int.reduceToNat] at ho15; rw [← Ny415.out] at ho15)); replace HO411 := Aside0.mk (Kd.R_below (zR HO411) hb); have HO417 := Aside0.mk (Kd.R_lower (Kd.R_new' ho15 (Kd.R_lt (zR HO414))) (below_size (zB HB))); replace HO414 := Aside0.mk (Kd.R_elder' (zR HO414) (Kd.R_base ho15) hb); replace HB := Aside0.mk (below_step (zB HB) hb); clear hb ho15))
       go_loopg [5, 6, 7] k (fun kq v5 v6 v7 w' => ∃ (x5_1 : List (S33)) (x6_1 : List (S33)) (x7_1 : Int), v7 = .int .i64 x7_1 ∧ Aside0 (intrusionref08_Parse.l0 kq t409 x5_1 x6_1 x7_1 = some (r1, r2)) ∧ Aside0 (kq ≤ k) ∧ Aside0 (Kd.R Kd.string 9 w' w.heap.size (fun _ => True) (.slice Ao11 t409.length co11) t409) ∧ Aside0 (Kd.R k33 33 w' w.heap.size (fun k_ => some k_ ≠ (v6 : Value).ownBlock) v5 x5_1) ∧ Aside0 (Kd.R k33 33 w' w.heap.size (fun k_ => some k_ ≠ (v5 : Value).ownBlock) v6 x6_1) ∧ Aside0 (Below w.heap.size w w'))
       case atStart => exact ⟨(y412), (y415), (0), (by first | rfl | (simp; done) | (simp [*]; done)), H', ⟨Nat.le_refl _⟩, ⟨zR HO411⟩, ⟨by (with_reducible repeat (first | apply Kd.R_alloc | apply Kd.R_drewN | apply Kd.R_drew)); exact Kd.R_mono HO414.out (fun _ hk => hk.2)⟩, ⟨by (with_reducible repeat (first | apply Kd.R_alloc | apply Kd.R_drewN | apply Kd.R_drew)); exact Kd.R_mono HO417.out (fun _ hk => hk.2)⟩, ⟨zB HB⟩⟩
       case round =>
        clear H'
        try clear c1
        try clear c2
        try clear c2b0
        try clear c2b1
        try clear p2
        try clear c3
        try clear c3b0
        try clear c3b1
        try clear c7
        try clear c7b0
        try clear c7b1
        try clear c11
        obtain ⟨x5_1, x6_1, x7_1, rfl, HA, HK1, HO_4, HO_5, HO_6, HB⟩ := hrel
        cases gk with
        | zero => exact absurd HA.out (by simp [intrusionref08_Parse.l0])
        | succ k1 =>
         have H := HA.out
         clear HA
         simp only [intrusionref08_Parse.l0] at H
         by_cases c16 : x7_1 < (t409.length : Int)
         · rw [if_pos c16] at H
           have c16b0 : decide (x7_1 < (t409.length : Int)) = true := decide_eq_true c16
           clear c16
           by_cases c17 : 0 ≤ x7_1
           · rw [if_pos c17] at H
             have c17b0 : decide (0 ≤ x7_1) = true := decide_eq_true c17
             clear c17
             have HC18 := Aside0.mk H
             clear H
             have p421 : 0 ≤ (x7_1 : Int) := za
             have q421 : x7_1 < (t409.length : Int) := za
             obtain ⟨ad421, e421, hx421_0⟩ := Kd.at_string (Kd.R_reads' HO_4.out).2.2 x7_1 p421 q421
             cases e421
             replace p421 := eq_true p421
             replace q421 := eq_true q421
             go_upto_region 13 with (fail)
             go_cut [9] (fun v9 wc => ∃ (kq : Nat) (x9_17 : Bool), v9 = .bool x9_17 ∧ Aside0 (intrusionref08_Parse.j1 kq t409 x5_1 x6_1 x7_1 (rdOf ByteArray.empty t409 x7_1) x9_17 = some (r1, r2)) ∧ Aside0 (kq ≤ k1) ∧ Aside0 (Kd.R Kd.string 9 wc w.heap.size (fun _ => True) (.slice (some ad421) t409.length co11) t409) ∧ Aside0 (Kd.R k33 33 wc w.heap.size (fun k_ => some k_ ≠ (u6 : Value).ownBlock) u5 x5_1) ∧ Aside0 (Kd.R k33 33 wc w.heap.size (fun k_ => some k_ ≠ (u5 : Value).ownBlock) u6 x6_1) ∧ Aside0 (Below w.heap.size w wc))
             case first =>
              have H := HC18.out
              clear HC18
              by_cases c19 : (rdOf ByteArray.empty t409 x7_1).toList = ([] : List UInt8)
              · rw [if_pos c19] at H
                have c19b0 : ((rdOf ByteArray.empty t409 x7_1).toList == ([] : List UInt8)) = true := beq_iff_eq.mpr c19
                have c19b1 : ((rdOf ByteArray.empty t409 x7_1).toList != ([] : List UInt8)) = false := bne_eq_false_iff_eq.mpr c19
                clear c19
                (first | rw [c19b0] | (simp only [i64_w, i32_w]; rw [c19b0]) | skip)
                have H' := Aside0.mk H
                clear H
                go_wp2
                go_meet
                case rel => exact ⟨_, (false), (by first | rfl | (simp; done) | (simp [*]; done)), H', ⟨by have := HK1.out; first | omega | exact Nat.le_refl _⟩, ⟨zR HO_4⟩, ⟨zR HO_5⟩, ⟨zR HO_6⟩, ⟨zB HB⟩⟩
              · rw [if_neg c19] at H
                have c19b0 : ((rdOf ByteArray.empty t409 x7_1).toList == ([] : List UInt8)) = false := beq_eq_false_iff_ne.mpr c19
                have c19b1 : ((rdOf ByteArray.empty t409 x7_1).toList != ([] : List UInt8)) = true := bne_iff_ne.mpr c19
                (first | rw [c19b0] | (simp only [i64_w, i32_w]; rw [c19b0]) | skip)
                by_cases c20 : 0 < ((rdOf ByteArray.empty t409 x7_1).size : Int)
                · rw [if_pos c20] at H
                  have c20b0 : decide (0 < ((rdOf ByteArray.empty t409 x7_1).size : Int)) = true := decide_eq_true c20
                  have c20b1 : decide (0 < (rdOf ByteArray.empty t409 x7_1).size) = true := decide_eq_true (by omega)
                  clear c20
                  have H' := Aside0.mk H
                  clear H
                  have p21 : 0 ≤ (0 : Int) := (by omega)
                  have q21 : 0 < (rdOf ByteArray.empty t409 x7_1).size := (by have : (0 : Int) < ((rdOf ByteArray.empty t409 x7_1).size : Int) := za; omega)
                  have hx21 : ∀ h : 0 < (rdOf ByteArray.empty t409 x7_1).size, (((rdOf ByteArray.empty t409 x7_1)[0]'h).toNat : Int) = bt (rdOf ByteArray.empty t409 x7_1) 0 := bt_at (rdOf ByteArray.empty t409 x7_1) 0
                  clear p21
                  have qi21 : (0 < ((rdOf ByteArray.empty t409 x7_1).size : Int)) = True := eq_true (of_decide_eq_true (by first | (with_reducible assumption) | assumption))
                  replace q21 := eq_true q21
                  go_wp2
                  go_meet
                  case rel => exact ⟨_, (((bt (rdOf ByteArray.empty t409 x7_1) 0) == 33)), (by first | rfl | (simp; done) | (simp [*]; done)), H', ⟨by have := HK1.out; first | omega | exact Nat.le_refl _⟩, ⟨zR HO_4⟩, ⟨zR HO_5⟩, ⟨zR HO_6⟩, ⟨zB HB⟩⟩
                · rw [if_neg c20] at H
                  exact absurd H (by simp)
             case rest =>
              clear HC18
              try clear c1
              try clear c2
              try clear c2b0
              try clear c2b1
              try clear p2
              try clear q2
              try clear hx2
              try clear qi2
              try clear c3
              try clear c3b0
              try clear c3b1
              try clear p4
              try clear q4
              try clear hx4
              try clear c7
              try clear c7b0
              try clear c7b1
              try clear c11
              try clear c16
              try clear c16b0
              try clear c17
              try clear c17b0
              try clear c19
              try clear c19b0
              try clear c19b1
              try clear c20
              try clear c20b0
              try clear c20b1
              try clear p21
              try clear q21
              try clear hx21
              try clear qi21
              try clear hx421_0
              try clear p2
              try clear p21
              try clear p421
              try clear q21
              try clear q421
              obtain ⟨kq, x9_17, rfl, HA, HJ17, HO_4, HO_5, HO_6, HB⟩ := hcut
              cases kq with
              | zero => exact absurd HA.out (by simp [intrusionref08_Parse.j1])
              | succ kj17 =>
               have H := HA.out
               clear HA
               simp only [intrusionref08_Parse.j1] at H
               have HC22 := Aside0.mk H
               clear H
               go_upto_if 42 with (fail)
               go_cut [8] (fun v8 wc => ∃ (kq : Nat) (x8_21 : ByteArray), v8 = .string x8_21 ∧ Aside0 (intrusionref08_Parse.j2 kq t409 x5_1 x6_1 x7_1 x8_21 x9_17 = some (r1, r2)) ∧ Aside0 (kq ≤ kj17) ∧ Aside0 (Kd.R Kd.string 9 wc w.heap.size (fun _ => True) (.slice (some ad421) t409.length co11) t409) ∧ Aside0 (Kd.R k33 33 wc w.heap.size (fun k_ => some k_ ≠ (u6 : Value).ownBlock) u5 x5_1) ∧ Aside0 (Kd.R k33 33 wc w.heap.size (fun k_ => some k_ ≠ (u5 : Value).ownBlock) u6 x6_1) ∧ Aside0 (Below w.heap.size w wc))
               case first =>
                have H := HC22.out
                clear HC22
                by_cases c23 : x9_17 = true
                · subst c23
                  rw [if_pos rfl] at H
                  by_cases c24 : 1 ≤ ((rdOf ByteArray.empty t409 x7_1).size : Int)
                  · rw [if_pos c24] at H
                    have c24b0 := eq_true c24
                    have c24b1 : decide (1 ≤ ((rdOf ByteArray.empty t409 x7_1).size : Int)) = true := decide_eq_true c24
                    clear c24
                    have H' := Aside0.mk H
                    clear H
                    go_wp2
                    go_meet
                    case rel => exact ⟨_, ((rdOf ByteArray.empty t409 x7_1).extract 1 (rdOf ByteArray.empty t409 x7_1).size), (by first | rfl | (simp; done) | (simp [*]; done)), H', ⟨by have := HK1.out; have := HJ17.out; first | omega | exact Nat.le_refl _⟩, ⟨zR HO_4⟩, ⟨zR HO_5⟩, ⟨zR HO_6⟩, ⟨zB HB⟩⟩
                  · rw [if_neg c24] at H
                    exact absurd H (by simp)
                · replace c23 := Bool.eq_false_iff.mpr c23
                  subst c23
                  rw [if_neg zF] at H
                  have H' := Aside0.mk H
                  clear H
                  go_wp2
                  go_meet
                  case rel => exact ⟨_, ((rdOf ByteArray.empty t409 x7_1)), (by first | rfl | (simp; done) | (simp [*]; done)), H', ⟨by have := HK1.out; have := HJ17.out; first | omega | exact Nat.le_refl _⟩, ⟨zR HO_4⟩, ⟨zR HO_5⟩, ⟨zR HO_6⟩, ⟨zB HB⟩⟩
               case rest =>
                clear HC22
                try clear c1
                try clear c2
                try clear c2b0
                try clear c2b1
                try clear p2
                try clear q2
                try clear hx2
                try clear qi2
                try clear c3
                try clear c3b0
                try clear c3b1
                try clear p4
                try clear q4
                try clear hx4
                try clear c7
                try clear c7b0
                try clear c7b1
                try clear c11
                try clear c16
                try clear c16b0
                try clear c17
                try clear c17b0
                try clear c19
                try clear c19b0
                try clear c19b1
                try clear c20
                try clear c20b0
                try clear c20b1
                try clear p21
                try clear q21
                try clear hx21
                try clear qi21
                try clear c23
                try clear c24
                try clear c24b0
                try clear c24b1
                try clear hx421_0
                try clear p2
                try clear p21
                try clear p4
                try clear p421
                try clear q2
                try clear q21
                try clear q4
                try clear q421
                obtain ⟨kq, x8_21, rfl, HA, HJ21, HO_4, HO_5, HO_6, HB⟩ := hcut
                cases kq with
                | zero => exact absurd HA.out (by simp [intrusionref08_Parse.j2])
                | succ kj21 =>
                 have H := HA.out
                 clear HA
                 simp only [intrusionref08_Parse.j2] at H
                 replace H := Option.bind_eq_some_iff.mp H
                 obtain ⟨⟨t422, t423, t424⟩, A250, H⟩ := H
                 replace H : (if t424 = 0 then (if x9_17 = true then (if x6_1.length < 8796093022208 then (intrusionref08_Parse.l0 kj21 t409 x5_1 (x6_1 ++ [(⟨t422, t423⟩ : S33)]) (wrap64 (x7_1 + 1))) else (none)) else (if x5_1.length < 8796093022208 then (intrusionref08_Parse.l0 kj21 t409 (x5_1 ++ [(⟨t422, t423⟩ : S33)]) x6_1 (wrap64 (x7_1 + 1))) else (none))) else (some (([] : List (S33)), t424))) = some (r1, r2) := H
                 have A25 := Aside0.mk A250
                 clear A250
                 by_cases c26 : t424 = 0
                 · rw [if_pos c26] at H
                   have c26b0 : (t424 == 0) = true := beq_iff_eq.mpr c26
                   have c26b1 : (t424 != 0) = false := bne_eq_false_iff_eq.mpr c26
                   clear c26
                   by_cases c27 : x9_17 = true
                   · subst c27
                     rw [if_pos rfl] at H
                     by_cases c28 : x6_1.length < 8796093022208
                     · rw [if_pos c28] at H
                       have LMc28 := Aside0.mk c28
                       clear c28
                       obtain ⟨y426, hy426⟩ : ∃ y_ : List (S33), y_ = (x6_1 ++ [(⟨t422, t423⟩ : S33)]) := ⟨_, rfl⟩
                       rw [← hy426] at H; try dsimp only [Option.bind_some] at H
                       have Ny426 := Aside0.mk hy426
                       clear hy426
                       have H' := Aside0.mk H
                       clear H
                       go_wp2_with (first | ((with_reducible refine gate_callee (f := 30) rfl ?_); refine goesL_ (some 47) rfl rfl Tryd.func30 (by kernel_rfl) rfl #[.string x8_21] rfl (by (try simp only [List.map_toArray, List.map_cons, List.map_nil]); first | done | rfl | (simp only [List.length_drop, List.length_take]; rfl)) ?_; (with_reducible refine (intrusionref08_item.calls kj21 x8_21 t422 t423 t424 _ A25.out).mono ?_); rintro e w29 ⟨rfl, hb⟩; refine ⟨_, rfl, ?_⟩; replace HO_4 := Aside0.mk (Kd.R_below (zR HO_4) hb); replace HO_5 := Aside0.mk (Kd.R_below (zR HO_5) hb); replace HO_6 := Aside0.mk (Kd.R_below (zR HO_6) hb); replace HB := Aside0.mk (below_step (zB HB) hb); (try clear hb)) | ((with_reducible refine gate_dst (N := 10) rfl ?_); refine zx 10 #[.int .i64 0, .int .i64 0] 33 ?_; intro gb425 hg w30 hbox hb; replace HO_4 := Aside0.mk (Kd.R_below (zR HO_4) hb); replace HO_5 := Aside0.mk (Kd.R_below (Kd.R_elderB (zR HO_5) gb425 (Nat.le_of_eq hg.symm)) hb); replace HO_6 := Aside0.mk (Kd.R_below (Kd.R_elderB (zR HO_6) gb425 (Nat.le_of_eq hg.symm)) hb); have BK425 := Aside0.mk (hbox); have GW425 := Aside0.mk ((by rw [hg]; exact (below_size (zB HB)) : w.heap.size ≤ gb425)); have GE425 := Aside0.mk ((by rw [hg]; exact (below_size (zB HB)) : w.heap.size ≤ gb425)); replace HB := Aside0.mk (below_step (zB HB) hb); clear hb hbox hg; obtain ⟨hcz31_0, hcz31_1⟩ := zc2 BK425; obtain ⟨hfz31_0, hfz31_1⟩ := zf2 BK425) | ((with_reducible refine gate_builtin (b := .append) (xs := #[.tmp 54, .tmp 56]) rfl ?_); at_builtin; refine Kd.R_append k33 (w0 := w) w.heap.size rfl (.tmp 54) (.tmp 56) 23 33 (.agg #[(.int .i64 0), (.int .i64 0)]) 16 rfl Tryd.underlying23 info33 rfl (by decide) (by omega) u6 x6_1 (⟨t422, t423⟩ : S33) [.int .i64 t422, .int .i64 t423] (fun k_ => some k_ ≠ (u5 : Value).ownBlock ∧ k_ ≠ gb425) (fun _ => False) rfl (by first | (go_simp; done) | (go_simp; rfl)) ?aP (fun _ hk => hk.elim) ?aF ?aO ?aB ?aS ?aL ?_; (case aP => exact k33_mkM _ _ _ (⟨t422, t423⟩ : S33)); (case aB => exact (zB HB)); (case aF => exact (fun k_ hk => ⟨Kd.fresh' (Kd.R_lt (zQ (Kd.R_mono (Kd.R_far (p := ⟨gb425, 1, none⟩) (Kd.R_far (p := ⟨gb425, 0, none⟩) (Kd.R_mono HO_5.out (fun k_ hk => (⟨hk, hk.2⟩ : _ ∧ k_ ≠ gb425))) (fun _ hk => hk.2) (.int .i64 t422)) (fun _ hk => hk.2) (.int .i64 t423)) (fun _ h_ => h_.1)))) k_ hk, Kd.freshB (g := gb425) (o := .cells #[.int .i64 t422, .int .i64 t423] 33 (0, 0)) (by refine zL ?_; refine blk_put (cs := #[.int .i64 t422, .int .i64 0]) ?_ 1 _ rfl; refine zL ?_; refine blk_put (cs := #[.int .i64 0, .int .i64 0]) ?_ 0 _ rfl; refine zL ?_; exact BK425.out) k_ hk⟩)); (case aO => exact (by (with_reducible repeat (first | apply Kd.R_alloc | apply Kd.R_drewN | apply Kd.R_drew)); exact Kd.R_mono (Kd.R_far (p := ⟨gb425, 1, none⟩) (Kd.R_far (p := ⟨gb425, 0, none⟩) (Kd.R_mono HO_6.out (fun k_ hk => (⟨hk, hk.2⟩ : _ ∧ k_ ≠ gb425))) (fun _ hk => hk.2) (.int .i64 t422)) (fun _ hk => hk.2) (.int .i64 t423)) (fun _ hk => ⟨hk.1.1, hk.1.2⟩))); (case aS => exact (below_size (zB HB))); (case aL => have := LMc28.out; omega); intro v427 w32 ho hb hg hat; rw [← Ny426.out] at ho; replace HO_4 := Aside0.mk (Kd.R_over' (zQ (Kd.R_mono (Kd.R_far (p := ⟨gb425, 1, none⟩) (Kd.R_far (p := ⟨gb425, 0, none⟩) (Kd.R_types HO_4.out BK425.out (by decide)) (fun _ hk => hk.2) (.int .i64 t422)) (fun _ hk => hk.2) (.int .i64 t423)) (fun _ h_ => h_.1))) (Kd.R_typed (zQ (Kd.R_mono (Kd.R_far (p := ⟨gb425, 1, none⟩) (Kd.R_far (p := ⟨gb425, 0, none⟩) (Kd.R_mono HO_6.out (fun k_ hk => (⟨hk, hk.2⟩ : _ ∧ k_ ≠ gb425))) (fun _ hk => hk.2) (.int .i64 t422)) (fun _ hk => hk.2) (.int .i64 t423)) (fun _ h_ => h_.1)))) (by decide) hg); replace HO_5 := Aside0.mk (Kd.R_after (ok := (fun k_ => k_ ≠ gb425)) (by (with_reducible repeat (first | apply Kd.R_alloc | apply Kd.R_drewN | apply Kd.R_drew)); exact Kd.R_mono (Kd.R_far (p := ⟨gb425, 1, none⟩) (Kd.R_far (p := ⟨gb425, 0, none⟩) (Kd.R_mono HO_5.out (fun k_ hk => (⟨hk, hk.2⟩ : _ ∧ k_ ≠ gb425))) (fun _ hk => hk.2) (.int .i64 t422)) (fun _ hk => hk.2) (.int .i64 t423)) (fun _ hk => ⟨hk.1.2, hk.1.1⟩)) hg hat); replace BK425 := Aside0.mk (blk_grown (g := gb425) (o := .cells #[.int .i64 t422, .int .i64 t423] 33 (0, 0)) (by refine zL ?_; refine blk_put (cs := #[.int .i64 t422, .int .i64 0]) ?_ 1 _ rfl; refine zL ?_; refine blk_put (cs := #[.int .i64 0, .int .i64 0]) ?_ 0 _ rfl; refine zL ?_; exact BK425.out) hg (Kd.R_away HO_6.out (fun _ hk => hk.2))); replace HB := Aside0.mk (hb); have HO428 := Aside0.mk (ho); clear HO_6; clear ho hb hg hat))
                       go_roundg kj21
                       case measure => have := HK1.out; have := HJ17.out; have := HJ21.out; omega
                       case rel => exact ⟨(x5_1), (y426), (wrap64 (x7_1 + 1)), (by first | rfl | (simp; done) | (simp [*]; done)), H', ⟨by have := HK1.out; have := HJ17.out; have := HJ21.out; omega⟩, ⟨zR HO_4⟩, ⟨by (with_reducible repeat (first | apply Kd.R_alloc | apply Kd.R_drewN | apply Kd.R_drew)); exact Kd.R_mono HO_5.out (fun _ hk => hk.2)⟩, ⟨by (with_reducible repeat (first | apply Kd.R_alloc | apply Kd.R_drewN | apply Kd.R_drew)); exact Kd.R_mono HO428.out (fun _ hk => hk.1)⟩, ⟨zB HB⟩⟩
                     · rw [if_neg c28] at H
                       exact absurd H (by simp)
                   · replace c27 := Bool.eq_false_iff.mpr c27
                     subst c27
                     rw [if_neg zF] at H
                     by_cases c33 : x5_1.length < 8796093022208
                     · rw [if_pos c33] at H
                       have LMc33 := Aside0.mk c33
                       clear c33
                       obtain ⟨y429, hy429⟩ : ∃ y_ : List (S33), y_ = (x5_1 ++ [(⟨t422, t423⟩ : S33)]) := ⟨_, rfl⟩
                       rw [← hy429] at H; try dsimp only [Option.bind_some] at H
                       have Ny429 := Aside0.mk hy429
                       clear hy429
                       have H' := Aside0.mk H
                       clear H
                       go_wp2_with (first | ((with_reducible refine gate_callee (f := 30) rfl ?_); refine goesL_ (some 47) rfl rfl Tryd.func30 (by kernel_rfl) rfl #[.string x8_21] rfl (by (try simp only [List.map_toArray, List.map_cons, List.map_nil]); first | done | rfl | (simp only [List.length_drop, List.length_take]; rfl)) ?_; (with_reducible refine (intrusionref08_item.calls kj21 x8_21 t422 t423 t424 _ A25.out).mono ?_); rintro e w34 ⟨rfl, hb⟩; refine ⟨_, rfl, ?_⟩; replace HO_4 := Aside0.mk (Kd.R_below (zR HO_4) hb); replace HO_5 := Aside0.mk (Kd.R_below (zR HO_5) hb); replace HO_6 := Aside0.mk (Kd.R_below (zR HO_6) hb); replace HB := Aside0.mk (below_step (zB HB) hb); (try clear hb)) | ((with_reducible refine gate_dst (N := 10) rfl ?_); refine zx 10 #[.int .i64 0, .int .i64 0] 33 ?_; intro gb425 hg w35 hbox hb; replace HO_4 := Aside0.mk (Kd.R_below (zR HO_4) hb); replace HO_5 := Aside0.mk (Kd.R_below (Kd.R_elderB (zR HO_5) gb425 (Nat.le_of_eq hg.symm)) hb); replace HO_6 := Aside0.mk (Kd.R_below (Kd.R_elderB (zR HO_6) gb425 (Nat.le_of_eq hg.symm)) hb); have BK425 := Aside0.mk (hbox); have GW425 := Aside0.mk ((by rw [hg]; exact (below_size (zB HB)) : w.heap.size ≤ gb425)); have GE425 := Aside0.mk ((by rw [hg]; exact (below_size (zB HB)) : w.heap.size ≤ gb425)); replace HB := Aside0.mk (below_step (zB HB) hb); clear hb hbox hg; obtain ⟨hcz36_0, hcz36_1⟩ := zc2 BK425; obtain ⟨hfz36_0, hfz36_1⟩ := zf2 BK425) | ((with_reducible refine gate_builtin (b := .append) (xs := #[.tmp 58, .tmp 60]) rfl ?_); at_builtin; refine Kd.R_append k33 (w0 := w) w.heap.size rfl (.tmp 58) (.tmp 60) 23 33 (.agg #[(.int .i64 0), (.int .i64 0)]) 16 rfl Tryd.underlying23 info33 rfl (by decide) (by omega) u5 x5_1 (⟨t422, t423⟩ : S33) [.int .i64 t422, .int .i64 t423] (fun k_ => some k_ ≠ (u6 : Value).ownBlock ∧ k_ ≠ gb425) (fun _ => False) rfl (by first | (go_simp; done) | (go_simp; rfl)) ?aP (fun _ hk => hk.elim) ?aF ?aO ?aB ?aS ?aL ?_; (case aP => exact k33_mkM _ _ _ (⟨t422, t423⟩ : S33)); (case aB => exact (zB HB)); (case aF => exact (fun k_ hk => ⟨Kd.fresh' (Kd.R_lt (zQ (Kd.R_mono (Kd.R_far (p := ⟨gb425, 1, none⟩) (Kd.R_far (p := ⟨gb425, 0, none⟩) (Kd.R_mono HO_6.out (fun k_ hk => (⟨hk, hk.2⟩ : _ ∧ k_ ≠ gb425))) (fun _ hk => hk.2) (.int .i64 t422)) (fun _ hk => hk.2) (.int .i64 t423)) (fun _ h_ => h_.1)))) k_ hk, Kd.freshB (g := gb425) (o := .cells #[.int .i64 t422, .int .i64 t423] 33 (0, 0)) (by refine zL ?_; refine blk_put (cs := #[.int .i64 t422, .int .i64 0]) ?_ 1 _ rfl; refine zL ?_; refine blk_put (cs := #[.int .i64 0, .int .i64 0]) ?_ 0 _ rfl; refine zL ?_; exact BK425.out) k_ hk⟩)); (case aO => exact (by (with_reducible repeat (first | apply Kd.R_alloc | apply Kd.R_drewN | apply Kd.R_drew)); exact Kd.R_mono (Kd.R_far (p := ⟨gb425, 1, none⟩) (Kd.R_far (p := ⟨gb425, 0, none⟩) (Kd.R_mono HO_5.out (fun k_ hk => (⟨hk, hk.2⟩ : _ ∧ k_ ≠ gb425))) (fun _ hk => hk.2) (.int .i64 t422)) (fun _ hk => hk.2) (.int .i64 t423)) (fun _ hk => ⟨hk.1.1, hk.1.2⟩))); (case aS => exact (below_size (zB HB))); (case aL => have := LMc33.out; omega); intro v430 w37 ho hb hg hat; rw [← Ny429.out] at ho; replace HO_4 := Aside0.mk (Kd.R_over' (zQ (Kd.R_mono (Kd.R_far (p := ⟨gb425, 1, none⟩) (Kd.R_far (p := ⟨gb425, 0, none⟩) (Kd.R_types HO_4.out BK425.out (by decide)) (fun _ hk => hk.2) (.int .i64 t422)) (fun _ hk => hk.2) (.int .i64 t423)) (fun _ h_ => h_.1))) (Kd.R_typed (zQ (Kd.R_mono (Kd.R_far (p := ⟨gb425, 1, none⟩) (Kd.R_far (p := ⟨gb425, 0, none⟩) (Kd.R_mono HO_5.out (fun k_ hk => (⟨hk, hk.2⟩ : _ ∧ k_ ≠ gb425))) (fun _ hk => hk.2) (.int .i64 t422)) (fun _ hk => hk.2) (.int .i64 t423)) (fun _ h_ => h_.1)))) (by decide) hg); replace HO_6 := Aside0.mk (Kd.R_after (ok := (fun k_ => k_ ≠ gb425)) (by (with_reducible repeat (first | apply Kd.R_alloc | apply Kd.R_drewN | apply Kd.R_drew)); exact Kd.R_mono (Kd.R_far (p := ⟨gb425, 1, none⟩) (Kd.R_far (p := ⟨gb425, 0, none⟩) (Kd.R_mono HO_6.out (fun k_ hk => (⟨hk, hk.2⟩ : _ ∧ k_ ≠ gb425))) (fun _ hk => hk.2) (.int .i64 t422)) (fun _ hk => hk.2) (.int .i64 t423)) (fun _ hk => ⟨hk.1.2, hk.1.1⟩)) hg hat); replace BK425 := Aside0.mk (blk_grown (g := gb425) (o := .cells #[.int .i64 t422, .int .i64 t423] 33 (0, 0)) (by refine zL ?_; refine blk_put (cs := #[.int .i64 t422, .int .i64 0]) ?_ 1 _ rfl; refine zL ?_; refine blk_put (cs := #[.int .i64 0, .int .i64 0]) ?_ 0 _ rfl; refine zL ?_; exact BK425.out) hg (Kd.R_away HO_5.out (fun _ hk => hk.2))); replace HB := Aside0.mk (hb); have HO431 := Aside0.mk (ho); clear HO_5; clear ho hb hg hat))
                       go_roundg kj21
                       case measure => have := HK1.out; have := HJ17.out; have := HJ21.out; omega
                       case rel => exact ⟨(y429), (x6_1), (wrap64 (x7_1 + 1)), (by first | rfl | (simp; done) | (simp [*]; done)), H', ⟨by have := HK1.out; have := HJ17.out; have := HJ21.out; omega⟩, ⟨zR HO_4⟩, ⟨by (with_reducible repeat (first | apply Kd.R_alloc | apply Kd.R_drewN | apply Kd.R_drew)); exact Kd.R_mono HO431.out (fun _ hk => hk.1)⟩, ⟨by (with_reducible repeat (first | apply Kd.R_alloc | apply Kd.R_drewN | apply Kd.R_drew)); exact Kd.R_mono HO_6.out (fun _ hk => hk.2)⟩, ⟨zB HB⟩⟩
                     · rw [if_neg c33] at H
                       exact absurd H (by simp)
                 · rw [if_neg c26] at H
                   have c26b0 : (t424 == 0) = false := beq_eq_false_iff_ne.mpr c26
                   have c26b1 : (t424 != 0) = true := bne_iff_ne.mpr c26
                   simp only [Option.some.injEq, Prod.mk.injEq] at H
                   obtain ⟨rfl, rfl⟩ := H
                   go_wp2_with (first | ((with_reducible refine gate_callee (f := 30) rfl ?_); refine goesL_ (some 47) rfl rfl Tryd.func30 (by kernel_rfl) rfl #[.string x8_21] rfl (by (try simp only [List.map_toArray, List.map_cons, List.map_nil]); first | done | rfl | (simp only [List.length_drop, List.length_take]; rfl)) ?_; (with_reducible refine (intrusionref08_item.calls kj21 x8_21 t422 t423 t424 _ A25.out).mono ?_); rintro e w38 ⟨rfl, hb⟩; refine ⟨_, rfl, ?_⟩; replace HO_4 := Aside0.mk (Kd.R_below (zR HO_4) hb); replace HO_5 := Aside0.mk (Kd.R_below (zR HO_5) hb); replace HO_6 := Aside0.mk (Kd.R_below (zR HO_6) hb); replace HB := Aside0.mk (below_step (zB HB) hb); (try clear hb)) | ((with_reducible refine gate_dst (N := 10) rfl ?_); refine zx 10 #[.int .i64 0, .int .i64 0] 33 ?_; intro gb425 hg w39 hbox hb; replace HO_4 := Aside0.mk (Kd.R_below (zR HO_4) hb); replace HO_5 := Aside0.mk (Kd.R_below (Kd.R_elderB (zR HO_5) gb425 (Nat.le_of_eq hg.symm)) hb); replace HO_6 := Aside0.mk (Kd.R_below (Kd.R_elderB (zR HO_6) gb425 (Nat.le_of_eq hg.symm)) hb); have BK425 := Aside0.mk (hbox); have GW425 := Aside0.mk ((by rw [hg]; exact (below_size (zB HB)) : w.heap.size ≤ gb425)); have GE425 := Aside0.mk ((by rw [hg]; exact (below_size (zB HB)) : w.heap.size ≤ gb425)); replace HB := Aside0.mk (below_step (zB HB) hb); clear hb hbox hg; obtain ⟨hcz40_0, hcz40_1⟩ := zc2 BK425; obtain ⟨hfz40_0, hfz40_1⟩ := zf2 BK425))
                   go_ret2
                   exact ⟨_, by first | rfl | (simp [errW_none, errW_some] <;> rfl) | (simp [*, errW_none, errW_some] <;> rfl), by first | exact Kd.R_nil _ _ _ _ _ | exact Kd.N_nil _ _ _ _ _ | exact Kd.V_nil _ _ _ _ _ | exact Kd.Q_nil _ _ _ _ _ | exact Kd.S_nil _ _ _ _ _, by repeat (first | (with_reducible first | exact HB.out | apply below_alloc | apply pw_below_drewN | apply below_drew1 | refine below_set ?_ GE425.out) | exact HB.out)⟩
           · rw [if_neg c17] at H
             exact absurd H (by simp)
         · rw [if_neg c16] at H
           have c16b0 : decide (x7_1 < (t409.length : Int)) = false := decide_eq_false c16
           clear c16
           replace H := Option.bind_eq_some_iff.mp H
           obtain ⟨t418, A410, H⟩ := H
           replace H : (some (t418, 0)) = some (r1, r2) := H
           have A41 := Aside0.mk A410
           clear A410
           simp only [Option.some.injEq, Prod.mk.injEq] at H
           obtain ⟨rfl, rfl⟩ := H
           obtain ⟨Ao42, co42, eo42⟩ := Kd.R_slice HO_5.out
           subst eo42
           obtain ⟨Ao43, co43, eo43⟩ := Kd.R_slice HO_6.out
           subst eo43
           go_wp2_with (first | ((with_reducible refine gate_callee (f := 17) rfl ?_); refine goesL_ (some 64) rfl rfl Tryd.func17 (by kernel_rfl) rfl #[.slice Ao42 x5_1.length co42, .slice Ao43 x6_1.length co43] rfl (by (try simp only [List.map_toArray, List.map_cons, List.map_nil]); first | done | rfl | (simp only [List.length_drop, List.length_take]; rfl)) ?_; (with_reducible refine (intrusionref08_Eval.calls k1 _ _ x5_1 _ _ x6_1 t418 _ ?side1 ?side2 ?side3 ?side4 A41.out).mono ?_); (case side1 => repeat (first | exact (Kd.R_reads' HO_5.out).2.2 | (with_reducible refine Kd.C_alloc ?_ _) | (with_reducible refine Kd.C_drewN ?_ _) | (with_reducible refine Kd.C_drew ?_))); (case side2 => exact (Kd.R_reads' HO_5.out).2.1); (case side3 => repeat (first | exact (Kd.R_reads' HO_6.out).2.2 | (with_reducible refine Kd.C_alloc ?_ _) | (with_reducible refine Kd.C_drewN ?_ _) | (with_reducible refine Kd.C_drew ?_))); (case side4 => exact (Kd.R_reads' HO_6.out).2.1); rintro e w44 ⟨v419, rfl, ho0, hb⟩; refine ⟨_, rfl, ?_⟩; replace HO_4 := Aside0.mk (Kd.R_below (zR HO_4) hb); have HO420 := Aside0.mk (Kd.R_lower (Kd.R_new' (Kd.R_new' ho0 (Kd.R_lt (zR HO_5))) (Kd.R_lt (zR HO_6))) (below_size (zB HB))); replace HO_5 := Aside0.mk (Kd.R_elder' (zR HO_5) (Kd.R_base ho0) hb); replace HO_6 := Aside0.mk (Kd.R_elder' (zR HO_6) (Kd.R_base ho0) hb); replace HB := Aside0.mk (below_step (zB HB) hb); (try clear hb); (try clear ho0)))
           go_ret2
           exact ⟨_, by first | rfl | (simp [errW_none, errW_some] <;> rfl) | (simp [*, errW_none, errW_some] <;> rfl), by (with_reducible repeat (first | apply Kd.R_alloc | apply Kd.R_drewN | apply Kd.R_drew)); exact Kd.R_mono HO420.out (fun _ hk => trivial), by repeat (first | (with_reducible first | exact HB.out | apply below_alloc | apply pw_below_drewN | apply below_drew1) | exact HB.out)⟩
end Go.Proofs.YtbimdjciacnioaaDoor.Q
end

section
namespace Go.Proofs.YtbimdjciacnioaaDoor.Q
open Go.RowKit Go.Proofs.YtbimdjciacnioaaDoorW.PrintWords Go.Proofs.YtbimdjciacnioaaDoorW.PrintLast Go.Proofs.YtbimdjciacnioaaDoorW.PrintMore
attribute [local go_sem] max2_int min2_int max_two min_two max_three min_three max_four min_four
set_option linter.unusedVariables false
set_option linter.unusedSimpArgs false
def intrusionlaw08_PortsetParses.f (k : Nat) (a0 : ByteArray) : Option (Bool) := if (a0.size : Int) > 5000 then ((intrusionlaw08_awake.f k).bind fun t432 => (some t432)) else ((portset_Parse.f k a0).bind fun bt433 => ((intrusionref08_Parse.f k a0).bind fun bt437 => ((intrusionlaw08_same.f k bt433.1 bt437.1).bind fun t441 => (if t441 = true then (if bt433.2 = bt437.2 then ((intrusionlaw08_awake.f k).bind fun t442 => (some t442)) else (some false)) else (some false)))))
theorem intrusionlaw08_PortsetParses.mono : ∀ a0 k, LeO (intrusionlaw08_PortsetParses.f k a0) (intrusionlaw08_PortsetParses.f (k + 1) a0) := by
  intro a0 k
  unfold intrusionlaw08_PortsetParses.f
  repeat' first
      | (with_reducible exact intrusionlaw08_awake.mono _)
      | (with_reducible exact intrusionlaw08_same.mono _ _ _)
      | (with_reducible exact intrusionref08_Parse.mono _ _)
      | (with_reducible exact portset_Parse.mono _ _)
      | (with_reducible exact LeO.refl _)
      | (with_reducible exact LeO.none _)
      | (with_reducible refine LeO.ite ?_ ?_)
      | (with_reducible refine LeO.bind ?_ (fun _ => ?_))
      | exact intrusionlaw08_awake.mono _
      | exact intrusionlaw08_same.mono _ _ _
      | exact intrusionref08_Parse.mono _ _
      | exact portset_Parse.mono _ _
      | exact LeO.none _
      | refine LeO.ite ?_ ?_
      | refine LeO.bind ?_ (fun _ => ?_)
set_option maxHeartbeats 8000000 in
set_option maxRecDepth 100000 in
theorem intrusionlaw08_PortsetParses.calls (k : Nat) (a0 : ByteArray) (r : Bool) (w : World) (h : intrusionlaw08_PortsetParses.f k a0 = some r) (hW_ : WOK w) :
 Calls Tryd.prog 3 #[.string a0] w fun e w' => e = .returned (.bool r) ∧ Below w.heap.size w w' := by
 have HB := Aside0.mk (Below.refl w.heap.size w)
 unfold intrusionlaw08_PortsetParses.f at h; have H := h
 clear h
 by_cases c2 : (a0.size : Int) > 5000
 · rw [if_pos c2] at H
   have c2b0 : decide (5000 < (a0.size : Int)) = true := decide_eq_true c2
   have c2b1 : decide (5000 < a0.size) = true := decide_eq_true (by omega)
   clear c2
   replace H := Option.bind_eq_some_iff.mp H
   obtain ⟨t432, A30, H⟩ := H
   try dsimp only at H
   have A3 := Aside0.mk A30
   clear A30
   obtain rfl := Option.some.inj H
   go_enter Tryd.func3, Tryd.ntmps3
   go_wp2_with (first | ((with_reducible refine gate_callee (f := 9) rfl ?_); refine goesL_ (some 10) rfl rfl Tryd.func9 (by kernel_rfl) rfl #[] rfl (by (try simp only [List.map_toArray, List.map_cons, List.map_nil]); first | done | rfl | (simp only [List.length_drop, List.length_take]; rfl)) ?_; (with_reducible refine (intrusionlaw08_awake.calls k  t432 _ A3.out (WOK.below hW_ (zB HB))).mono ?_); rintro e w4 ⟨rfl, hb⟩; refine ⟨_, rfl, ?_⟩; replace HB := Aside0.mk (below_step (zB HB) hb); (try clear hb)))
   go_ret
   exact ⟨by first | rfl | (simp [errW_none, errW_some] <;> rfl) | (simp [*, errW_none, errW_some] <;> rfl), by repeat (first | (with_reducible first | exact HB.out | apply below_alloc | apply pw_below_drewN | apply below_drew1) | exact HB.out)⟩
 · rw [if_neg c2] at H
   have c2b0 : decide (5000 < (a0.size : Int)) = false := decide_eq_false c2
   have c2b1 : decide (5000 < a0.size) = false := decide_eq_false (by omega)
   clear c2
   replace H := Option.bind_eq_some_iff.mp H
   obtain ⟨⟨t433, t434⟩, A50, H⟩ := H
   try dsimp only at H
   have A5 := Aside0.mk A50
   clear A50
   replace H := Option.bind_eq_some_iff.mp H
   obtain ⟨⟨t437, t438⟩, A60, H⟩ := H
   try dsimp only at H
   have A6 := Aside0.mk A60
   clear A60
   replace H := Option.bind_eq_some_iff.mp H
   obtain ⟨t441, A70, H⟩ := H
   try dsimp only at H
   have A7 := Aside0.mk A70
   clear A70
   by_cases c8 : t441 = true
   · subst c8
     rw [if_pos rfl] at H
     by_cases c9 : t434 = t438
     · rw [if_pos c9] at H
       have c9b0 : (t434 == t438) = true := beq_iff_eq.mpr c9
       have c9b1 : (t434 != t438) = false := bne_eq_false_iff_eq.mpr c9
       clear c9
       replace H := Option.bind_eq_some_iff.mp H
       obtain ⟨t442, A100, H⟩ := H
       try dsimp only at H
       have A10 := Aside0.mk A100
       clear A100
       obtain rfl := Option.some.inj H
       go_enter Tryd.func3, Tryd.ntmps3
       go_wp2_with (first | ((with_reducible refine gate_callee (f := 10) rfl ?_); refine goesL_ (some 13) rfl rfl Tryd.func10 (by kernel_rfl) rfl #[.string a0] rfl (by (try simp only [List.map_toArray, List.map_cons, List.map_nil]); first | done | rfl | (simp only [List.length_drop, List.length_take]; rfl)) ?_; (with_reducible refine (portset_Parse.calls k a0 t433 t434 _ A5.out (WOK.below hW_ (zB HB))).mono ?_); rintro e w11 ⟨v435, rfl, ho0, hb⟩; refine ⟨_, rfl, ?_⟩; have HO436 := Aside0.mk (Kd.R_lower ho0 (below_size (zB HB))); replace HB := Aside0.mk (below_step (zB HB) hb); (try clear hb); (try clear ho0)) | ((with_reducible refine gate_callee (f := 11) rfl ?_); refine goesL_ (some 18) rfl rfl Tryd.func11 (by kernel_rfl) rfl #[.string a0] rfl (by (try simp only [List.map_toArray, List.map_cons, List.map_nil]); first | done | rfl | (simp only [List.length_drop, List.length_take]; rfl)) ?_; (with_reducible refine (intrusionref08_Parse.calls k a0 t437 t438 _ A6.out).mono ?_); rintro e w12 ⟨v439, rfl, ho0, hb⟩; refine ⟨_, rfl, ?_⟩; have HO440 := Aside0.mk (Kd.R_lower (Kd.R_new' ho0 (Kd.R_lt (zR HO436))) (below_size (zB HB))); replace HO436 := Aside0.mk (Kd.R_elder' (zR HO436) (Kd.R_base ho0) hb); replace HB := Aside0.mk (below_step (zB HB) hb); (try clear hb); (try clear ho0); obtain ⟨Ao13, co13, eo13⟩ := Kd.R_slice HO436.out; subst eo13; obtain ⟨Ao14, co14, eo14⟩ := Kd.R_slice HO440.out; subst eo14) | ((with_reducible refine gate_callee (f := 12) rfl ?_); refine goesL_ (some 23) rfl rfl Tryd.func12 (by kernel_rfl) rfl #[.slice Ao13 t433.length co13, .slice Ao14 t437.length co14] rfl (by (try simp only [List.map_toArray, List.map_cons, List.map_nil]); first | done | rfl | (simp only [List.length_drop, List.length_take]; rfl)) ?_; (with_reducible refine (intrusionlaw08_same.calls k _ _ t433 _ _ t437 true _ ?side1 ?side2 ?side3 ?side4 A7.out).mono ?_); (case side1 => repeat (first | exact (Kd.R_reads' HO436.out).2.2 | (with_reducible refine Kd.C_alloc ?_ _) | (with_reducible refine Kd.C_drewN ?_ _) | (with_reducible refine Kd.C_drew ?_))); (case side2 => exact (Kd.R_reads' HO436.out).2.1); (case side3 => repeat (first | exact (Kd.R_reads' HO440.out).2.2 | (with_reducible refine Kd.C_alloc ?_ _) | (with_reducible refine Kd.C_drewN ?_ _) | (with_reducible refine Kd.C_drew ?_))); (case side4 => exact (Kd.R_reads' HO440.out).2.1); rintro e w' ⟨rfl, ⟨nd, rfl⟩⟩; refine ⟨_, rfl, ?_⟩) | (go_at_call 9; (with_reducible refine (intrusionlaw08_awake.calls k  t442 _ A10.out (WOK.below hW_ (zB HB))).mono ?_); rintro e w15 ⟨rfl, hb⟩; replace HO436 := Aside0.mk (Kd.R_below (zR HO436) hb); replace HO440 := Aside0.mk (Kd.R_below (zR HO440) hb); replace HB := Aside0.mk (below_step (zB HB) hb); (try clear hb)))
       go_ret
       exact ⟨by first | rfl | (simp [errW_none, errW_some] <;> rfl) | (simp [*, errW_none, errW_some] <;> rfl), by repeat (first | (with_reducible first | exact HB.out | apply below_alloc | apply pw_below_drewN | apply below_drew1) | exact HB.out)⟩
     · rw [if_neg c9] at H
       have c9b0 : (t434 == t438) = false := beq_eq_false_iff_ne.mpr c9
       have c9b1 : (t434 != t438) = true := bne_iff_ne.mpr c9
       obtain rfl := Option.some.inj H
       go_enter Tryd.func3, Tryd.ntmps3
       go_wp2_with (first | ((with_reducible refine gate_callee (f := 10) rfl ?_); refine goesL_ (some 13) rfl rfl Tryd.func10 (by kernel_rfl) rfl #[.string a0] rfl (by (try simp only [List.map_toArray, List.map_cons, List.map_nil]); first | done | rfl | (simp only [List.length_drop, List.length_take]; rfl)) ?_; (with_reducible refine (portset_Parse.calls k a0 t433 t434 _ A5.out (WOK.below hW_ (zB HB))).mono ?_); rintro e w16 ⟨v435, rfl, ho0, hb⟩; refine ⟨_, rfl, ?_⟩; have HO436 := Aside0.mk (Kd.R_lower ho0 (below_size (zB HB))); replace HB := Aside0.mk (below_step (zB HB) hb); (try clear hb); (try clear ho0)) | ((with_reducible refine gate_callee (f := 11) rfl ?_); refine goesL_ (some 18) rfl rfl Tryd.func11 (by kernel_rfl) rfl #[.string a0] rfl (by (try simp only [List.map_toArray, List.map_cons, List.map_nil]); first | done | rfl | (simp only [List.length_drop, List.length_take]; rfl)) ?_; (with_reducible refine (intrusionref08_Parse.calls k a0 t437 t438 _ A6.out).mono ?_); rintro e w17 ⟨v439, rfl, ho0, hb⟩; refine ⟨_, rfl, ?_⟩; have HO440 := Aside0.mk (Kd.R_lower (Kd.R_new' ho0 (Kd.R_lt (zR HO436))) (below_size (zB HB))); replace HO436 := Aside0.mk (Kd.R_elder' (zR HO436) (Kd.R_base ho0) hb); replace HB := Aside0.mk (below_step (zB HB) hb); (try clear hb); (try clear ho0); obtain ⟨Ao18, co18, eo18⟩ := Kd.R_slice HO436.out; subst eo18; obtain ⟨Ao19, co19, eo19⟩ := Kd.R_slice HO440.out; subst eo19) | ((with_reducible refine gate_callee (f := 12) rfl ?_); refine goesL_ (some 23) rfl rfl Tryd.func12 (by kernel_rfl) rfl #[.slice Ao18 t433.length co18, .slice Ao19 t437.length co19] rfl (by (try simp only [List.map_toArray, List.map_cons, List.map_nil]); first | done | rfl | (simp only [List.length_drop, List.length_take]; rfl)) ?_; (with_reducible refine (intrusionlaw08_same.calls k _ _ t433 _ _ t437 true _ ?side1 ?side2 ?side3 ?side4 A7.out).mono ?_); (case side1 => repeat (first | exact (Kd.R_reads' HO436.out).2.2 | (with_reducible refine Kd.C_alloc ?_ _) | (with_reducible refine Kd.C_drewN ?_ _) | (with_reducible refine Kd.C_drew ?_))); (case side2 => exact (Kd.R_reads' HO436.out).2.1); (case side3 => repeat (first | exact (Kd.R_reads' HO440.out).2.2 | (with_reducible refine Kd.C_alloc ?_ _) | (with_reducible refine Kd.C_drewN ?_ _) | (with_reducible refine Kd.C_drew ?_))); (case side4 => exact (Kd.R_reads' HO440.out).2.1); rintro e w' ⟨rfl, ⟨nd, rfl⟩⟩; refine ⟨_, rfl, ?_⟩))
       go_ret
       exact ⟨by first | rfl | (simp [errW_none, errW_some] <;> rfl) | (simp [*, errW_none, errW_some] <;> rfl), by repeat (first | (with_reducible first | exact HB.out | apply below_alloc | apply pw_below_drewN | apply below_drew1) | exact HB.out)⟩
   · replace c8 := Bool.eq_false_iff.mpr c8
     subst c8
     rw [if_neg zF] at H
     obtain rfl := Option.some.inj H
     go_enter Tryd.func3, Tryd.ntmps3
     go_wp2_with (first | ((with_reducible refine gate_callee (f := 10) rfl ?_); refine goesL_ (some 13) rfl rfl Tryd.func10 (by kernel_rfl) rfl #[.string a0] rfl (by (try simp only [List.map_toArray, List.map_cons, List.map_nil]); first | done | rfl | (simp only [List.length_drop, List.length_take]; rfl)) ?_; (with_reducible refine (portset_Parse.calls k a0 t433 t434 _ A5.out (WOK.below hW_ (zB HB))).mono ?_); rintro e w20 ⟨v435, rfl, ho0, hb⟩; refine ⟨_, rfl, ?_⟩; have HO436 := Aside0.mk (Kd.R_lower ho0 (below_size (zB HB))); replace HB := Aside0.mk (below_step (zB HB) hb); (try clear hb); (try clear ho0)) | ((with_reducible refine gate_callee (f := 11) rfl ?_); refine goesL_ (some 18) rfl rfl Tryd.func11 (by kernel_rfl) rfl #[.string a0] rfl (by (try simp only [List.map_toArray, List.map_cons, List.map_nil]); first | done | rfl | (simp only [List.length_drop, List.length_take]; rfl)) ?_; (with_reducible refine (intrusionref08_Parse.calls k a0 t437 t438 _ A6.out).mono ?_); rintro e w21 ⟨v439, rfl, ho0, hb⟩; refine ⟨_, rfl, ?_⟩; have HO440 := Aside0.mk (Kd.R_lower (Kd.R_new' ho0 (Kd.R_lt (zR HO436))) (below_size (zB HB))); replace HO436 := Aside0.mk (Kd.R_elder' (zR HO436) (Kd.R_base ho0) hb); replace HB := Aside0.mk (below_step (zB HB) hb); (try clear hb); (try clear ho0); obtain ⟨Ao22, co22, eo22⟩ := Kd.R_slice HO436.out; subst eo22; obtain ⟨Ao23, co23, eo23⟩ := Kd.R_slice HO440.out; subst eo23) | ((with_reducible refine gate_callee (f := 12) rfl ?_); refine goesL_ (some 23) rfl rfl Tryd.func12 (by kernel_rfl) rfl #[.slice Ao22 t433.length co22, .slice Ao23 t437.length co23] rfl (by (try simp only [List.map_toArray, List.map_cons, List.map_nil]); first | done | rfl | (simp only [List.length_drop, List.length_take]; rfl)) ?_; (with_reducible refine (intrusionlaw08_same.calls k _ _ t433 _ _ t437 false _ ?side1 ?side2 ?side3 ?side4 A7.out).mono ?_); (case side1 => repeat (first | exact (Kd.R_reads' HO436.out).2.2 | (with_reducible refine Kd.C_alloc ?_ _) | (with_reducible refine Kd.C_drewN ?_ _) | (with_reducible refine Kd.C_drew ?_))); (case side2 => exact (Kd.R_reads' HO436.out).2.1); (case side3 => repeat (first | exact (Kd.R_reads' HO440.out).2.2 | (with_reducible refine Kd.C_alloc ?_ _) | (with_reducible refine Kd.C_drewN ?_ _) | (with_reducible refine Kd.C_drew ?_))); (case side4 => exact (Kd.R_reads' HO440.out).2.1); rintro e w' ⟨rfl, ⟨nd, rfl⟩⟩; refine ⟨_, rfl, ?_⟩))
     go_ret
     exact ⟨by first | rfl | (simp [errW_none, errW_some] <;> rfl) | (simp [*, errW_none, errW_some] <;> rfl), by repeat (first | (with_reducible first | exact HB.out | apply below_alloc | apply pw_below_drewN | apply below_drew1) | exact HB.out)⟩
end Go.Proofs.YtbimdjciacnioaaDoor.Q
end

section
set_option linter.unusedVariables false
set_option linter.unusedSimpArgs false
namespace Go.Proofs.YtbimdjciacnioaaDoor.Q
open Go.RowKit Go.Proofs.YtbimdjciacnioaaDoorW.PrintWords Go.Proofs.YtbimdjciacnioaaDoorW.PrintLast Go.Proofs.YtbimdjciacnioaaDoorW.PrintMore
theorem up_b {i : Nat} (h : i < 1000000) : wrap64 ((i : Int) + 1) = ((i + 1 : Nat) : Int) := by rw [wid (by omega) (by omega)]; omega
theorem r8split0 (s : ByteArray) (c : UInt8) (hs : s.data.toList.length ≤ 100000) : ∀ (d i f : Nat) (out : List (List UInt8)), s.data.toList.length - i = d → i ≤ s.data.toList.length → f ≤ i → out.length ≤ f → Ev (fun k => intrusionref08_split.l0 k s ((c.toNat : Nat) : Int) (out.map mkB) (f : Int) (i : Int)) ((out ++ spl c ((s.data.toList.drop f).take (i - f)) (s.data.toList.drop i)).map mkB)
  | 0, i, f, out, hd, hi, hf, ho => by
    have e : i = s.data.toList.length := by omega
    refine Ev.step (f := fun k => intrusionref08_split.l0 k s ((c.toNat : Nat) : Int) ((out.map mkB) ++ [s.extract f i]) ((i + 1 : Nat) : Int) ((i + 1 : Nat) : Int)) (fun k => ?_) ?_
    · rw [intrusionref08_split.l0, size_list, if_pos (by omega), if_pos (by omega), if_pos (by omega), if_pos (by omega), if_pos (by rw [List.length_map]; omega), Int.toNat_natCast, Int.toNat_natCast, up_b (by omega)]
    · refine Ev.step (f := fun _ => some ((out.map mkB) ++ [s.extract f i])) (fun k => ?_) ?_
      · rw [intrusionref08_split.l0, size_list, if_neg (by omega)]
      · rw [List.drop_of_length_le (show s.data.toList.length ≤ i by omega), spl, List.map_append, extract_mk]
        exact Ev.now _
  | d + 1, i, f, out, hd, hi, hf, ho => by
    have hl : i < s.data.toList.length := by omega
    have hsp : s.data.toList.drop i = s.data.toList[i] :: s.data.toList.drop (i + 1) := List.drop_eq_getElem_cons hl
    by_cases hc : s.data.toList[i] = c
    · have ih := r8split0 s c hs d (i + 1) (i + 1) (out ++ [(s.data.toList.drop f).take (i - f)]) (by omega) (by omega) (by omega) (by rw [List.length_append]; simp; omega)
      rw [show (s.data.toList.drop (i + 1)).take (i + 1 - (i + 1)) = [] from by rw [Nat.sub_self, List.take_zero], List.append_assoc] at ih
      rw [hsp, spl, if_pos hc]
      refine Ev.step (fun k => ?_) ih
      rw [intrusionref08_split.l0, size_list, if_pos (by omega), if_neg (by omega), if_pos (by omega), if_pos (by omega), if_pos ((bt_u8 s i hl c).2 hc), if_pos (by omega), if_pos (by omega), if_pos (by rw [List.length_map]; omega), Int.toNat_natCast, Int.toNat_natCast, up_b (by omega), extract_mk, List.map_append]
      rfl
    · have ih := r8split0 s c hs d (i + 1) f out (by omega) (by omega) (by omega) ho
      have ht : (s.data.toList.drop f).take (i + 1 - f) = (s.data.toList.drop f).take (i - f) ++ [s.data.toList[i]] := by
        have hl2 : i - f < (s.data.toList.drop f).length := by rw [List.length_drop]; omega
        rw [show i + 1 - f = (i - f) + 1 from by omega, List.take_succ_eq_append_getElem hl2]
        congr 2
        rw [List.getElem_drop]
        congr 1
        omega
      rw [ht] at ih
      rw [hsp, spl, if_neg hc]
      refine Ev.step (fun k => ?_) ih
      rw [intrusionref08_split.l0, size_list, if_pos (by omega), if_neg (by omega), if_pos (by omega), if_pos (by omega), if_neg (fun e => hc ((bt_u8 s i hl c).1 e)), up_b (by omega)]
theorem r8split_ev (s : ByteArray) (c : UInt8) (hs : s.data.toList.length ≤ 100000) : Ev (fun k => intrusionref08_split.f k s ((c.toNat : Nat) : Int)) ((spl c [] s.data.toList).map mkB) := r8split0 s c hs _ 0 0 [] rfl (by omega) (by omega) (by simp)
theorem num_mn {n c : Nat} (h1 : 48 ≤ c) (h2 : c ≤ 57) : mn (((min n 65536 : Nat) : Int) * 10 + ((c - 48 : Nat) : Int)) 65536 = ((min (10 * n + (c - 48)) 65536 : Nat) : Int) := by
  unfold mn
  split <;> omega
theorem r8num0 (s : ByteArray) (hs : s.data.toList.length ≤ 100000) : ∀ (d i n : Nat), s.data.toList.length - i = d → i ≤ s.data.toList.length → Ev (fun k => intrusionref08_number.l0 k s ((min n 65536 : Nat) : Int) (i : Int)) (pnumR (numL (s.data.toList.drop i) n))
  | 0, i, n, hd, hi => by
    rw [List.drop_of_length_le (by omega), numL]
    refine Ev.step (f := fun _ => some (((min n 65536 : Nat) : Int), true)) (fun k => ?_) (Ev.now _)
    rw [intrusionref08_number.l0, size_list, if_neg (by omega)]
  | d + 1, i, n, hd, hi => by
    have hl : i < s.data.toList.length := by omega
    have hsp : s.data.toList.drop i = s.data.toList[i] :: s.data.toList.drop (i + 1) := List.drop_eq_getElem_cons hl
    have hb := bt_list s i hl
    rw [hsp, numL]
    by_cases hc : 48 ≤ (s.data.toList[i]).toNat ∧ (s.data.toList[i]).toNat ≤ 57
    · rw [if_pos hc]
      have ih := r8num0 s hs d (i + 1) (10 * n + ((s.data.toList[i]).toNat - 48)) (by omega) (by omega)
      refine Ev.step (fun k => ?_) ih
      rw [intrusionref08_number.l0, size_list, if_pos (by omega), if_pos (by omega), hb, if_neg (by omega), if_neg (by omega), up_b (i := i) (by omega), b48 hc.1 hc.2]
      rw [wid (x := ((min n 65536 : Nat) : Int) * 10) (by omega) (by omega), wid (x := ((min n 65536 : Nat) : Int) * 10 + _) (by omega) (by omega), num_mn hc.1 hc.2]
    · rw [if_neg hc]
      refine Ev.step (f := fun _ => some ((0 : Int), false)) (fun k => ?_) (Ev.now _)
      rw [intrusionref08_number.l0, size_list, if_pos (by omega), if_pos (by omega), hb]
      by_cases c1 : ((s.data.toList[i]).toNat : Int) < 48
      · rw [if_pos c1]
      · rw [if_neg c1, if_pos (by omega)]
theorem r8num_ev (s : ByteArray) (hs : s.data.toList.length ≤ 100000) : Ev (fun k => intrusionref08_number.f k s) (pnum s.data.toList) := by
  have h0 := r8num0 s hs _ 0 0 rfl (by omega)
  rw [List.drop_zero] at h0
  have hj : ∀ k, intrusionref08_number.j0 (k + 1) s false = intrusionref08_number.l0 k s ((min 0 65536 : Nat) : Int) ((0 : Nat) : Int) := fun k => by
    rw [intrusionref08_number.j0, if_neg Bool.false_ne_true, Nat.zero_min]
    rfl
  by_cases hc : canL s.data.toList = true
  · have hr : pnum s.data.toList = pnumR (numL s.data.toList 0) := by
      unfold pnum pnumR decL
      rw [if_pos hc]
    rw [hr]
    obtain ⟨hne, h48⟩ := (can_iff _).1 hc
    have hpos := List.length_pos_iff.2 hne
    refine Ev.step (fun k => ?_) h0
    unfold intrusionref08_number.f
    rw [ByteArray.toList_eq, if_neg hne, size_list]
    by_cases h1 : (s.data.toList.length : Int) > 1
    · have hb : (bt s 0 == 48) = false := beq_eq_false_iff_ne.2 (fun e => h48 ⟨by omega, (bt0 s hpos).1 e⟩)
      rw [if_pos h1, if_pos (by omega), hb]
      exact hj k
    · rw [if_neg h1]
      exact hj k
  · have hr : pnum s.data.toList = (0, false) := by
      unfold pnum decL
      rw [if_neg hc]
    rw [hr]
    refine Ev.step (f := fun _ => some ((0 : Int), false)) (fun k => ?_) (Ev.now _)
    have hjt : intrusionref08_number.j0 (k + 1) s true = some ((0 : Int), false) := by rw [intrusionref08_number.j0, if_pos rfl]
    unfold intrusionref08_number.f
    rw [ByteArray.toList_eq]
    by_cases hn : s.data.toList = []
    · rw [if_pos hn]
      exact hjt
    · have hpos := List.length_pos_iff.2 hn
      have h48 : 1 < s.data.toList.length ∧ s.data.toList.head? = some 48 := by
        by_cases h : 1 < s.data.toList.length ∧ s.data.toList.head? = some 48
        · exact h
        · exact absurd ((can_iff _).2 ⟨hn, h⟩) hc
      rw [if_neg hn, size_list, if_pos (by omega), if_pos (by omega), (bt0 s hpos).2 h48.2]
      exact hjt
theorem numL_bad {c : UInt8} (hc : ¬ (48 ≤ c.toNat ∧ c.toNat ≤ 57)) : ∀ (l : List UInt8) (n : Nat), c ∈ l → numL l n = none
  | [], n, h => by cases h
  | x :: t, n, h => by
    rw [numL]
    split
    · rename_i hx
      rcases List.mem_cons.1 h with rfl | h
      · exact absurd hx hc
      · exact numL_bad hc t _ h
    · rfl
theorem pnum_bad {c : UInt8} (hc : ¬ (48 ≤ c.toNat ∧ c.toNat ≤ 57)) {l : List UInt8} (h : c ∈ l) : pnum l = (0, false) := by
  unfold pnum decL
  rw [numL_bad hc l 0 h]
  simp
theorem pnum_zero : pnum [48] = (0, true) := by decide
theorem pnum_last : pnum (Lib.itoa 65535) = (65535, true) := by kernel_rfl
theorem cut_at (c : UInt8) (T D : List UInt8) (h : ∀ y ∈ T, y ≠ c) : Lib.cut (T ++ c :: D) [c] = (T, D, true) := by
  have hi : Lib.index (T ++ c :: D) [c] = (T.length : Int) := by
    refine Lib.index_first (by rw [List.length_append]; omega) ?_ (fun j hj => ?_)
    · unfold Lib.occAt
      rw [List.drop_left' rfl]
      simp [List.isPrefixOf]
    · unfold Lib.occAt
      have hl : j < (T ++ c :: D).length := by rw [List.length_append]; omega
      rw [List.drop_eq_getElem_cons hl, List.getElem_append_left hj]
      simp only [List.isPrefixOf]
      rw [beq_eq_false_iff_ne.2 (Ne.symm (h _ (List.getElem_mem hj)))]
      rfl
  unfold Lib.cut
  rw [hi, if_pos (by omega), Int.toNat_natCast]
  have e1 : (T ++ c :: D).take T.length = T := List.take_left' rfl
  have e2 : (T ++ c :: D).drop (T.length + ([c] : List UInt8).length) = D := by
    rw [← List.drop_drop, List.drop_left' rfl]
    rfl
  rw [e1, e2]
theorem cut_no (c : UInt8) (l : List UInt8) (h : ∀ y ∈ l, y ≠ c) : Lib.cut l [c] = (l, [], false) := by
  obtain ⟨r, e1, e2, _⟩ := spl_cut c l
  rw [spl_none c l h] at e1
  injection e1 with _ e3
  have h2 := e2.1 e3.symm
  revert h2
  unfold Lib.cut
  split
  · intro h2; cases h2
  · intro _; rfl
theorem first_or (c : UInt8) : ∀ l : List UInt8, (∀ y ∈ l, y ≠ c) ∨ ∃ T D, l = T ++ c :: D ∧ ∀ y ∈ T, y ≠ c
  | [] => .inl (by simp)
  | x :: t => by
    by_cases hx : x = c
    · exact .inr ⟨[], t, by rw [hx]; rfl, by simp⟩
    · rcases first_or c t with h | ⟨T, D, rfl, h⟩
      · exact .inl (fun y hy => by rcases List.mem_cons.1 hy with rfl | hy; exact hx; exact h y hy)
      · exact .inr ⟨x :: T, D, rfl, fun y hy => by rcases List.mem_cons.1 hy with rfl | hy; exact hx; exact h y hy⟩
theorem spl_at (c : UInt8) (T D : List UInt8) (h : ∀ y ∈ T, y ≠ c) : spl c [] (T ++ c :: D) = T :: spl c [] D := by
  rw [spl_skip c T [] _ h, List.nil_append, spl, if_pos rfl]
def itFin (a b : Int × Bool) : Int × Int × Int := if a.2 = true ∧ b.2 = true then (if a.1 > 65535 then (0, 0, 4) else if b.1 > 65535 then (0, 0, 4) else if a.1 > b.1 then (0, 0, 4) else (a.1, b.1, 0)) else (0, 0, 14)
def itLo (c : List UInt8 × List UInt8 × Bool) : List UInt8 := if c.2.2 = true ∧ c.1 = [] ∧ c.2.1 ≠ [] then [48] else c.1
def itHi (c : List UInt8 × List UInt8 × Bool) : List UInt8 := if c.2.2 = false then c.1 else if c.2.1 = [] ∧ c.1 ≠ [] then Lib.itoa 65535 else c.2.1
def itemV (l : List UInt8) : Int × Int × Int := itFin (pnum (itLo (Lib.cut l [58]))) (pnum (itHi (Lib.cut l [58])))
theorem item_j1 (x y : List UInt8) : Ev (fun k => portset_item.j1 k (mkB x) (mkB y)) (itFin (pnum x) (pnum y)) := by
  refine Ev.step (f := fun k => if (pnum x).2 = true then portset_item.j2 k (pnum x).1 (pnum y).1 (!(pnum y).2) else portset_item.j2 k (pnum x).1 (pnum y).1 true) (fun k => ?_) ?_
  · rw [portset_item.j1]
    unfold portset_number.f
    rw [mkB_list, mkB_list, Option.bind_some, Option.bind_some]
  · unfold itFin
    generalize pnum x = a
    generalize pnum y = b
    obtain ⟨a1, a2⟩ := a
    obtain ⟨b1, b2⟩ := b
    dsimp only
    cases a2
    · rw [if_neg (by simp)]
      simp only [Bool.false_eq_true, if_false]
      refine Ev.step (f := fun _ => some ((0 : Int), (0 : Int), (14 : Int))) (fun k => ?_) (Ev.now _)
      rw [portset_item.j2, if_pos rfl]
    · simp only [if_true]
      cases b2
      · rw [if_neg (by simp)]
        refine Ev.step (f := fun _ => some ((0 : Int), (0 : Int), (14 : Int))) (fun k => ?_) (Ev.now _)
        rw [portset_item.j2, if_pos (by rfl)]
      · rw [if_pos (by simp)]
        refine Ev.step (f := fun _ => some (if a1 > 65535 then ((0 : Int), (0 : Int), (4 : Int)) else if b1 > 65535 then (0, 0, 4) else if a1 > b1 then (0, 0, 4) else (a1, b1, 0))) (fun k => ?_) (Ev.now _)
        rw [portset_item.j2, if_neg (by simp)]
        split
        · rfl
        · split
          · rfl
          · split <;> rfl
theorem item_j0 (x y : List UInt8) : Ev (fun k => portset_item.j0 k (mkB x) (mkB y) false) (itFin (pnum x) (pnum (if y = [] ∧ x ≠ [] then Lib.itoa 65535 else y))) := by
  by_cases hy : y = []
  · by_cases hx : x = []
    · rw [if_neg (fun h => h.2 hx)]
      refine Ev.step (fun k => ?_) (item_j1 x y)
      rw [portset_item.j0, if_neg Bool.false_ne_true, ByteArray.toList_eq, ByteArray.toList_eq, mkB_list, mkB_list, if_pos hy, if_pos hx]
    · rw [if_pos ⟨hy, hx⟩]
      refine Ev.step (fun k => ?_) (item_j1 x _)
      rw [portset_item.j0, if_neg Bool.false_ne_true, ByteArray.toList_eq, ByteArray.toList_eq, mkB_list, mkB_list, if_pos hy, if_neg hx]
      unfold strconv_Itoa.f
      rw [if_pos (by omega), Option.bind_some]
      rfl
  · rw [if_neg (fun h => hy h.1)]
    refine Ev.step (fun k => ?_) (item_j1 x y)
    rw [portset_item.j0, if_neg Bool.false_ne_true, ByteArray.toList_eq, mkB_list, if_neg hy]
theorem item_ev (s : ByteArray) (hs : s.size < 4294967281) : Ev (fun k => portset_item.f k s) (itemV s.data.toList) := by
  refine Ev.congr (fun k => ?_) (f := fun k => if (Lib.cut s.data.toList [58]).2.2 = true then (if (Lib.cut s.data.toList [58]).1 = ([] : List UInt8) then (portset_item.j0 k (mkB (Lib.cut s.data.toList [58]).1) (mkB (Lib.cut s.data.toList [58]).2.1) ((Lib.cut s.data.toList [58]).2.1 != ([] : List UInt8))) else (portset_item.j0 k (mkB (Lib.cut s.data.toList [58]).1) (mkB (Lib.cut s.data.toList [58]).2.1) false)) else (portset_item.j1 k (mkB (Lib.cut s.data.toList [58]).1) (mkB (Lib.cut s.data.toList [58]).1))) ?_
  · unfold portset_item.f
    rw [cut_eq s _ hs, Option.bind_some]
    simp only [ByteArray.toList_eq, mkB_list]
  · unfold itemV
    generalize Lib.cut s.data.toList [58] = c
    obtain ⟨T, D, b⟩ := c
    unfold itLo itHi
    dsimp only
    cases b
    · simp only [Bool.false_eq_true, if_false, false_and, if_true]
      exact item_j1 T T
    · simp only [if_true, true_and, Bool.true_eq_false, if_false]
      by_cases hT : T = []
      · simp only [hT, if_true, true_and, ne_eq, not_true_eq_false, and_false, if_false]
        by_cases hD : D = []
        · subst hD
          simp only [not_true_eq_false, if_false]
          have := item_j0 [] []
          simpa using this
        · rw [if_pos hD]
          refine Ev.step (fun k => ?_) (item_j1 [48] D)
          rw [portset_item.j0, if_pos (bne_iff_ne.2 hD)]
          rfl
      · simp only [hT, if_false, false_and, ne_eq, not_false_eq_true, and_true]
        have := item_j0 T D
        simpa only [hT, ne_eq, not_false_eq_true, and_true] using this
theorem itFin_if (a b : Int) : (if a > 65535 then some ((0 : Int), (0 : Int), (4 : Int)) else if b > 65535 then some (0, 0, 4) else if a > b then some (0, 0, 4) else some (a, b, 0)) = some (itFin (a, true) (b, true)) := by
  unfold itFin
  dsimp only
  rw [if_pos (⟨rfl, rfl⟩ : (true = true) ∧ (true = true))]
  by_cases h1 : a > 65535
  · rw [if_pos h1, if_pos h1]
  · rw [if_neg h1, if_neg h1]
    by_cases h2 : b > 65535
    · rw [if_pos h2, if_pos h2]
    · rw [if_neg h2, if_neg h2]
      by_cases h3 : a > b
      · rw [if_pos h3, if_pos h3]
      · rw [if_neg h3, if_neg h3]
theorem rit_j2a (l : List UInt8) (a b : Int) : Ev (fun k => intrusionref08_item.j2 k [mkB l] a b) (itFin (a, true) (a, true)) := by
  refine Ev.step (f := fun _ => some (itFin (a, true) (a, true))) (fun k => ?_) (Ev.now _)
  rw [intrusionref08_item.j2, if_pos (show (([mkB l].length : Nat) : Int) = 1 from rfl), ← itFin_if]
  by_cases h : a > 65535
  · rw [if_pos h, if_pos h]
  · rw [if_neg h, if_neg h]
theorem rit_j2b (T D : List UInt8) (hD : D.length ≤ 100000) (a : Int) : Ev (fun k => intrusionref08_item.j2 k [mkB T, mkB D] a 65535) (itFin (a, true) (if D = [] then (65535, true) else pnum D)) := by
  have r1 : rdOf ByteArray.empty [mkB T, mkB D] 1 = mkB D := rfl
  by_cases h : D = []
  · rw [if_pos h]
    refine Ev.step (f := fun _ => some (itFin (a, true) (65535, true))) (fun k => ?_) (Ev.now _)
    rw [intrusionref08_item.j2, if_neg (by simp), if_pos (by simp), r1, ByteArray.toList_eq, mkB_list, if_pos h, ← itFin_if]
  · rw [if_neg h]
    refine Ev.step (f := fun k => (intrusionref08_number.f k (mkB D)).bind fun bt404 => (if bt404.2 = true then (if a > 65535 then (some (0, 0, 4)) else (if bt404.1 > 65535 then (some (0, 0, 4)) else (if a > bt404.1 then (some (0, 0, 4)) else (some (a, bt404.1, 0))))) else (some (0, 0, 14)))) (fun k => ?_) (Ev.bind (r8num_ev (mkB D) (by rw [mkB_list]; exact hD)) ?_)
    · rw [intrusionref08_item.j2, if_neg (by simp), if_pos (by simp), r1, ByteArray.toList_eq, mkB_list, if_neg h]
    · rw [mkB_list]
      generalize pnum D = q
      obtain ⟨b, ok⟩ := q
      dsimp only
      cases ok
      · simp only [Bool.false_eq_true, if_false]
        have : itFin (a, true) (b, false) = (0, 0, 14) := by unfold itFin; simp
        rw [this]
        exact Ev.now _
      · simp only [if_true]
        rw [itFin_if]
        exact Ev.now _
theorem rit_j1 (X : List ByteArray) (T : List UInt8) (hX : rdOf ByteArray.empty X 0 = mkB T) (hl : 0 < (X.length : Int)) (hT : T.length ≤ 100000) (G : Int → Int × Bool) (hG : ∀ a : Int, Ev (fun k => intrusionref08_item.j2 k X a 65535) (itFin (a, true) (G a))) :
    Ev (fun k => intrusionref08_item.j1 k X true 0 65535) (itFin (pnum T) (G (pnum T).1)) := by
  refine Ev.step (f := fun k => (intrusionref08_number.f k (mkB T)).bind fun bt400 => (if bt400.2 = true then (intrusionref08_item.j2 k X bt400.1 65535) else (some (0, 0, 14)))) (fun k => ?_) (Ev.bind (r8num_ev (mkB T) (by rw [mkB_list]; exact hT)) ?_)
  · rw [intrusionref08_item.j1, if_pos rfl, if_pos hl, hX]
  · rw [mkB_list]
    have h := hG (pnum T).1
    generalize pnum T = q at h ⊢
    obtain ⟨b, ok⟩ := q
    dsimp only at h ⊢
    cases ok
    · simp only [Bool.false_eq_true, if_false]
      have : itFin (b, false) (G b) = (0, 0, 14) := by unfold itFin; simp
      rw [this]
      exact Ev.now _
    · simp only [if_true]
      exact h
theorem itFin_bad (a b : Int × Bool) (h : a.2 = false ∨ b.2 = false) : itFin a b = (0, 0, 14) := by
  unfold itFin
  rw [if_neg]
  rintro ⟨h1, h2⟩
  rcases h with h | h
  · rw [h] at h1; cases h1
  · rw [h] at h2; cases h2
theorem ritem_ev (s : ByteArray) (hs : s.data.toList.length ≤ 100000) : Ev (fun k => intrusionref08_item.f k s) (itemV s.data.toList) := by
  have h0 := r8split_ev s 58 hs
  rw [show (((58 : UInt8).toNat : Nat) : Int) = 58 from rfl] at h0
  rcases first_or 58 s.data.toList with h | ⟨T, D, e, h⟩
  · rw [spl_none 58 _ h] at h0
    have hne : (s.toList == ([58] : List UInt8)) = false := beq_eq_false_iff_ne.2 (fun e => by
      rw [ByteArray.toList_eq] at e
      exact h 58 (by rw [e]; simp) rfl)
    refine Ev.bind h0 ?_
    rw [List.map_cons, List.map_nil, hne]
    refine Ev.congr (fun k => if_neg (by simp)) ?_
    unfold itemV
    rw [cut_no 58 _ h]
    have hv : itLo (s.data.toList, ([] : List UInt8), false) = s.data.toList := by unfold itLo; simp
    have hv2 : itHi (s.data.toList, ([] : List UInt8), false) = s.data.toList := by unfold itHi; simp
    rw [hv, hv2]
    have hj := rit_j1 [mkB s.data.toList] s.data.toList rfl (by simp) hs (fun a => (a, true)) (fun a => rit_j2a _ a _)
    have hg : itFin (pnum s.data.toList) ((pnum s.data.toList).1, true) = itFin (pnum s.data.toList) (pnum s.data.toList) := by
      generalize pnum s.data.toList = q
      obtain ⟨a, ok⟩ := q
      cases ok
      · rw [itFin_bad _ _ (.inl rfl), itFin_bad _ _ (.inl rfl)]
      · rfl
    rw [hg] at hj
    refine Ev.step (fun k => ?_) hj
    have r0 : rdOf ByteArray.empty [mkB s.data.toList] 0 = mkB s.data.toList := rfl
    rw [intrusionref08_item.j0, if_neg Bool.false_ne_true, if_pos (by simp), r0, ByteArray.toList_eq, mkB_list]
    simp only [List.length_cons, List.length_nil]
    split <;> rfl
  · have hlen : T.length + (D.length + 1) ≤ 100000 := by rw [e, List.length_append, List.length_cons] at hs; exact hs
    rw [e, spl_at 58 T D h] at h0
    unfold itemV
    rw [e, cut_at 58 T D h]
    rcases first_or 58 D with hD | ⟨D1, D2, eD, hD⟩
    · rw [spl_none 58 D hD] at h0
      refine Ev.bind h0 ?_
      rw [List.map_cons, List.map_cons, List.map_nil]
      refine Ev.congr (fun k => if_neg (by simp)) ?_
      have r0 : rdOf ByteArray.empty [mkB T, mkB D] 0 = mkB T := rfl
      by_cases hT : T = []
      · by_cases hDe : D = []
        · have : (s.toList == ([58] : List UInt8)) = true := beq_iff_eq.2 (by rw [ByteArray.toList_eq, e, hT, hDe]; rfl)
          rw [this]
          subst hT hDe
          rw [show itFin (pnum (itLo (([] : List UInt8), ([] : List UInt8), true))) (pnum (itHi (([] : List UInt8), ([] : List UInt8), true))) = (0, 0, 14) from by decide]
          refine Ev.step (f := fun _ => some ((0 : Int), (0 : Int), (14 : Int))) (fun k => ?_) (Ev.now _)
          rw [intrusionref08_item.j0, if_pos rfl]
        · have : (s.toList == ([58] : List UInt8)) = false := beq_eq_false_iff_ne.2 (fun h => hDe (by
            rw [ByteArray.toList_eq, e, hT] at h
            simpa using h))
          rw [this]
          have hv : itLo (T, D, true) = [48] := by unfold itLo; simp [hT, hDe]
          have hv2 : itHi (T, D, true) = D := by unfold itHi; simp [hDe]
          rw [hv, hv2, pnum_zero]
          have hj := rit_j2b T D (by omega) 0
          rw [if_neg hDe] at hj
          refine Ev.step (f := fun k => intrusionref08_item.j1 k [mkB T, mkB D] false 0 65535) (fun k => ?_) (Ev.step (fun k => ?_) hj)
          · rw [intrusionref08_item.j0, if_neg Bool.false_ne_true, if_pos (by simp), r0, ByteArray.toList_eq, mkB_list, if_pos hT]
            rfl
          · rw [intrusionref08_item.j1, if_neg Bool.false_ne_true]
      · have : (s.toList == ([58] : List UInt8)) = false := beq_eq_false_iff_ne.2 (fun h => hT (by
          rw [ByteArray.toList_eq, e] at h
          cases T with
          | nil => rfl
          | cons x t => injection h with _ h2; simp at h2))
        rw [this]
        have hv : itLo (T, D, true) = T := by unfold itLo; simp [hT]
        rw [hv]
        have hj := rit_j1 [mkB T, mkB D] T rfl (by simp) (by omega) (fun _ => if D = [] then (65535, true) else pnum D) (fun a => rit_j2b T D (by omega) a)
        have hv2 : pnum (itHi (T, D, true)) = if D = [] then (65535, true) else pnum D := by
          unfold itHi
          by_cases hDe : D = []
          · simp only [hDe, hT, Bool.true_eq_false, if_false, if_true, ne_eq, not_false_eq_true, and_self]
            exact pnum_last
          · simp [hDe]
        rw [hv2]
        refine Ev.step (fun k => ?_) hj
        rw [intrusionref08_item.j0, if_neg Bool.false_ne_true, if_pos (by simp), r0, ByteArray.toList_eq, mkB_list, if_neg hT]
    · refine Ev.bind h0 ?_
      rw [eD, spl_at 58 D1 D2 hD]
      refine Ev.congr (fun k => if_pos (by have := List.length_pos_iff.2 (spl_ne 58 D2 []); simp only [List.map_cons, List.length_cons, List.length_map]; omega)) ?_
      rw [itFin_bad _ _ (.inr (by
        have hmem : (58 : UInt8) ∈ D1 ++ 58 :: D2 := by simp
        have hne : D1 ++ 58 :: D2 ≠ [] := by simp
        have hv : itHi (T, D1 ++ 58 :: D2, true) = D1 ++ 58 :: D2 := by unfold itHi; simp
        rw [hv, pnum_bad (by decide) hmem]))]
      refine Ev.step (f := fun _ => some ((0 : Int), (0 : Int), (14 : Int))) (fun k => ?_) (Ev.now _)
      rw [intrusionref08_item.j0, if_pos rfl]
end Go.Proofs.YtbimdjciacnioaaDoor.Q
end

section
namespace Go.Proofs.YtbimdjciacnioaaDoor.Canon
abbrev Sp := Int × Int
def Mem (l : List Sp) (n : Int) : Prop := ∃ x, x ∈ l ∧ x.1 ≤ n ∧ n ≤ x.2
def CanFrom : Int → List Sp → Prop
  | _, [] => True
  | lo, x :: t => lo ≤ x.1 ∧ x.1 ≤ x.2 ∧ CanFrom (x.2 + 2) t
theorem mem_nil (n : Int) : Mem [] n ↔ False := by simp [Mem]
theorem mem_cons (x : Sp) (t : List Sp) (n : Int) : Mem (x :: t) n ↔ (x.1 ≤ n ∧ n ≤ x.2) ∨ Mem t n := by
  simp only [Mem, List.mem_cons]
  constructor
  · rintro ⟨y, rfl | hy, h⟩
    · exact .inl h
    · exact .inr ⟨y, hy, h⟩
  · rintro (h | ⟨y, hy, h⟩)
    · exact ⟨x, .inl rfl, h⟩
    · exact ⟨y, .inr hy, h⟩
theorem mem_append (a b : List Sp) (n : Int) : Mem (a ++ b) n ↔ Mem a n ∨ Mem b n := by
  induction a with
  | nil => simp [mem_nil]
  | cons x t ih => simp only [List.cons_append, mem_cons, ih]; exact or_assoc.symm
theorem CanFrom.mono {lo lo' : Int} {l : List Sp} (h : lo' ≤ lo) (c : CanFrom lo l) : CanFrom lo' l := by
  cases l with
  | nil => trivial
  | cons x t => exact ⟨Int.le_trans h c.1, c.2⟩
theorem CanFrom.ge : ∀ {l : List Sp} {lo n : Int}, CanFrom lo l → Mem l n → lo ≤ n
  | [], _, _, _, h => ((mem_nil _).1 h).elim
  | x :: t, lo, n, c, h => by
    rcases (mem_cons x t n).1 h with h | h
    · have := c.1; omega
    · have := CanFrom.ge c.2.2 h; have := c.1; have := c.2.1; omega
theorem uniq : ∀ (a b : List Sp) (lo : Int), CanFrom lo a → CanFrom lo b → (∀ n, Mem a n ↔ Mem b n) → a = b
  | [], [], _, _, _, _ => rfl
  | [], y :: t, _, _, cb, h => by
    have := (h y.1).2 ((mem_cons y t _).2 (.inl ⟨Int.le_refl _, cb.2.1⟩))
    exact ((mem_nil _).1 this).elim
  | x :: s, [], _, ca, _, h => by
    have := (h x.1).1 ((mem_cons x s _).2 (.inl ⟨Int.le_refl _, ca.2.1⟩))
    exact ((mem_nil _).1 this).elim
  | x :: s, y :: t, lo, ca, cb, h => by
    have hx : ∀ n, Mem (x :: s) n → x.1 ≤ n := fun n hn => CanFrom.ge (lo := x.1) (l := x :: s) ⟨Int.le_refl _, ca.2⟩ hn
    have hy : ∀ n, Mem (y :: t) n → y.1 ≤ n := fun n hn => CanFrom.ge (lo := y.1) (l := y :: t) ⟨Int.le_refl _, cb.2⟩ hn
    have e1 : x.1 = y.1 := by
      have a1 := hy _ ((h x.1).1 ((mem_cons x s _).2 (.inl ⟨Int.le_refl _, ca.2.1⟩)))
      have a2 := hx _ ((h y.1).2 ((mem_cons y t _).2 (.inl ⟨Int.le_refl _, cb.2.1⟩)))
      omega
    have e2 : x.2 = y.2 := by
      have k1 : ¬ x.2 < y.2 := fun hlt => by
        have := (h (x.2 + 1)).2 ((mem_cons y t _).2 (.inl ⟨by have := ca.2.1; omega, by omega⟩))
        rcases (mem_cons x s _).1 this with m | m
        · omega
        · have := ca.2.2.ge m; omega
      have k2 : ¬ y.2 < x.2 := fun hlt => by
        have := (h (y.2 + 1)).1 ((mem_cons x s _).2 (.inl ⟨by have := cb.2.1; omega, by omega⟩))
        rcases (mem_cons y t _).1 this with m | m
        · omega
        · have := cb.2.2.ge m; omega
      omega
    have e : x = y := Prod.ext e1 e2
    subst e
    rw [uniq s t (x.2 + 2) ca.2.2 cb.2.2 (fun n => by
      constructor
      · intro hn
        have g := ca.2.2.ge hn
        rcases (mem_cons x t _).1 ((h n).1 ((mem_cons x s _).2 (.inr hn))) with m | m
        · omega
        · exact m
      · intro hn
        have g := cb.2.2.ge hn
        rcases (mem_cons x s _).1 ((h n).2 ((mem_cons x t _).2 (.inr hn))) with m | m
        · omega
        · exact m)]
theorem can_append : ∀ (a b : List Sp) (lo : Int), CanFrom lo (a ++ b) ↔ CanFrom lo a ∧ (∀ x ∈ a, ∀ y ∈ b, x.2 + 1 < y.1) ∧ (∃ lo', CanFrom lo' b) ∧ (∀ y ∈ b, lo ≤ y.1)
  | [], b, lo => by
    constructor
    · intro c
      refine ⟨trivial, by simp, ⟨lo, c⟩, fun y hy => ?_⟩
      have hm : Mem b y.1 → lo ≤ y.1 := c.ge
      refine hm ⟨y, hy, Int.le_refl _, ?_⟩
      have : ∀ (b : List Sp) (lo : Int), CanFrom lo b → ∀ y ∈ b, y.1 ≤ y.2 := by
        intro b
        induction b with
        | nil => simp
        | cons z t ih =>
          intro lo c y hy
          rcases List.mem_cons.1 hy with rfl | hy
          · exact c.2.1
          · exact ih _ c.2.2 y hy
      exact this b lo c y hy
    · rintro ⟨_, _, ⟨lo', c⟩, h⟩
      cases b with
      | nil => trivial
      | cons z t => exact ⟨h z (List.mem_cons_self ..), c.2⟩
  | x :: a, b, lo => by
    have ih := can_append a b (x.2 + 2)
    constructor
    · rintro ⟨c1, c2, c3⟩
      obtain ⟨i1, i2, i3, i4⟩ := ih.1 c3
      refine ⟨⟨c1, c2, i1⟩, fun z hz y hy => ?_, i3, fun y hy => ?_⟩
      · rcases List.mem_cons.1 hz with rfl | hz
        · have := i4 y hy; omega
        · exact i2 z hz y hy
      · have := i4 y hy; omega
    · rintro ⟨⟨c1, c2, c3⟩, h2, h3, h4⟩
      refine ⟨c1, c2, ih.2 ⟨c3, fun z hz => h2 z (List.mem_cons_of_mem _ hz), h3, fun y hy => ?_⟩⟩
      have := h2 x (List.mem_cons_self ..) y hy
      omega
theorem can_wf : ∀ (b : List Sp) (lo : Int), CanFrom lo b → ∀ y ∈ b, lo ≤ y.1 ∧ y.1 ≤ y.2
  | [], _, _, y, hy => by simp at hy
  | z :: t, lo, c, y, hy => by
    rcases List.mem_cons.1 hy with rfl | hy
    · exact ⟨c.1, c.2.1⟩
    · have := can_wf t _ c.2.2 y hy
      have := c.1; have := c.2.1
      exact ⟨by omega, by omega⟩
end Go.Proofs.YtbimdjciacnioaaDoor.Canon
end

section
set_option linter.unusedVariables false
set_option linter.unusedSimpArgs false
namespace Go.Proofs.YtbimdjciacnioaaDoor.Q
open Go.RowKit Go.Proofs.YtbimdjciacnioaaDoorW.PrintWords Go.Proofs.YtbimdjciacnioaaDoorW.PrintLast Go.Proofs.YtbimdjciacnioaaDoorW.PrintMore Go.Proofs.YtbimdjciacnioaaDoor.Canon
abbrev Sn := S33
def sp (x : Sn) : Sp := (x.f0, x.f1)
theorem sp_inj {x y : Sn} (h : sp x = sp y) : x = y := by
  cases x; cases y
  simp [sp] at h
  simp [h.1, h.2]
def SM (l : List Sn) (n : Int) : Prop := Mem (l.map sp) n
theorem sm_cons (x : Sn) (t : List Sn) (n : Int) : SM (x :: t) n ↔ (x.f0 ≤ n ∧ n ≤ x.f1) ∨ SM t n := by unfold SM; rw [List.map_cons, mem_cons]; rfl
theorem sm_nil (n : Int) : SM [] n ↔ False := mem_nil n
theorem sm_append (a b : List Sn) (n : Int) : SM (a ++ b) n ↔ SM a n ∨ SM b n := by unfold SM; rw [List.map_append, mem_append]
theorem sm_iff (l : List Sn) (n : Int) : SM l n ↔ ∃ x ∈ l, x.f0 ≤ n ∧ n ≤ x.f1 := by
  unfold SM Mem
  constructor
  · rintro ⟨y, hy, h⟩
    obtain ⟨x, hx, rfl⟩ := List.mem_map.1 hy
    exact ⟨x, hx, h⟩
  · rintro ⟨x, hx, h⟩
    exact ⟨sp x, List.mem_map.2 ⟨x, hx, rfl⟩, h⟩
def Can (P : Int → Prop) (r : List Sn) : Prop := CanFrom 0 (r.map sp) ∧ (∀ x ∈ r, x.f1 ≤ 4294967296) ∧ ∀ n, SM r n ↔ P n
theorem map_sp_inj : ∀ {a b : List Sn}, a.map sp = b.map sp → a = b
  | [], [], _ => rfl
  | [], y :: t, h => by simp at h
  | x :: s, [], h => by simp at h
  | x :: s, y :: t, h => by
    simp only [List.map_cons, List.cons.injEq] at h
    rw [sp_inj h.1, map_sp_inj h.2]
theorem Can.uniq {P : Int → Prop} {a b : List Sn} (ha : Can P a) (hb : Can P b) : a = b :=
  map_sp_inj (Canon.uniq _ _ 0 ha.1 hb.1 (fun n => (ha.2.2 n).trans (hb.2.2 n).symm))
theorem Can.congr {P Q : Int → Prop} {r : List Sn} (h : Can P r) (e : ∀ n, P n ↔ Q n) : Can Q r := ⟨h.1, h.2.1, fun n => (h.2.2 n).trans (e n)⟩
theorem Can.wf {P : Int → Prop} {r : List Sn} (h : Can P r) : ∀ x ∈ r, 0 ≤ x.f0 ∧ x.f0 ≤ x.f1 ∧ x.f1 ≤ 4294967296 := fun x hx => by
  have := can_wf _ _ h.1 (sp x) (List.mem_map.2 ⟨x, hx, rfl⟩)
  exact ⟨this.1, this.2, h.2.1 x hx⟩
theorem Can.range {P : Int → Prop} {r : List Sn} (h : Can P r) (n : Int) (hn : P n) : 0 ≤ n ∧ n ≤ 4294967296 := by
  obtain ⟨x, hx, h1, h2⟩ := (sm_iff r n).1 ((h.2.2 n).2 hn)
  have := h.wf x hx
  omega
theorem rd_at (l : List Sn) (i : Nat) (h : i < l.length) : rd_T33 l (i : Int) = l[i] := by
  simp [rd_T33, List.getD_eq_getElem?_getD, List.getElem?_eq_getElem h]
theorem wrap_id {x : Int} (h0 : -9223372036854775808 ≤ x) (h1 : x ≤ 9223372036854775807) : wrap64 x = x := by unfold wrap64; omega
theorem wrap_succ (i : Nat) (h : i < 9223372036854775807) : wrap64 ((i : Int) + 1) = ((i + 1 : Nat) : Int) := by rw [wrap_id (by omega) (by omega)]; simp
theorem drop_cons {α : Type} (l : List α) (i : Nat) (h : i < l.length) : l.drop i = l[i] :: l.drop (i + 1) := (List.drop_eq_getElem_cons h)
theorem ev_cutp (a b : Int) : interval_cut_1.f a b = some (decide (a ≤ b)) := by unfold interval_cut_1.f; simp
theorem ev_sel (L : List Sn) (hl : L.length < 8796093022208) : ∀ (d i : Nat) (out : List Sn), L.length - i = d → i ≤ L.length → out.length ≤ i → Ev (fun k => interval_selected_at_interval_cut_1.l0 k out L (L.length : Int) (i : Int)) (out ++ (L.drop i).filter (fun x => decide (x.f0 ≤ x.f1))) := by
  intro d
  induction d with
  | zero =>
    intro i out hd hi ho
    have : i = L.length := by omega
    subst this
    refine Ev.step (f := fun _ => some out) (fun k => ?_) ?_
    · simp only [interval_selected_at_interval_cut_1.l0]; rw [if_neg (by omega)]
    · simpa using Ev.now out
  | succ d ih =>
    intro i out hd hi ho
    have hlt : i < L.length := by omega
    rw [drop_cons L i hlt, List.filter_cons]
    by_cases hc : L[i].f0 ≤ L[i].f1
    · rw [if_pos (by simpa using hc)]
      have h2 := ih (i + 1) (out ++ [L[i]]) (by omega) (by omega) (by simp; omega)
      rw [List.append_assoc] at h2
      refine Ev.step (fun k => ?_) h2
      simp only [interval_selected_at_interval_cut_1.l0]
      rw [if_pos (by omega), if_pos (by omega), if_pos (by omega), rd_at L i hlt, ev_cutp]
      simp only [Option.bind_some]
      rw [if_pos (by simpa using hc), if_pos (by omega), wrap_succ i (by omega)]
    · rw [if_neg (by simpa using hc)]
      refine Ev.step (fun k => ?_) (ih (i + 1) out (by omega) (by omega) (by omega))
      simp only [interval_selected_at_interval_cut_1.l0]
      rw [if_pos (by omega), if_pos (by omega), if_pos (by omega), rd_at L i hlt, ev_cutp]
      simp only [Option.bind_some]
      rw [if_neg (by simpa using hc), wrap_succ i (by omega)]
def clip (lo hi : Int) (x : Sn) : Sn := ⟨mx x.f0 lo, mn x.f1 hi⟩
theorem ev_cut0 (L : List Sn) (lo hi : Int) (hl : L.length < 8796093022208) : ∀ (d i : Nat) (out : List Sn), L.length - i = d → i ≤ L.length → out.length = i → Ev (fun k => interval_cut.l0 k lo hi out L (L.length : Int) (i : Int)) ((out ++ (L.drop i).map (clip lo hi)).filter (fun x => decide (x.f0 ≤ x.f1))) := by
  intro d
  induction d with
  | zero =>
    intro i out hd hle ho
    have : i = L.length := by omega
    subst this
    refine Ev.step (f := fun k => (interval_selected_at_interval_cut_1.f k out).bind fun t => some t) (fun k => ?_) ?_
    · simp only [interval_cut.l0]; rw [if_neg (by omega)]
    · refine Ev.bind (a := out.filter (fun x => decide (x.f0 ≤ x.f1))) ?_ ?_
      · have := ev_sel out (by omega) out.length 0 [] (by omega) (by omega) (by simp)
        simpa [interval_selected_at_interval_cut_1.f] using this
      · simpa using Ev.now _
  | succ d ih =>
    intro i out hd hle ho
    have hlt : i < L.length := by omega
    have h2 := ih (i + 1) (out ++ [clip lo hi L[i]]) (by omega) (by omega) (by simp; omega)
    rw [List.append_assoc] at h2
    rw [drop_cons L i hlt, List.map_cons]
    refine Ev.step (fun k => ?_) h2
    simp only [interval_cut.l0]
    rw [if_pos (by omega), if_pos (by omega), if_pos (by omega), rd_at L i hlt, if_pos (by omega), wrap_succ i (by omega)]
    rfl
def clipped (lo hi : Int) (L : List Sn) : List Sn := (L.map (clip lo hi)).filter (fun x => decide (x.f0 ≤ x.f1))
theorem ev_cut (L : List Sn) (lo hi : Int) (hl : L.length < 8796093022208) : Ev (fun k => interval_cut.f k L lo hi) (clipped lo hi L) := by
  have h := ev_cut0 L lo hi hl L.length 0 [] (by omega) (by omega) rfl
  refine Ev.congr (fun k => ?_) h
  unfold interval_cut.f
  rw [if_pos (by omega), if_pos (by omega)]
  rfl
theorem clipped_spec (L : List Sn) : (clipped 0 4294967296 L).length ≤ L.length ∧ (∀ x ∈ clipped 0 4294967296 L, 0 ≤ x.f0 ∧ x.f0 ≤ x.f1 ∧ x.f1 ≤ 4294967296) ∧ ∀ n, SM (clipped 0 4294967296 L) n ↔ SM L n ∧ 0 ≤ n ∧ n ≤ 4294967296 := by
  refine ⟨?_, ?_, ?_⟩
  · unfold clipped
    refine Nat.le_trans (List.length_filter_le _ _) (by simp)
  · intro x hx
    unfold clipped at hx
    obtain ⟨h1, h2⟩ := List.mem_filter.1 hx
    obtain ⟨y, hy, rfl⟩ := List.mem_map.1 h1
    have h3 := of_decide_eq_true h2
    simp only [clip, mx, mn] at h3 ⊢
    refine ⟨?_, h3, ?_⟩
    · split <;> omega
    · split <;> omega
  · intro n
    rw [sm_iff, sm_iff]
    unfold clipped
    constructor
    · rintro ⟨x, hx, h1, h2⟩
      obtain ⟨h3, h4⟩ := List.mem_filter.1 hx
      obtain ⟨y, hy, rfl⟩ := List.mem_map.1 h3
      simp only [clip, mx, mn] at h1 h2
      refine ⟨⟨y, hy, ?_, ?_⟩, ?_, ?_⟩
      · split at h1 <;> omega
      · split at h2 <;> omega
      · split at h1 <;> omega
      · split at h2 <;> omega
    · rintro ⟨⟨y, hy, h1, h2⟩, h3, h4⟩
      refine ⟨clip 0 4294967296 y, List.mem_filter.2 ⟨List.mem_map.2 ⟨y, hy, rfl⟩, ?_⟩, ?_, ?_⟩
      · refine decide_eq_true ?_
        simp only [clip, mx, mn]
        split <;> split <;> omega
      · simp only [clip, mx]
        split <;> omega
      · simp only [clip, mn]
        split <;> omega
def mrg (out : List Sn) (x : Sn) : List Sn :=
  if h : 0 < out.length then (if x.f0 ≤ (out[out.length - 1]'(by omega)).f1 + 1 then out.set (out.length - 1) ⟨(out[out.length - 1]'(by omega)).f0, mx (out[out.length - 1]'(by omega)).f1 x.f1⟩ else out ++ [x]) else out ++ [x]
theorem mrg_nil (x : Sn) : mrg [] x = [x] := by simp [mrg]
theorem mrg_snoc (i : List Sn) (y x : Sn) : mrg (i ++ [y]) x = if x.f0 ≤ y.f1 + 1 then i ++ [(⟨y.f0, mx y.f1 x.f1⟩ : Sn)] else i ++ [y] ++ [x] := by
  have hl : (i ++ [y]).length - 1 = i.length := by simp
  have hg : (i ++ [y])[(i ++ [y]).length - 1]'(by simp) = y := by simp
  unfold mrg
  rw [dif_pos (by simp)]
  rw [hg, hl]
  split
  · simp
  · rfl
theorem mrg_len (out : List Sn) (x : Sn) : out.length ≤ (mrg out x).length ∧ (mrg out x).length ≤ out.length + 1 := by
  unfold mrg
  split
  · split <;> simp
  · simp
theorem fold_len : ∀ (L out : List Sn), (L.foldl mrg out).length ≤ out.length + L.length
  | [], out => by simp
  | x :: t, out => by
    have h1 := fold_len t (mrg out x)
    have h2 := (mrg_len out x).2
    simp only [List.foldl_cons, List.length_cons]
    omega
def WF (x : Sn) : Prop := 0 ≤ x.f0 ∧ x.f0 ≤ x.f1 ∧ x.f1 ≤ 4294967296
theorem ev_nl (L : List Sn) (hl : L.length < 8796093022208) (hL : ∀ x ∈ L, WF x) : ∀ (d i : Nat) (out : List Sn), L.length - i = d → i ≤ L.length → out.length ≤ i → (∀ x ∈ out, WF x) → Ev (fun k => interval_Normal.l0 k out L (L.length : Int) (i : Int)) ((L.drop i).foldl mrg out) := by
  intro d
  induction d with
  | zero =>
    intro i out hd hi ho _
    have : i = L.length := by omega
    subst this
    refine Ev.step (f := fun _ => some out) (fun k => ?_) ?_
    · simp only [interval_Normal.l0]; rw [if_neg (by omega)]
    · simpa using Ev.now out
  | succ d ih =>
    intro i out hd hi ho hw
    have hlt : i < L.length := by omega
    have hx := hL L[i] (List.getElem_mem hlt)
    rw [drop_cons L i hlt, List.foldl_cons]
    have hm : ∀ x ∈ mrg out L[i], WF x := by
      rcases List.eq_nil_or_concat out with rfl | ⟨j, y, rfl⟩
      · rw [mrg_nil]; intro x h; rw [List.mem_singleton.1 h]; exact hx
      · have hy := hw y (by simp)
        rw [List.concat_eq_append, mrg_snoc]
        split
        · intro x h
          rcases List.mem_append.1 h with h | h
          · exact hw x (by simp [h])
          · rw [List.mem_singleton.1 h]
            obtain ⟨y1, y2, y3⟩ := hy
            obtain ⟨x1, x2, x3⟩ := hx
            refine ⟨y1, ?_, ?_⟩ <;> simp only [mx] <;> split <;> omega
        · intro x h
          rcases List.mem_append.1 h with h | h
          · exact hw x (by rw [List.concat_eq_append]; exact h)
          · rw [List.mem_singleton.1 h]; exact hx
    have h2 := ih (i + 1) (mrg out L[i]) (by omega) (by omega) (by have := (mrg_len out L[i]).2; omega) hm
    refine Ev.step (fun k => ?_) h2
    simp only [interval_Normal.l0]
    rw [if_pos (by omega), if_pos (by omega), if_pos (by omega), rd_at L i hlt]
    by_cases h0 : 0 < out.length
    · have hy := hw (out[out.length - 1]'(by omega)) (List.getElem_mem _)
      rw [if_pos (by omega), show wrap64 ((out.length : Int) - 1) = ((out.length - 1 : Nat) : Int) from by rw [wrap_id (by omega) (by omega)]; omega, if_pos (by omega), if_pos (by omega), rd_at out (out.length - 1) (by omega)]
      obtain ⟨y1, y2, y3⟩ := hy
      rw [wrap_id (x := (out[out.length - 1]'(by omega)).f1 + 1) (by omega) (by omega), wrap_succ i (by omega)]
      unfold mrg
      rw [dif_pos h0]
      split
      · rfl
      · rw [if_pos (by omega)]
    · rw [if_neg (by omega), if_pos (by omega), wrap_succ i (by omega)]
      unfold mrg
      rw [dif_neg h0]
theorem mrg_spec : ∀ (L i : List Sn) (y : Sn), (∀ x ∈ L, WF x) → L.Pairwise (fun a b => a.f0 ≤ b.f0) → (∀ x ∈ L, y.f0 ≤ x.f0) → WF y → CanFrom 0 ((i ++ [y]).map sp) → (∀ x ∈ i ++ [y], x.f1 ≤ 4294967296) → Can (fun n => SM (i ++ [y]) n ∨ SM L n) (L.foldl mrg (i ++ [y]))
  | [], i, y, _, _, _, _, hc, hm => by
    refine ⟨hc, hm, fun n => ?_⟩
    simp [sm_nil]
  | x :: t, i, y, hL, hp, hy, hwy, hc, hm => by
    have hx := hL x (List.mem_cons_self ..)
    have ht : ∀ z ∈ t, WF z := fun z hz => hL z (List.mem_cons_of_mem _ hz)
    obtain ⟨p1, p2⟩ := List.pairwise_cons.1 hp
    rw [List.foldl_cons, mrg_snoc]
    have hxy := hy x (List.mem_cons_self ..)
    rw [List.map_append, can_append] at hc
    obtain ⟨c1, c2, _, c4⟩ := hc
    simp only [List.map_cons, List.map_nil, List.mem_singleton, forall_eq] at c2 c4
    obtain ⟨w1, w2, w3⟩ := hwy
    obtain ⟨x1, x2, x3⟩ := hx
    split
    · rename_i hj
      have hmx : y.f1 ≤ mx y.f1 x.f1 ∧ x.f1 ≤ mx y.f1 x.f1 ∧ mx y.f1 x.f1 ≤ 4294967296 ∧ (mx y.f1 x.f1 = y.f1 ∨ mx y.f1 x.f1 = x.f1) := by
        simp only [mx]
        split <;> omega
      generalize mx y.f1 x.f1 = m at hmx
      have h := mrg_spec t i ⟨y.f0, m⟩ ht p2 (fun z hz => Int.le_trans hxy (p1 z hz)) ⟨w1, by simp; omega, hmx.2.2.1⟩ (by
        rw [List.map_append, can_append]
        refine ⟨c1, ?_, ⟨y.f0, by simp [sp, CanFrom]; omega⟩, ?_⟩
        · intro z hz u hu
          simp only [List.map_cons, List.map_nil, List.mem_singleton] at hu
          subst hu
          exact c2 z hz
        · intro u hu
          simp only [List.map_cons, List.map_nil, List.mem_singleton] at hu
          subst hu
          exact c4) (by
        intro z hz
        rcases List.mem_append.1 hz with hz | hz
        · exact hm z (by simp [hz])
        · rw [List.mem_singleton.1 hz]; exact hmx.2.2.1)
      refine h.congr (fun n => ?_)
      rw [sm_append, sm_append, sm_cons, sm_cons, sm_cons, sm_nil]
      simp only [or_false]
      constructor
      · rintro ((h | h) | h)
        · exact .inl (.inl h)
        · by_cases hn : n ≤ y.f1
          · exact .inl (.inr ⟨h.1, hn⟩)
          · exact .inr (.inl ⟨by omega, by have h3 : n ≤ m := h.2; omega⟩)
        · exact .inr (.inr h)
      · rintro ((h | h) | h | h)
        · exact .inl (.inl h)
        · exact .inl (.inr ⟨h.1, show n ≤ m from by omega⟩)
        · exact .inl (.inr ⟨show y.f0 ≤ n from by omega, show n ≤ m from by omega⟩)
        · exact .inr h
    · rename_i hj
      have h := mrg_spec t (i ++ [y]) x ht p2 p1 ⟨x1, x2, x3⟩ (by
        rw [List.map_append, can_append]
        refine ⟨?_, ?_, ⟨x.f0, by simp [sp, CanFrom]; omega⟩, ?_⟩
        · rw [List.map_append, can_append]
          refine ⟨c1, ?_, ⟨y.f0, by simp [sp, CanFrom]; omega⟩, ?_⟩
          · intro z hz u hu
            simp only [List.map_cons, List.map_nil, List.mem_singleton] at hu
            subst hu
            exact c2 z hz
          · intro u hu
            simp only [List.map_cons, List.map_nil, List.mem_singleton] at hu
            subst hu
            exact c4
        · intro z hz u hu
          simp only [List.map_cons, List.map_nil, List.mem_singleton] at hu
          subst hu
          rw [List.map_append] at hz
          rcases List.mem_append.1 hz with hz | hz
          · have := c2 z hz
            simp only [sp] at this ⊢
            omega
          · simp only [List.map_cons, List.map_nil, List.mem_singleton] at hz
            subst hz
            simp only [sp]
            omega
        · intro u hu
          simp only [List.map_cons, List.map_nil, List.mem_singleton] at hu
          subst hu
          exact x1) (by
        intro z hz
        rcases List.mem_append.1 hz with hz | hz
        · exact hm z hz
        · rw [List.mem_singleton.1 hz]; exact x3)
      refine h.congr (fun n => ?_)
      rw [sm_append (i ++ [y]) [x], sm_cons x t, sm_cons x [], sm_nil]
      simp only [or_false, or_assoc]
theorem merge_spec (L : List Sn) (hL : ∀ x ∈ L, WF x) (hp : L.Pairwise (fun a b => a.f0 ≤ b.f0)) : Can (SM L) (L.foldl mrg []) := by
  cases L with
  | nil => exact ⟨trivial, by simp, fun n => Iff.rfl⟩
  | cons x t =>
    obtain ⟨p1, p2⟩ := List.pairwise_cons.1 hp
    have hx := hL x (List.mem_cons_self ..)
    have h := mrg_spec t [] x (fun z hz => hL z (List.mem_cons_of_mem _ hz)) p2 p1 hx ⟨hx.1, hx.2.1, trivial⟩ (by simp; exact hx.2.2)
    rw [List.foldl_cons, mrg_nil]
    refine h.congr (fun n => ?_)
    rw [List.nil_append, sm_cons, sm_cons, sm_nil, or_false]
theorem normal_spec (l : List Sn) (hl : l.length < 8796093022208) : ∃ r, Ev (fun k => interval_Normal.f k l) r ∧ Can (fun n => SM l n ∧ 0 ≤ n ∧ n ≤ 4294967296) r ∧ r.length ≤ l.length := by
  obtain ⟨c1, c2, c3⟩ := clipped_spec l
  obtain ⟨s1, s2, s3⟩ := sortSpans_spec (clipped 0 4294967296 l)
  have hw : ∀ x ∈ sortSpans (clipped 0 4294967296 l), WF x := fun x hx => c2 x (s2.mem_iff.1 hx)
  refine ⟨(sortSpans (clipped 0 4294967296 l)).foldl mrg [], ?_, ?_, ?_⟩
  · refine Ev.congr (fun k => by unfold interval_Normal.f; rfl) (Ev.bind (ev_cut l 0 4294967296 hl) (Ev.bind (g := fun _ => sort_Span.f (clipped 0 4294967296 l)) (a := sortSpans (clipped 0 4294967296 l)) ?_ ?_))
    · refine Ev.congr (fun k => ?_) (Ev.now _)
      unfold sort_Span.f
      rw [if_pos (by omega)]
    · have h := ev_nl (sortSpans (clipped 0 4294967296 l)) (by omega) hw _ 0 [] rfl (Nat.zero_le _) (Nat.le_refl _) (by simp)
      rw [s1] at h
      simpa using h
  · refine (merge_spec _ hw s3).congr (fun n => ?_)
    rw [← c3 n, sm_iff, sm_iff]
    constructor
    · rintro ⟨x, hx, h⟩
      exact ⟨x, s2.mem_iff.1 hx, h⟩
    · rintro ⟨x, hx, h⟩
      exact ⟨x, s2.mem_iff.2 hx, h⟩
  · have := fold_len (sortSpans (clipped 0 4294967296 l)) []
    simp at this
    omega
end Go.Proofs.YtbimdjciacnioaaDoor.Q
end

section
set_option linter.unusedVariables false
set_option linter.unusedSimpArgs false
namespace Go.Proofs.YtbimdjciacnioaaDoor.Q
open Go.RowKit Go.Proofs.YtbimdjciacnioaaDoorW.PrintWords Go.Proofs.YtbimdjciacnioaaDoorW.PrintLast Go.Proofs.YtbimdjciacnioaaDoorW.PrintMore Go.Proofs.YtbimdjciacnioaaDoor.Canon
def minS (c x : Sn) : Sn := if x.f0 < c.f0 then x else c
theorem min_spec (W : List Sn) : ∀ (T : List Sn) (c : Sn), (∀ x ∈ T, x ∈ W) → c ∈ W → (T.foldl minS c) ∈ W ∧ (T.foldl minS c).f0 ≤ c.f0 ∧ ∀ x ∈ T, (T.foldl minS c).f0 ≤ x.f0
  | [], c, _, hc => ⟨hc, Int.le_refl _, by simp⟩
  | x :: t, c, hT, hc => by
    have hm : minS c x ∈ W := by
      unfold minS
      split
      · exact hT x (List.mem_cons_self ..)
      · exact hc
    obtain ⟨h1, h2, h3⟩ := min_spec W t (minS c x) (fun z hz => hT z (List.mem_cons_of_mem _ hz)) hm
    have h4 : (minS c x).f0 ≤ c.f0 ∧ (minS c x).f0 ≤ x.f0 := by unfold minS; split <;> constructor <;> omega
    refine ⟨h1, Int.le_trans h2 h4.1, fun z hz => ?_⟩
    rcases List.mem_cons.1 hz with rfl | hz
    · exact Int.le_trans h2 h4.2
    · exact h3 z hz
theorem ev_min {r : Int × Int × List Sn} (W : List Sn) (hl : W.length < 8796093022208) : ∀ (d i : Nat) (c : Sn), W.length - i = d → i ≤ W.length → Ev (fun k => intrusionref05_least.l1 k W true ((W.drop i).foldl minS c).f0 ((W.drop i).foldl minS c).f1) r → Ev (fun k => intrusionref05_least.l0 k W (i : Int) c.f0 c.f1) r := by
  intro d
  induction d with
  | zero =>
    intro i c hd hi h
    have : i = W.length := by omega
    subst this
    refine Ev.step (fun k => ?_) h
    simp only [intrusionref05_least.l0]
    rw [if_neg (by omega)]
    simp
  | succ d ih =>
    intro i c hd hi h
    have hlt : i < W.length := by omega
    rw [drop_cons W i hlt, List.foldl_cons] at h
    refine Ev.step (fun k => ?_) (ih (i + 1) (minS c W[i]) (by omega) (by omega) h)
    simp only [intrusionref05_least.l0]
    rw [if_pos (by omega), if_pos (by omega), rd_at W i hlt, wrap_succ i (by omega)]
    unfold minS
    split <;> rfl
def pass (s : Int × Bool) (x : Sn) : Int × Bool := if x.f0 ≤ s.1 + 1 ∧ x.f1 > s.1 then (x.f1, true) else s
theorem pass_spec (a : Int) (W : List Sn) (hW : ∀ x ∈ W, WF x) : ∀ (T : List Sn) (s : Int × Bool), (∀ x ∈ T, x ∈ W) → 0 ≤ s.1 → s.1 ≤ 4294967296 → (∀ n, a ≤ n → n ≤ s.1 → SM W n) →
    s.1 ≤ (T.foldl pass s).1 ∧ (T.foldl pass s).1 ≤ 4294967296 ∧ (∀ n, a ≤ n → n ≤ (T.foldl pass s).1 → SM W n) ∧ ((T.foldl pass s).2 = false → (T.foldl pass s).1 = s.1 ∧ ∀ x ∈ T, ¬ (x.f0 ≤ s.1 + 1 ∧ x.f1 > s.1)) ∧
    ((T.foldl pass s).1 = s.1 ∨ ∃ x ∈ T, x.f1 = (T.foldl pass s).1) ∧ ((T.foldl pass s).2 = true → s.2 = true ∨ s.1 < (T.foldl pass s).1) ∧ ((T.foldl pass s).2 = false → s.2 = false)
  | [], s, _, h0, h1, hc => ⟨Int.le_refl _, h1, hc, fun _ => ⟨rfl, by simp⟩, .inl rfl, fun h => .inl h, fun h => h⟩
  | x :: t, s, hT, h0, h1, hc => by
    have hx := hT x (List.mem_cons_self ..)
    have wx := hW x hx
    have ht := fun z hz => hT z (List.mem_cons_of_mem _ hz)
    rw [List.foldl_cons]
    by_cases hp : x.f0 ≤ s.1 + 1 ∧ x.f1 > s.1
    · have e : pass s x = (x.f1, true) := by unfold pass; rw [if_pos hp]
      rw [e]
      obtain ⟨i1, i2, i3, i4, i5, i6, i7⟩ := pass_spec a W hW t (x.f1, true) ht (by have := wx.1; have := wx.2.1; simp; omega) wx.2.2 (fun n n1 n2 => by
        by_cases hn : n ≤ s.1
        · exact hc n n1 hn
        · exact (sm_iff W n).2 ⟨x, hx, by omega, n2⟩)
      simp only at i1 i2 i3 i4 i5 i6 i7
      refine ⟨by omega, i2, i3, fun h => ?_, ?_, fun _ => .inr (by omega), fun h => by simpa using i7 h⟩
      · have := i7 h
        simp at this
      · rcases i5 with e5 | ⟨z, hz, e5⟩
        · exact .inr ⟨x, List.mem_cons_self .., e5.symm⟩
        · exact .inr ⟨z, List.mem_cons_of_mem _ hz, e5⟩
    · have e : pass s x = s := by unfold pass; rw [if_neg hp]
      rw [e]
      obtain ⟨i1, i2, i3, i4, i5, i6, i7⟩ := pass_spec a W hW t s ht h0 h1 hc
      refine ⟨i1, i2, i3, fun h => ⟨(i4 h).1, fun z hz => ?_⟩, ?_, i6, i7⟩
      · rcases List.mem_cons.1 hz with rfl | hz
        · exact hp
        · exact (i4 h).2 z hz
      · rcases i5 with e5 | ⟨z, hz, e5⟩
        · exact .inl e5
        · exact .inr ⟨z, List.mem_cons_of_mem _ hz, e5⟩
theorem ev_pass {r : Int × Int × List Sn} (a : Int) (W : List Sn) (hl : W.length < 8796093022208) (hW : ∀ x ∈ W, WF x) : ∀ (d i : Nat) (s : Int × Bool), W.length - i = d → i ≤ W.length → 0 ≤ s.1 → s.1 ≤ 4294967296 →
    Ev (fun k => intrusionref05_least.l1 k W ((W.drop i).foldl pass s).2 a ((W.drop i).foldl pass s).1) r → Ev (fun k => intrusionref05_least.l2 k W s.2 (i : Int) a s.1) r := by
  intro d
  induction d with
  | zero =>
    intro i s hd hi h0 h1 h
    have : i = W.length := by omega
    subst this
    refine Ev.step (fun k => ?_) h
    simp only [intrusionref05_least.l2]
    rw [if_neg (by omega)]
    simp
  | succ d ih =>
    intro i s hd hi h0 h1 h
    have hlt : i < W.length := by omega
    have wx := hW W[i] (List.getElem_mem hlt)
    rw [drop_cons W i hlt, List.foldl_cons] at h
    have hr : 0 ≤ (pass s W[i]).1 ∧ (pass s W[i]).1 ≤ 4294967296 := by
      unfold pass
      split
      · exact ⟨by have := wx.1; have := wx.2.1; simp; omega, wx.2.2⟩
      · exact ⟨h0, h1⟩
    refine Ev.step (fun k => ?_) (ih (i + 1) (pass s W[i]) (by omega) (by omega) hr.1 hr.2 h)
    simp only [intrusionref05_least.l2]
    rw [if_pos (by omega), if_pos (by omega), rd_at W i hlt, wrap_succ i (by omega), wrap_id (by omega) (by omega)]
    unfold pass
    by_cases c1 : W[i].f0 ≤ s.1 + 1
    · by_cases c2 : W[i].f1 > s.1
      · rw [if_pos c1, if_pos c2, if_pos ⟨c1, c2⟩]
      · rw [if_pos c1, if_neg c2, if_neg (fun h => c2 h.2)]
    · rw [if_neg c1, if_neg (fun h => c1 h.1)]
theorem ev_rest (a b : Int) (W : List Sn) (hl : W.length < 8796093022208) : ∀ (d i : Nat) (out : List Sn), W.length - i = d → i ≤ W.length → out.length ≤ i → Ev (fun k => intrusionref05_least.l3 k W out (i : Int) a b) (a, b, out ++ (W.drop i).filter (fun x => decide (b < x.f0))) := by
  intro d
  induction d with
  | zero =>
    intro i out hd hi ho
    have : i = W.length := by omega
    subst this
    refine Ev.step (f := fun _ => some (a, b, out)) (fun k => ?_) ?_
    · simp only [intrusionref05_least.l3]; rw [if_neg (by omega)]
    · simpa using Ev.now (a, b, out)
  | succ d ih =>
    intro i out hd hi ho
    have hlt : i < W.length := by omega
    rw [drop_cons W i hlt, List.filter_cons]
    by_cases hc : b < W[i].f0
    · rw [if_pos (by simpa using hc)]
      have h2 := ih (i + 1) (out ++ [W[i]]) (by omega) (by omega) (by simp; omega)
      rw [List.append_assoc] at h2
      refine Ev.step (fun k => ?_) h2
      simp only [intrusionref05_least.l3]
      rw [if_pos (by omega), if_pos (by omega), rd_at W i hlt, if_pos (by omega), if_pos (by omega), wrap_succ i (by omega)]
    · rw [if_neg (by simpa using hc)]
      refine Ev.step (fun k => ?_) (ih (i + 1) out (by omega) (by omega) (by omega))
      simp only [intrusionref05_least.l3]
      rw [if_pos (by omega), if_pos (by omega), rd_at W i hlt, if_neg (by omega), wrap_succ i (by omega)]
theorem count_lt {h h' : Int} (hlt : h < h') : ∀ (W : List Sn), (∃ x ∈ W, x.f1 = h') → (W.countP fun x => decide (h' < x.f1)) < (W.countP fun x => decide (h < x.f1))
  | [], hx => by simp at hx
  | y :: t, hx => by
    have hle : ∀ T : List Sn, (T.countP fun x => decide (h' < x.f1)) ≤ (T.countP fun x => decide (h < x.f1)) := fun T => List.countP_mono_left (fun x _ hp => by simp at hp ⊢; omega)
    rw [List.countP_cons, List.countP_cons]
    obtain ⟨x, hx, e⟩ := hx
    rcases List.mem_cons.1 hx with rfl | hx
    · have := hle t
      rw [if_neg (by simp; omega), if_pos (by simp; omega)]
      omega
    · have h1 := count_lt hlt t ⟨x, hx, e⟩
      by_cases c : h' < y.f1
      · rw [if_pos (by simpa using c), if_pos (by simp; omega)]
        omega
      · rw [if_neg (by simpa using c)]
        omega
theorem fix_spec (a : Int) (W : List Sn) (hl : W.length < 8796093022208) (hW : ∀ x ∈ W, WF x) : ∀ (c : Nat) (hi : Int), (W.countP fun x => decide (hi < x.f1)) = c → 0 ≤ hi → hi ≤ 4294967296 → (∀ n, a ≤ n → n ≤ hi → SM W n) →
    ∃ b, hi ≤ b ∧ b ≤ 4294967296 ∧ Ev (fun k => intrusionref05_least.l1 k W true a hi) (a, b, W.filter (fun x => decide (b < x.f0))) ∧ (∀ n, a ≤ n → n ≤ b → SM W n) ∧ ∀ x ∈ W, x.f0 ≤ b + 1 → x.f1 ≤ b := by
  intro c
  induction c using Nat.strongRecOn with
  | _ c ih =>
    intro hi hc h0 h1 hcov
    obtain ⟨p1, p2, p3, p4, p5, p6, p7⟩ := pass_spec a W hW W (hi, false) (fun _ h => h) h0 h1 hcov
    simp only at p1 p2 p3 p4 p5 p6 p7
    have hgo : ∀ {r : Int × Int × List Sn}, Ev (fun k => intrusionref05_least.l1 k W (W.foldl pass (hi, false)).2 a (W.foldl pass (hi, false)).1) r → Ev (fun k => intrusionref05_least.l1 k W true a hi) r := by
      intro r h
      have h2 := ev_pass a W hl hW W.length 0 (hi, false) (by omega) (by omega) h0 h1 (by simpa using h)
      refine Ev.step (fun k => ?_) h2
      simp only [intrusionref05_least.l1]
      rfl
    cases hb : (W.foldl pass (hi, false)).2 with
    | true =>
      have hlt : hi < (W.foldl pass (hi, false)).1 := by
        rcases p6 hb with h | h
        · simp at h
        · exact h
      have hex : ∃ x ∈ W, x.f1 = (W.foldl pass (hi, false)).1 := by
        rcases p5 with h | h
        · omega
        · exact h
      obtain ⟨b, b1, b2, b3, b4, b5⟩ := ih _ (by rw [← hc]; exact count_lt hlt W hex) (W.foldl pass (hi, false)).1 rfl (by omega) p2 p3
      refine ⟨b, by omega, b2, hgo ?_, b4, b5⟩
      rw [hb]
      exact b3
    | false =>
      obtain ⟨e1, e2⟩ := p4 hb
      refine ⟨hi, Int.le_refl _, h1, hgo ?_, hcov, fun x hx hle => ?_⟩
      · rw [hb, e1]
        have h3 := ev_rest a hi W hl W.length 0 [] (by omega) (by omega) (by simp)
        refine Ev.step (fun k => ?_) (by simpa using h3)
        simp only [intrusionref05_least.l1]
        rfl
      · have := e2 x hx
        omega
theorem least_spec (W : List Sn) (hl : W.length < 8796093022208) (hW : ∀ x ∈ W, WF x) (hne : 0 < W.length) :
    ∃ a b, (∃ x ∈ W, x.f0 = a) ∧ a ≤ b ∧ b ≤ 4294967296 ∧ Ev (fun k => intrusionref05_least.f k W) (a, b, W.filter (fun x => decide (b < x.f0))) ∧ (∀ n, a ≤ n → n ≤ b → SM W n) ∧ (∀ x ∈ W, a ≤ x.f0) ∧ ∀ x ∈ W, x.f0 ≤ b + 1 → x.f1 ≤ b := by
  obtain ⟨m1, m2, m3⟩ := min_spec W W W[0] (fun _ h => h) (List.getElem_mem hne)
  have wm := hW _ m1
  obtain ⟨b, b1, b2, b3, b4, b5⟩ := fix_spec (W.foldl minS W[0]).f0 W hl hW _ (W.foldl minS W[0]).f1 rfl (by have := wm.1; have := wm.2.1; omega) wm.2.2 (fun n n1 n2 => (sm_iff W n).2 ⟨_, m1, n1, n2⟩)
  refine ⟨(W.foldl minS W[0]).f0, b, ⟨_, m1, rfl⟩, by have := wm.2.1; omega, b2, ?_, b4, m3, b5⟩
  have h := ev_min W hl W.length 0 W[0] (by omega) (by omega) (by simpa using b3)
  refine Ev.congr (fun k => ?_) h
  unfold intrusionref05_least.f
  rw [if_pos (by omega), show rd_T33 W 0 = W[0] from rd_at W 0 hne]
  rfl
theorem rn_spec : ∀ (m : Nat) (W : List Sn), W.length = m → m < 8796093022208 → (∀ x ∈ W, WF x) →
    ∃ r : List Sn, (∀ out : List Sn, out.length + m < 8796093022208 → Ev (fun k => intrusionref05_Normal.l1 k W out) (out ++ r)) ∧ r.length ≤ m ∧ (∀ p, (∀ x ∈ W, p ≤ x.f0) → CanFrom p (r.map sp)) ∧ (∀ x ∈ r, x.f1 ≤ 4294967296) ∧ ∀ n, SM r n ↔ SM W n := by
  intro m
  induction m using Nat.strongRecOn with
  | _ m ih =>
    intro W hm hl hW
    by_cases hne : 0 < W.length
    · obtain ⟨a, b, ⟨x0, hx0, e0⟩, hab, hb, hev, hcov, hmin, hclo⟩ := least_spec W (by omega) hW hne
      have hlen : (W.filter (fun x => decide (b < x.f0))).length < W.length := by
        refine Nat.lt_of_le_of_ne (List.length_filter_le _ _) (fun e => ?_)
        have := List.length_filter_eq_length_iff.1 e x0 hx0
        simp at this
        omega
      obtain ⟨r, r1, r2, r3, r4, r5⟩ := ih _ (by omega) (W.filter (fun x => decide (b < x.f0))) rfl (by omega) (fun x hx => hW x ((List.mem_filter.1 hx).1))
      have hrest : ∀ x ∈ W.filter (fun x => decide (b < x.f0)), b + 2 ≤ x.f0 := by
        intro x hx
        obtain ⟨h1, h2⟩ := List.mem_filter.1 hx
        simp at h2
        have := (hW x h1).2.1
        have := hclo x h1
        omega
      refine ⟨(⟨a, b⟩ : Sn) :: r, fun out ho => ?_, by simp; omega, fun p hp => ⟨?_, hab, r3 (b + 2) hrest⟩, ?_, fun n => ?_⟩
      · have h2 := r1 (out ++ [(⟨a, b⟩ : Sn)]) (by simp; omega)
        rw [List.append_assoc] at h2
        refine Ev.step (f := fun k => (intrusionref05_least.f k W).bind fun bt => if out.length < 8796093022208 then intrusionref05_Normal.l1 k bt.2.2 (out ++ [(⟨bt.1, bt.2.1⟩ : Sn)]) else none) (fun k => ?_) (Ev.bind hev ?_)
        · simp only [intrusionref05_Normal.l1]
          rw [if_pos (by omega)]
        · refine Ev.congr (fun k => ?_) h2
          rw [if_pos (by omega)]
      · rw [← e0]; exact hp x0 hx0
      · intro x hx
        rcases List.mem_cons.1 hx with rfl | hx
        · exact hb
        · exact r4 x hx
      · rw [sm_cons, r5 n]
        constructor
        · rintro (h | h)
          · exact hcov n h.1 h.2
          · obtain ⟨x, hx, h⟩ := (sm_iff _ n).1 h
            exact (sm_iff _ n).2 ⟨x, (List.mem_filter.1 hx).1, h⟩
        · intro h
          obtain ⟨x, hx, h1, h2⟩ := (sm_iff _ n).1 h
          by_cases hc : x.f0 ≤ b + 1
          · exact .inl ⟨by have := hmin x hx; simp; omega, by have := hclo x hx hc; simp; omega⟩
          · exact .inr ((sm_iff _ n).2 ⟨x, List.mem_filter.2 ⟨hx, by simp; omega⟩, h1, h2⟩)
    · have h0 : W = [] := List.eq_nil_of_length_eq_zero (by omega)
      subst h0
      refine ⟨[], fun out ho => ?_, by simp, fun p hp => trivial, by simp, fun n => Iff.rfl⟩
      rw [List.append_nil]
      refine Ev.step (f := fun _ => some out) (fun k => ?_) (Ev.now _)
      simp only [intrusionref05_Normal.l1]
      rw [if_neg (by simp)]
theorem ev_rn0 {r : List Sn} (L : List Sn) (hl : L.length < 8796093022208) : ∀ (d i : Nat) (out : List Sn), L.length - i = d → i ≤ L.length → out.length ≤ i → Ev (fun k => intrusionref05_Normal.l1 k (out ++ clipped 0 4294967296 (L.drop i)) []) r → Ev (fun k => intrusionref05_Normal.l0 k L out (i : Int)) r := by
  intro d
  induction d with
  | zero =>
    intro i out hd hi ho h
    have : i = L.length := by omega
    subst this
    refine Ev.step (fun k => ?_) h
    simp only [intrusionref05_Normal.l0]
    rw [if_neg (by omega)]
    simp [clipped]
  | succ d ih =>
    intro i out hd hi ho h
    have hlt : i < L.length := by omega
    rw [drop_cons L i hlt] at h
    unfold clipped at h
    rw [List.map_cons, List.filter_cons] at h
    by_cases hc : (clip 0 4294967296 L[i]).f0 ≤ (clip 0 4294967296 L[i]).f1
    · rw [if_pos (by simpa using hc)] at h
      refine Ev.step (fun k => ?_) (ih (i + 1) (out ++ [clip 0 4294967296 L[i]]) (by omega) (by omega) (by simp; omega) (by rw [List.append_assoc]; exact h))
      simp only [intrusionref05_Normal.l0]
      rw [if_pos (by omega), if_pos (by omega), rd_at L i hlt]
      unfold intrusionref05_cut.f
      simp only [Option.bind_some]
      rw [if_pos (show decide (mx L[i].f0 0 ≤ mn L[i].f1 4294967296) = true from decide_eq_true hc), if_pos (by omega), wrap_succ i (by omega)]
      rfl
    · rw [if_neg (by simpa using hc)] at h
      refine Ev.step (fun k => ?_) (ih (i + 1) out (by omega) (by omega) (by omega) h)
      simp only [intrusionref05_Normal.l0]
      rw [if_pos (by omega), if_pos (by omega), rd_at L i hlt]
      unfold intrusionref05_cut.f
      simp only [Option.bind_some]
      rw [if_neg (show ¬ decide (mx L[i].f0 0 ≤ mn L[i].f1 4294967296) = true from fun h => hc (of_decide_eq_true h)), wrap_succ i (by omega)]
theorem rnormal_spec (l : List Sn) (hl : l.length < 8796093022208) : ∃ r, Ev (fun k => intrusionref05_Normal.f k l) r ∧ Can (fun n => SM l n ∧ 0 ≤ n ∧ n ≤ 4294967296) r ∧ r.length ≤ l.length := by
  obtain ⟨c1, c2, c3⟩ := clipped_spec l
  obtain ⟨r, r1, r2, r3, r4, r5⟩ := rn_spec _ (clipped 0 4294967296 l) rfl (by omega) c2
  refine ⟨r, ?_, ⟨r3 0 (fun x hx => (c2 x hx).1), r4, fun n => (r5 n).trans (c3 n)⟩, by omega⟩
  have h := ev_rn0 l hl l.length 0 [] (by omega) (by omega) (by simp) (by simpa using r1 [] (by simp; omega))
  exact Ev.congr (fun k => rfl) h
end Go.Proofs.YtbimdjciacnioaaDoor.Q
end

section
set_option linter.unusedVariables false
set_option linter.unusedSimpArgs false
namespace Go.Proofs.YtbimdjciacnioaaDoor.Q
open Go.RowKit Go.Proofs.YtbimdjciacnioaaDoorW.PrintWords Go.Proofs.YtbimdjciacnioaaDoorW.PrintLast Go.Proofs.YtbimdjciacnioaaDoorW.PrintMore
def inSpan (n : Int) (x : S33) : Bool := decide (x.f0 ≤ n) && decide (n ≤ x.f1)
def interval_Contains.f (l0 : List S33) (a1 : Int) : Option Bool := some (decide (0 ≤ a1) && (decide (a1 ≤ 4294967296) && l0.any (inSpan a1)))
end Go.Proofs.YtbimdjciacnioaaDoor.Q
end

section
namespace Go.Proofs.YtbimdjciacnioaaDoor.Q
open Go.RowKit Go.Proofs.YtbimdjciacnioaaDoorW.PrintWords Go.Proofs.YtbimdjciacnioaaDoorW.PrintLast Go.Proofs.YtbimdjciacnioaaDoorW.PrintMore
attribute [local go_sem] max2_int min2_int max_two min_two max_three min_three max_four min_four
set_option linter.unusedVariables false
set_option linter.unusedSimpArgs false
def interval_Valid.l0 : Nat → List (S33) → List (S33) → Int → Int → Option (Bool)
  | 0, _, _, _, _ => none
  | k + 1, x0, x5, x6, x7 => if x7 < x6 then (if 0 ≤ x7 then (if x7 < (x5.length : Int) then (if ((rd_T33 x5 x7).f0) < 0 then (some false) else (if ((rd_T33 x5 x7).f0) > ((rd_T33 x5 x7).f1) then (some false) else (if ((rd_T33 x5 x7).f1) > 4294967296 then (some false) else (if x7 > 0 then (if 0 ≤ (wrap64 (x7 - 1)) then (if (wrap64 (x7 - 1)) < (x0.length : Int) then (if (wrap64 (((rd_T33 x5 x7).f0) - 1)) ≤ ((rd_T33 x0 (wrap64 (x7 - 1))).f1) then (some false) else (interval_Valid.l0 k x0 x5 x6 (wrap64 (x7 + 1)))) else (none)) else (none)) else (interval_Valid.l0 k x0 x5 x6 (wrap64 (x7 + 1))))))) else (none)) else (none)) else (some true)
def interval_Valid.f (k : Nat) (l0 : List (S33)) : Option (Bool) := interval_Valid.l0 k l0 l0 (l0.length : Int) 0
theorem interval_Valid.mono_l : ∀ k, (∀ y0 y1 y2 y3, LeO (interval_Valid.l0 k y0 y1 y2 y3) (interval_Valid.l0 (k + 1) y0 y1 y2 y3))
  | 0 => fun _ _ _ _ r h => by simp [interval_Valid.l0] at h
  | k + 1 => by
    have ih0 := interval_Valid.mono_l k
    · intro y0 y1 y2 y3
      unfold interval_Valid.l0
      repeat' first
      | (with_reducible exact ih0 _ _ _ _)
      | (with_reducible exact LeO.refl _)
      | (with_reducible exact LeO.none _)
      | (with_reducible refine LeO.ite ?_ ?_)
      | (with_reducible refine LeO.bind ?_ (fun _ => ?_))
      | exact ih0 _ _ _ _
      | exact LeO.none _
      | refine LeO.ite ?_ ?_
      | refine LeO.bind ?_ (fun _ => ?_)
theorem interval_Valid.mono : ∀ a0 k, LeO (interval_Valid.f k a0) (interval_Valid.f (k + 1) a0) := by
  intro a0 k
  have ih0 := interval_Valid.mono_l k
  unfold interval_Valid.f
  repeat' first
      | (with_reducible exact ih0 _ _ _ _)
      | (with_reducible exact LeO.refl _)
      | (with_reducible exact LeO.none _)
      | (with_reducible refine LeO.ite ?_ ?_)
      | (with_reducible refine LeO.bind ?_ (fun _ => ?_))
      | exact ih0 _ _ _ _
      | exact LeO.none _
      | refine LeO.ite ?_ ?_
      | refine LeO.bind ?_ (fun _ => ?_)
end Go.Proofs.YtbimdjciacnioaaDoor.Q
end

section
namespace Go.Proofs.YtbimdjciacnioaaDoor.Q
open Go.RowKit Go.Proofs.YtbimdjciacnioaaDoorW.PrintWords Go.Proofs.YtbimdjciacnioaaDoorW.PrintLast Go.Proofs.YtbimdjciacnioaaDoorW.PrintMore
attribute [local go_sem] max2_int min2_int max_two min_two max_three min_three max_four min_four
set_option linter.unusedVariables false
set_option linter.unusedSimpArgs false
def interval_Subset.f (k : Nat) (l0 : List (S33)) (l1 : List (S33)) : Option (Bool) := (interval_Minus.f k l0 l1).bind fun t475 => (some ((t475.length : Int) == 0))
theorem interval_Subset.mono : ∀ a0 a1 k, LeO (interval_Subset.f k a0 a1) (interval_Subset.f (k + 1) a0 a1) := by
  intro a0 a1 k
  unfold interval_Subset.f
  repeat' first
      | (with_reducible exact interval_Minus.mono _ _ _)
      | (with_reducible exact LeO.refl _)
      | (with_reducible exact LeO.none _)
      | (with_reducible refine LeO.ite ?_ ?_)
      | (with_reducible refine LeO.bind ?_ (fun _ => ?_))
      | exact interval_Minus.mono _ _ _
      | exact LeO.none _
      | refine LeO.ite ?_ ?_
      | refine LeO.bind ?_ (fun _ => ?_)
end Go.Proofs.YtbimdjciacnioaaDoor.Q
end

section
set_option linter.unusedVariables false
set_option linter.unusedSimpArgs false
namespace Go.Proofs.YtbimdjciacnioaaDoor.Q
open Go.RowKit Go.Proofs.YtbimdjciacnioaaDoorW.PrintWords Go.Proofs.YtbimdjciacnioaaDoorW.PrintLast Go.Proofs.YtbimdjciacnioaaDoorW.PrintMore Go.Proofs.YtbimdjciacnioaaDoor.Canon
def total : List Sn → Int
  | [] => 0
  | x :: t => (x.f1 - x.f0 + 1) + total t
theorem total_le : ∀ (l : List Sn) (lo : Int), CanFrom lo (l.map sp) → (∀ x ∈ l, x.f1 ≤ 4294967296) → 0 ≤ total l ∧ (l = [] ∨ total l ≤ 4294967297 - lo)
  | [], _, _, _ => ⟨Int.le_refl _, .inl rfl⟩
  | x :: t, lo, c, h => by
    obtain ⟨c1, c2, c3⟩ := c
    have hx := h x (List.mem_cons_self ..)
    obtain ⟨i1, i2⟩ := total_le t _ c3 (fun z hz => h z (List.mem_cons_of_mem _ hz))
    simp only [sp] at c1 c2 i2
    refine ⟨by simp only [total]; omega, .inr ?_⟩
    rcases i2 with rfl | i2
    · simp only [total]; omega
    · simp only [total]; omega
theorem Can.total {P : Int → Prop} {r : List Sn} (h : Can P r) : 0 ≤ total r ∧ total r ≤ 4294967297 := by
  obtain ⟨h1, h2⟩ := total_le r 0 h.1 h.2.1
  rcases h2 with rfl | h2
  · exact ⟨h1, by simp [Q.total]⟩
  · exact ⟨h1, by omega⟩
end Go.Proofs.YtbimdjciacnioaaDoor.Q
end

section
set_option linter.unusedVariables false
set_option linter.unusedSimpArgs false
namespace Go.Proofs.YtbimdjciacnioaaDoor.Q
open Go.RowKit Go.Proofs.YtbimdjciacnioaaDoorW.PrintWords Go.Proofs.YtbimdjciacnioaaDoorW.PrintLast Go.Proofs.YtbimdjciacnioaaDoorW.PrintMore Go.Proofs.YtbimdjciacnioaaDoor.Canon
theorem sm_ge {l : List Sn} {lo n : Int} (c : CanFrom lo (l.map sp)) (h : SM l n) : lo ≤ n := c.ge h
theorem mx_spec (a b : Int) : a ≤ mx a b ∧ b ≤ mx a b ∧ (mx a b = a ∨ mx a b = b) := by unfold mx; split <;> omega
theorem mn_spec (a b : Int) : mn a b ≤ a ∧ mn a b ≤ b ∧ (mn a b = a ∨ mn a b = b) := by unfold mn; split <;> omega
theorem compl_fold (lo hi : Int) (hlo : 0 ≤ lo) (hhi : hi ≤ 4294967296) : ∀ (t : List Sn) (p nx : Int) (out : List Sn), CanFrom p (t.map sp) → 0 ≤ p → (∀ x ∈ t, x.f1 ≤ 4294967296) → lo ≤ nx → (nx = lo ∨ nx ≤ p) →
    ∃ r, (let s := t.foldl (complStep lo hi) (nx, out); addTo s.2 s.1 hi) = out ++ r ∧ CanFrom nx (r.map sp) ∧ (∀ x ∈ r, x.f1 ≤ 4294967296) ∧ r.length ≤ t.length + 1 ∧ ∀ n, SM r n ↔ nx ≤ n ∧ n ≤ hi ∧ ¬ SM t n
  | [], p, nx, out, _, _, _, _, _ => by
    by_cases h : nx ≤ hi
    · refine ⟨[(⟨nx, hi⟩ : Sn)], by simp [addTo, h], ⟨Int.le_refl _, h, trivial⟩, by simpa using hhi, by simp, fun n => ?_⟩
      rw [sm_cons, sm_nil]
      simp [sm_nil]
    · refine ⟨[], by simp [addTo, h], trivial, by simp, by simp, fun n => ?_⟩
      rw [sm_nil]
      constructor
      · exact False.elim
      · rintro ⟨h1, h2, _⟩; omega
  | x :: t, p, nx, out, c, hp, hm, hnx, hor => by
    obtain ⟨c1, c2, c3⟩ := c
    simp only [sp] at c1 c2 c3
    have hx := hm x (List.mem_cons_self ..)
    have ht := fun z hz => hm z (List.mem_cons_of_mem x hz)
    have hge : ∀ n, SM t n → x.f1 + 2 ≤ n := fun n h => sm_ge c3 h
    rw [List.foldl_cons]
    by_cases k1 : x.f1 < lo
    · have e : complStep lo hi (nx, out) x = (nx, out) := by unfold complStep; rw [if_pos k1]
      rw [e]
      obtain ⟨r, r1, r2, r3, r4, r5⟩ := compl_fold lo hi hlo hhi t (x.f1 + 2) nx out c3 (by omega) ht hnx (by
        rcases hor with h | h
        · exact .inl h
        · by_cases h2 : nx = lo
          · exact .inl h2
          · exact .inr (by omega))
      refine ⟨r, r1, r2, r3, by simp; omega, fun n => (r5 n).trans ?_⟩
      rw [sm_cons]
      constructor
      · rintro ⟨h1, h2, h3⟩
        exact ⟨h1, h2, fun h => h.elim (fun h => by omega) h3⟩
      · rintro ⟨h1, h2, h3⟩
        exact ⟨h1, h2, fun h => h3 (.inr h)⟩
    · by_cases k2 : x.f0 > hi
      · have e : complStep lo hi (nx, out) x = (nx, out) := by unfold complStep; rw [if_neg k1, if_pos k2]
        rw [e]
        obtain ⟨r, r1, r2, r3, r4, r5⟩ := compl_fold lo hi hlo hhi t (x.f1 + 2) nx out c3 (by omega) ht hnx (by
          rcases hor with h | h
          · exact .inl h
          · exact .inr (by omega))
        refine ⟨r, r1, r2, r3, by simp; omega, fun n => (r5 n).trans ?_⟩
        rw [sm_cons]
        constructor
        · rintro ⟨h1, h2, h3⟩
          exact ⟨h1, h2, fun h => h.elim (fun h => by omega) h3⟩
        · rintro ⟨h1, h2, h3⟩
          exact ⟨h1, h2, fun h => h3 (.inr h)⟩
      · have e : complStep lo hi (nx, out) x = (x.f1 + 1, addTo out nx (x.f0 - 1)) := by
          unfold complStep
          rw [if_neg k1, if_neg k2, wrap_id (by omega) (by omega), wrap_id (by omega) (by omega)]
        rw [e]
        obtain ⟨r, r1, r2, r3, r4, r5⟩ := compl_fold lo hi hlo hhi t (x.f1 + 2) (x.f1 + 1) (addTo out nx (x.f0 - 1)) c3 (by omega) ht (by omega) (.inr (by omega))
        have hnx2 : nx ≤ x.f1 + 1 := by rcases hor with h | h <;> omega
        by_cases k3 : nx ≤ x.f0 - 1
        · refine ⟨(⟨nx, x.f0 - 1⟩ : Sn) :: r, by rw [r1]; simp [addTo, k3], ⟨Int.le_refl _, k3, r2.mono (by simp [sp]; omega)⟩, ?_, by simp; omega, fun n => ?_⟩
          · intro z hz
            rcases List.mem_cons.1 hz with rfl | hz
            · show x.f0 - 1 ≤ 4294967296; omega
            · exact r3 z hz
          · rw [sm_cons, r5 n, sm_cons]
            constructor
            · rintro (⟨h1, h2⟩ | ⟨h1, h2, h3⟩)
              · have h2 : n ≤ x.f0 - 1 := h2
                refine ⟨h1, by omega, fun h => ?_⟩
                rcases h with h | h
                · omega
                · have := hge n h; omega
              · exact ⟨by omega, h2, fun h => h.elim (fun h => by omega) h3⟩
            · rintro ⟨h1, h2, h3⟩
              by_cases hn : n ≤ x.f0 - 1
              · exact .inl ⟨h1, hn⟩
              · refine .inr ⟨?_, h2, fun h => h3 (.inr h)⟩
                apply Classical.byContradiction
                intro hc
                exact h3 (.inl ⟨by omega, by omega⟩)
        · refine ⟨r, by rw [r1]; simp [addTo, k3], r2.mono hnx2, r3, by simp; omega, fun n => ?_⟩
          rw [r5 n, sm_cons]
          constructor
          · rintro ⟨h1, h2, h3⟩
            exact ⟨by omega, h2, fun h => h.elim (fun h => by omega) h3⟩
          · rintro ⟨h1, h2, h3⟩
            refine ⟨?_, h2, fun h => h3 (.inr h)⟩
            apply Classical.byContradiction
            intro hc
            exact h3 (.inl ⟨by omega, by omega⟩)
def ComplP (l : List Sn) (a1 a2 n : Int) : Prop := a1 ≤ n ∧ 0 ≤ n ∧ n ≤ a2 ∧ n ≤ 4294967296 ∧ ¬ SM l n
theorem compl_spec (l : List Sn) (a1 a2 : Int) (hl : l.length < 8796093022207) : ∃ r, Ev (fun k => interval_Complement.f k l a1 a2) r ∧ Can (ComplP l a1 a2) r ∧ r.length ≤ l.length + 1 := by
  obtain ⟨S, h1, h2, h3⟩ := normal_spec l (by omega)
  obtain ⟨m1, m2, m3⟩ := mx_spec a1 0
  obtain ⟨n1, n2, n3⟩ := mn_spec a2 4294967296
  obtain ⟨r, r1, r2, r3, r4, r5⟩ := compl_fold (mx a1 0) (mn a2 4294967296) m2 n2 S 0 (mx a1 0) [] h2.1 (Int.le_refl _) h2.2.1 (Int.le_refl _) (.inl rfl)
  refine ⟨r, ?_, ⟨r2.mono m2, r3, fun n => ?_⟩, by omega⟩
  · refine Ev.congr (fun k => rfl) (Ev.bind h1 (Ev.congr (fun k => ?_) (Ev.now r)))
    rw [if_pos (by omega)]
    exact congrArg some r1
  · rw [r5 n, h2.2.2 n]
    unfold ComplP
    constructor
    · rintro ⟨e1, e2, e3⟩
      exact ⟨by omega, by omega, by omega, by omega, fun h => e3 ⟨h, by omega, by omega⟩⟩
    · rintro ⟨e1, e2, e3, e4, e5⟩
      refine ⟨by omega, by omega, fun h => e5 h.1⟩
theorem ev_rcompl (S : List Sn) (hl : S.length < 8796093022200) (hw : ∀ x ∈ S, WF x) (hi : Int) (hhi : hi ≤ 4294967296) (hhi0 : -9223372036854775808 ≤ hi) : ∀ (d i : Nat) (lo p : Int) (out : List Sn), S.length - i = d → i ≤ S.length → 0 ≤ lo → 0 ≤ p → CanFrom p ((S.drop i).map sp) → out.length ≤ i →
    ∃ r, Ev (fun k => intrusionref05_Complement.l0 k lo hi S out (i : Int)) (out ++ r) ∧ CanFrom lo (r.map sp) ∧ (∀ x ∈ r, x.f1 ≤ 4294967296) ∧ r.length ≤ d + 1 ∧ ∀ n, SM r n ↔ lo ≤ n ∧ n ≤ hi ∧ ¬ SM (S.drop i) n := by
  intro d
  have hend : ∀ (i : Nat) (lo : Int) (out : List Sn), i ≤ S.length → out.length ≤ i → (∀ k, intrusionref05_Complement.l0 (k + 2) lo hi S out (i : Int) = if lo ≤ hi then (if out.length < 8796093022208 then some (out ++ [(⟨lo, hi⟩ : Sn)]) else none) else some out) →
      Ev (fun k => intrusionref05_Complement.l0 k lo hi S out (i : Int)) (out ++ if lo ≤ hi then [(⟨lo, hi⟩ : Sn)] else []) := by
    intro i lo out hi2 ho hk
    refine ⟨2, fun k hk2 => ?_⟩
    obtain ⟨m, rfl⟩ : ∃ m, k = m + 2 := ⟨k - 2, by omega⟩
    show intrusionref05_Complement.l0 (m + 2) lo hi S out (i : Int) = _
    rw [hk m]
    split
    · rw [if_pos (by omega)]
    · simp
  induction d with
  | zero =>
    intro i lo p out hd hi2 hlo hp hc ho
    have : i = S.length := by omega
    subst this
    refine ⟨if lo ≤ hi then [(⟨lo, hi⟩ : Sn)] else [], hend _ lo out (Nat.le_refl _) ho (fun k => ?_), ?_, ?_, ?_, fun n => ?_⟩
    · simp only [intrusionref05_Complement.l0, intrusionref05_Complement.j1]
      rw [if_neg (by omega), if_neg (by simp)]
    · split
      · exact ⟨Int.le_refl _, by assumption, trivial⟩
      · trivial
    · split
      · simpa using hhi
      · simp
    · split <;> simp
    · rw [List.drop_eq_nil_of_le (Nat.le_refl _)]
      split
      · rw [sm_cons, sm_nil]; simp [sm_nil]
      · simp only [sm_nil, not_false_eq_true, and_true]
        constructor
        · exact False.elim
        · rintro ⟨h1, h2⟩; omega
  | succ d ih =>
    intro i lo p out hd hi2 hlo hp hc ho
    have hlt : i < S.length := by omega
    obtain ⟨w1, w2, w3⟩ := hw S[i] (List.getElem_mem hlt)
    rw [drop_cons S i hlt, List.map_cons] at hc
    obtain ⟨c1, c2, c3⟩ := hc
    have hge : ∀ n, SM (S.drop (i + 1)) n → S[i].f1 + 2 ≤ n := fun n h => sm_ge c3 h
    by_cases hle : lo ≤ hi
    · obtain ⟨m1, m2, m3⟩ := mx_spec lo (S[i].f1 + 1)
      obtain ⟨n1, n2, n3⟩ := mn_spec hi (S[i].f0 - 1)
      have hstep : ∀ k, intrusionref05_Complement.l0 (k + 2) lo hi S out (i : Int) = if lo ≤ mn hi (S[i].f0 - 1) then (if out.length < 8796093022208 then intrusionref05_Complement.l0 k (mx lo (S[i].f1 + 1)) hi S (out ++ [(⟨lo, mn hi (S[i].f0 - 1)⟩ : Sn)]) ((i + 1 : Nat) : Int) else none) else intrusionref05_Complement.l0 k (mx lo (S[i].f1 + 1)) hi S out ((i + 1 : Nat) : Int) := by
        intro k
        simp only [intrusionref05_Complement.l0, intrusionref05_Complement.j1]
        rw [if_pos (by omega), if_pos (decide_eq_true hle), if_pos (by omega), if_pos (by omega), rd_at S i hlt, wrap_id (x := S[i].f0 - 1) (by omega) (by omega), wrap_id (x := S[i].f1 + 1) (by omega) (by omega), wrap_succ i (by omega)]
      have ev2 : ∀ {g : Nat → Option (List Sn)} {r : List Sn}, (∀ k, intrusionref05_Complement.l0 (k + 2) lo hi S out (i : Int) = g k) → Ev g r → Ev (fun k => intrusionref05_Complement.l0 k lo hi S out (i : Int)) r := by
        intro g r hg h
        obtain ⟨K, h⟩ := h
        refine ⟨K + 2, fun k hk => ?_⟩
        obtain ⟨m, rfl⟩ : ∃ m, k = m + 2 := ⟨k - 2, by omega⟩
        show intrusionref05_Complement.l0 (m + 2) lo hi S out (i : Int) = some r
        rw [hg m]
        exact h m (by omega)
      by_cases k3 : lo ≤ mn hi (S[i].f0 - 1)
      · obtain ⟨r, r1, r2, r3, r4, r5⟩ := ih (i + 1) (mx lo (S[i].f1 + 1)) (S[i].f1 + 2) (out ++ [(⟨lo, mn hi (S[i].f0 - 1)⟩ : Sn)]) (by omega) (by omega) (by omega) (by omega) c3 (by simp; omega)
        refine ⟨(⟨lo, mn hi (S[i].f0 - 1)⟩ : Sn) :: r, ev2 (g := fun k => intrusionref05_Complement.l0 k (mx lo (S[i].f1 + 1)) hi S (out ++ [(⟨lo, mn hi (S[i].f0 - 1)⟩ : Sn)]) ((i + 1 : Nat) : Int)) (fun k => by rw [hstep, if_pos k3, if_pos (by omega)]) (by simpa using r1), ⟨Int.le_refl _, k3, r2.mono (by simp [sp]; omega)⟩, ?_, by simp; omega, fun n => ?_⟩
        · intro z hz
          rcases List.mem_cons.1 hz with rfl | hz
          · show mn hi (S[i].f0 - 1) ≤ 4294967296; omega
          · exact r3 z hz
        · rw [sm_cons, r5 n, drop_cons S i hlt, sm_cons]
          constructor
          · rintro (⟨h1, h2⟩ | ⟨h1, h2, h3⟩)
            · have h2 : n ≤ mn hi (S[i].f0 - 1) := h2
              refine ⟨h1, by omega, fun h => ?_⟩
              rcases h with h | h
              · omega
              · have := hge n h; omega
            · exact ⟨by omega, h2, fun h => h.elim (fun h => by omega) h3⟩
          · rintro ⟨h1, h2, h3⟩
            by_cases hn : n ≤ S[i].f0 - 1
            · exact .inl ⟨h1, show n ≤ mn hi (S[i].f0 - 1) from by omega⟩
            · refine .inr ⟨?_, h2, fun h => h3 (.inr h)⟩
              apply Classical.byContradiction
              intro hc
              exact h3 (.inl ⟨by omega, by omega⟩)
      · obtain ⟨r, r1, r2, r3, r4, r5⟩ := ih (i + 1) (mx lo (S[i].f1 + 1)) (S[i].f1 + 2) out (by omega) (by omega) (by omega) (by omega) c3 (by omega)
        refine ⟨r, ev2 (g := fun k => intrusionref05_Complement.l0 k (mx lo (S[i].f1 + 1)) hi S out ((i + 1 : Nat) : Int)) (fun k => by rw [hstep, if_neg k3]) r1, r2.mono m1, r3, by omega, fun n => ?_⟩
        rw [r5 n, drop_cons S i hlt, sm_cons]
        constructor
        · rintro ⟨h1, h2, h3⟩
          exact ⟨by omega, h2, fun h => h.elim (fun h => by omega) h3⟩
        · rintro ⟨h1, h2, h3⟩
          refine ⟨?_, h2, fun h => h3 (.inr h)⟩
          apply Classical.byContradiction
          intro hc
          exact h3 (.inl ⟨by omega, by omega⟩)
    · refine ⟨if lo ≤ hi then [(⟨lo, hi⟩ : Sn)] else [], hend i lo out (by omega) ho (fun k => ?_), ?_, ?_, ?_, fun n => ?_⟩
      · simp only [intrusionref05_Complement.l0, intrusionref05_Complement.j1]
        rw [if_pos (by omega), if_neg (by simpa using hle)]
      · rw [if_neg hle]; trivial
      · rw [if_neg hle]; simp
      · rw [if_neg hle]; simp
      · rw [if_neg hle, sm_nil]
        constructor
        · exact False.elim
        · rintro ⟨h1, h2, _⟩; omega
theorem rcompl_spec (l : List Sn) (a1 a2 : Int) (ha : -9223372036854775808 ≤ a2) (hl : l.length < 8796093022200) : ∃ r, Ev (fun k => intrusionref05_Complement.f k l a1 a2) r ∧ Can (ComplP l a1 a2) r ∧ r.length ≤ l.length + 1 := by
  obtain ⟨S, h1, h2, h3⟩ := rnormal_spec l (by omega)
  obtain ⟨m1, m2, m3⟩ := mx_spec a1 0
  obtain ⟨n1, n2, n3⟩ := mn_spec a2 4294967296
  obtain ⟨r, r1, r2, r3, r4, r5⟩ := ev_rcompl S (by omega) h2.wf (mn a2 4294967296) n2 (by omega) S.length 0 (mx a1 0) 0 [] (by omega) (by omega) m2 (Int.le_refl _) h2.1 (by simp)
  refine ⟨r, Ev.congr (fun k => rfl) (Ev.bind h1 (by simpa using r1)), ⟨r2.mono m2, r3, fun n => ?_⟩, by omega⟩
  rw [r5 n, List.drop_zero, h2.2.2 n]
  unfold ComplP
  constructor
  · rintro ⟨e1, e2, e3⟩
    exact ⟨by omega, by omega, by omega, by omega, fun h => e3 ⟨h, by omega, by omega⟩⟩
  · rintro ⟨e1, e2, e3, e4, e5⟩
    refine ⟨by omega, by omega, fun h => e5 h.1⟩
end Go.Proofs.YtbimdjciacnioaaDoor.Q
end

section
set_option linter.unusedVariables false
set_option linter.unusedSimpArgs false
namespace Go.Proofs.YtbimdjciacnioaaDoor.Q
open Go.RowKit Go.Proofs.YtbimdjciacnioaaDoorW.PrintWords Go.Proofs.YtbimdjciacnioaaDoorW.PrintLast Go.Proofs.YtbimdjciacnioaaDoorW.PrintMore Go.Proofs.YtbimdjciacnioaaDoor.Canon
def interP (x y : Sn) : List Sn := if mx x.f0 y.f0 ≤ mn x.f1 y.f1 then [(⟨mx x.f0 y.f0, mn x.f1 y.f1⟩ : Sn)] else []
theorem ev_inter (X Y : List Sn) (hX : X.length < 4000000000000) (hY : Y.length < 4000000000000) : ∀ (d i j : Nat) (p q : Int) (out : List Sn), X.length - i + (Y.length - j) = d → i ≤ X.length → j ≤ Y.length → out.length ≤ i + j → CanFrom p ((X.drop i).map sp) → CanFrom q ((Y.drop j).map sp) →
    ∃ r, Ev (fun k => interval_Intersect.l0 k X Y out (i : Int) (j : Int)) (out ++ r) ∧ CanFrom (max p q) (r.map sp) ∧ r.length ≤ d ∧ (∀ n, SM r n ↔ SM (X.drop i) n ∧ SM (Y.drop j) n) ∧ ∀ z ∈ r, ∃ x ∈ X.drop i, z.f1 ≤ x.f1 := by
  intro d
  induction d using Nat.strongRecOn with
  | _ d ih =>
    intro i j p q out hd hi hj ho cX cY
    by_cases hiX : i < X.length
    · by_cases hjY : j < Y.length
      · rw [drop_cons X i hiX, List.map_cons] at cX
        rw [drop_cons Y j hjY, List.map_cons] at cY
        obtain ⟨a1, a2, a3⟩ := cX
        obtain ⟨b1, b2, b3⟩ := cY
        simp only [sp] at a1 a2 a3 b1 b2 b3
        obtain ⟨m1, m2, m3⟩ := mx_spec X[i].f0 Y[j].f0
        obtain ⟨n1, n2, n3⟩ := mn_spec X[i].f1 Y[j].f1
        have gX : ∀ n, SM (X.drop (i + 1)) n → X[i].f1 + 2 ≤ n := fun n h => sm_ge a3 h
        have gY : ∀ n, SM (Y.drop (j + 1)) n → Y[j].f1 + 2 ≤ n := fun n h => sm_ge b3 h
        have hstep : ∀ k, interval_Intersect.l0 (k + 2) X Y out (i : Int) (j : Int) = if X[i].f1 < Y[j].f1 then interval_Intersect.l0 k X Y (out ++ interP X[i] Y[j]) ((i + 1 : Nat) : Int) (j : Int) else interval_Intersect.l0 k X Y (out ++ interP X[i] Y[j]) (i : Int) ((j + 1 : Nat) : Int) := by
          intro k
          simp only [interval_Intersect.l0, interval_Intersect.j1]
          rw [if_pos (by omega), if_pos (decide_eq_true (by omega)), if_pos (by omega), if_pos (by omega), if_pos (by omega), if_pos (by omega), rd_at X i hiX, rd_at Y j hjY, wrap_succ i (by omega), wrap_succ j (by omega)]
          unfold interP
          by_cases hc : mx X[i].f0 Y[j].f0 ≤ mn X[i].f1 Y[j].f1
          · rw [if_pos hc, if_pos hc, if_pos (by omega)]
            rfl
          · rw [if_neg hc, if_neg hc, List.append_nil]
        have ev2 : ∀ {g : Nat → Option (List Sn)} {r : List Sn}, (∀ k, interval_Intersect.l0 (k + 2) X Y out (i : Int) (j : Int) = g k) → Ev g r → Ev (fun k => interval_Intersect.l0 k X Y out (i : Int) (j : Int)) r := by
          intro g r hg h
          obtain ⟨K, h⟩ := h
          refine ⟨K + 2, fun k hk => ?_⟩
          obtain ⟨m, rfl⟩ : ∃ m, k = m + 2 := ⟨k - 2, by omega⟩
          show interval_Intersect.l0 (m + 2) X Y out (i : Int) (j : Int) = some r
          rw [hg m]
          exact h m (by omega)
        have hlen : (interP X[i] Y[j]).length ≤ 1 := by unfold interP; split <;> simp
        have hpm : ∀ n, SM (interP X[i] Y[j]) n ↔ (X[i].f0 ≤ n ∧ n ≤ X[i].f1) ∧ (Y[j].f0 ≤ n ∧ n ≤ Y[j].f1) := by
          intro n
          unfold interP
          split
          · rw [sm_cons, sm_nil, or_false]
            show mx X[i].f0 Y[j].f0 ≤ n ∧ n ≤ mn X[i].f1 Y[j].f1 ↔ _
            constructor
            · rintro ⟨h1, h2⟩; exact ⟨⟨by omega, by omega⟩, by omega, by omega⟩
            · rintro ⟨⟨h1, h2⟩, h3, h4⟩; exact ⟨by omega, by omega⟩
          · rw [sm_nil]
            constructor
            · exact False.elim
            · rintro ⟨⟨h1, h2⟩, h3, h4⟩; omega
        have hcan : ∀ (r : List Sn) (s : Int), CanFrom s (r.map sp) → max p q ≤ s → mn X[i].f1 Y[j].f1 + 2 ≤ s → CanFrom (max p q) ((interP X[i] Y[j] ++ r).map sp) := by
          intro r s hr h1 h2
          unfold interP
          split
          · rename_i hc
            exact ⟨by show max p q ≤ mx X[i].f0 Y[j].f0; omega, hc, hr.mono (by show mn X[i].f1 Y[j].f1 + 2 ≤ s; exact h2)⟩
          · exact hr.mono h1
        by_cases hlt : X[i].f1 < Y[j].f1
        · obtain ⟨r, r1, r2, r3, r4, r5⟩ := ih (d - 1) (by omega) (i + 1) j (X[i].f1 + 2) Y[j].f0 (out ++ interP X[i] Y[j]) (by omega) (by omega) hj (by rw [List.length_append]; omega) a3 (by rw [drop_cons Y j hjY, List.map_cons]; exact ⟨Int.le_refl _, b2, b3⟩)
          refine ⟨interP X[i] Y[j] ++ r, ev2 (g := fun k => interval_Intersect.l0 k X Y (out ++ interP X[i] Y[j]) ((i + 1 : Nat) : Int) (j : Int)) (fun k => by rw [hstep, if_pos hlt]) (by rw [← List.append_assoc]; exact r1), hcan r _ r2 (by omega) (by omega), by rw [List.length_append]; omega, fun n => ?_, ?_⟩
          · rw [sm_append, hpm, r4 n, drop_cons X i hiX, drop_cons Y j hjY, sm_cons, sm_cons]
            constructor
            · rintro (⟨h1, h2⟩ | ⟨h1, h2⟩)
              · exact ⟨.inl h1, .inl h2⟩
              · exact ⟨.inr h1, h2⟩
            · rintro ⟨h1 | h1, h2⟩
              · rcases h2 with h2 | h2
                · exact .inl ⟨h1, h2⟩
                · have := gY n h2; omega
              · exact .inr ⟨h1, h2⟩
          · intro z hz
            rw [drop_cons X i hiX]
            rcases List.mem_append.1 hz with hz | hz
            · unfold interP at hz
              split at hz
              · rw [List.mem_singleton.1 hz]; exact ⟨X[i], List.mem_cons_self .., by show mn X[i].f1 Y[j].f1 ≤ _; omega⟩
              · simp at hz
            · obtain ⟨x, hx, h⟩ := r5 z hz
              exact ⟨x, List.mem_cons_of_mem _ hx, h⟩
        · obtain ⟨r, r1, r2, r3, r4, r5⟩ := ih (d - 1) (by omega) i (j + 1) X[i].f0 (Y[j].f1 + 2) (out ++ interP X[i] Y[j]) (by omega) hi (by omega) (by rw [List.length_append]; omega) (by rw [drop_cons X i hiX, List.map_cons]; exact ⟨Int.le_refl _, a2, a3⟩) b3
          refine ⟨interP X[i] Y[j] ++ r, ev2 (g := fun k => interval_Intersect.l0 k X Y (out ++ interP X[i] Y[j]) (i : Int) ((j + 1 : Nat) : Int)) (fun k => by rw [hstep, if_neg hlt]) (by rw [← List.append_assoc]; exact r1), hcan r _ r2 (by omega) (by omega), by rw [List.length_append]; omega, fun n => ?_, ?_⟩
          · rw [sm_append, hpm, r4 n, drop_cons X i hiX, drop_cons Y j hjY, sm_cons, sm_cons]
            constructor
            · rintro (⟨h1, h2⟩ | ⟨h1, h2⟩)
              · exact ⟨.inl h1, .inl h2⟩
              · exact ⟨h1, .inr h2⟩
            · rintro ⟨h1, h2 | h2⟩
              · rcases h1 with h1 | h1
                · exact .inl ⟨h1, h2⟩
                · have := gX n h1; omega
              · exact .inr ⟨h1, h2⟩
          · intro z hz
            rw [drop_cons X i hiX]
            rcases List.mem_append.1 hz with hz | hz
            · unfold interP at hz
              split at hz
              · rw [List.mem_singleton.1 hz]; exact ⟨X[i], List.mem_cons_self .., by show mn X[i].f1 Y[j].f1 ≤ _; omega⟩
              · simp at hz
            · obtain ⟨x, hx, h⟩ := r5 z hz
              rw [drop_cons X i hiX] at hx
              exact ⟨x, hx, h⟩
      · have : j = Y.length := by omega
        subst this
        refine ⟨[], ⟨2, fun k hk => ?_⟩, trivial, by simp, fun n => ?_, by simp⟩
        · obtain ⟨m, rfl⟩ : ∃ m, k = m + 2 := ⟨k - 2, by omega⟩
          show interval_Intersect.l0 (m + 2) X Y out (i : Int) (Y.length : Int) = _
          simp only [interval_Intersect.l0, interval_Intersect.j1]
          rw [if_pos (by omega), if_neg (by simp), List.append_nil]
        · rw [List.drop_eq_nil_of_le (Nat.le_refl Y.length)]
          simp [sm_nil]
    · have : i = X.length := by omega
      subst this
      refine ⟨[], ⟨2, fun k hk => ?_⟩, trivial, by simp, fun n => ?_, by simp⟩
      · obtain ⟨m, rfl⟩ : ∃ m, k = m + 2 := ⟨k - 2, by omega⟩
        show interval_Intersect.l0 (m + 2) X Y out (X.length : Int) (j : Int) = _
        simp only [interval_Intersect.l0, interval_Intersect.j1]
        rw [if_neg (by omega), if_neg (by simp), List.append_nil]
      · rw [List.drop_eq_nil_of_le (Nat.le_refl X.length)]
        simp [sm_nil]
def InterP (a b : List Sn) (n : Int) : Prop := SM a n ∧ SM b n ∧ 0 ≤ n ∧ n ≤ 4294967296
theorem inter_spec (a b : List Sn) (ha : a.length < 4000000000000) (hb : b.length < 4000000000000) : ∃ r, Ev (fun k => interval_Intersect.f k a b) r ∧ Can (InterP a b) r ∧ r.length ≤ a.length + b.length := by
  obtain ⟨X, x1, x2, x3⟩ := normal_spec a (by omega)
  obtain ⟨Y, y1, y2, y3⟩ := normal_spec b (by omega)
  obtain ⟨r, r1, r2, r3, r4, r5⟩ := ev_inter X Y (by omega) (by omega) _ 0 0 0 0 [] rfl (by omega) (by omega) (by simp) x2.1 y2.1
  refine ⟨r, Ev.congr (fun k => rfl) (Ev.bind x1 (Ev.bind y1 (by simpa using r1))), ⟨r2, fun z hz => ?_, fun n => ?_⟩, by omega⟩
  · obtain ⟨x, hx, h⟩ := r5 z hz
    have := x2.2.1 x hx
    omega
  · rw [r4 n, List.drop_zero, List.drop_zero, x2.2.2 n, y2.2.2 n]
    unfold InterP
    constructor
    · rintro ⟨⟨h1, h2, h3⟩, h4, _, _⟩; exact ⟨h1, h4, h2, h3⟩
    · rintro ⟨h1, h2, h3, h4⟩; exact ⟨⟨h1, h3, h4⟩, h2, h3, h4⟩
theorem ev_rinter1 (X Y : List Sn) (hX : X.length < 1000000) (hY : Y.length < 1000000) {r : List Sn} (i : Nat) (hi : i < X.length) : ∀ (d j : Nat) (out : List Sn), Y.length - j = d → j ≤ Y.length → out.length ≤ i * Y.length + j →
    Ev (fun k => intrusionref05_Intersect.l0 k X Y (out ++ (Y.drop j).flatMap (interP X[i])) ((i + 1 : Nat) : Int)) r → Ev (fun k => intrusionref05_Intersect.l1 k X Y out (i : Int) (j : Int)) r := by
  intro d
  induction d with
  | zero =>
    intro j out hd hj ho h
    have : j = Y.length := by omega
    subst this
    refine Ev.step (fun k => ?_) h
    simp only [intrusionref05_Intersect.l1]
    rw [if_neg (by omega), wrap_succ i (by omega)]
    simp
  | succ d ih =>
    intro j out hd hj ho h
    have hlt : j < Y.length := by omega
    have hb : i * Y.length + Y.length ≤ 1000000 * 1000000 := by
      have h1 : i * Y.length ≤ 999999 * 1000000 := Nat.mul_le_mul (by omega) (by omega)
      omega
    rw [drop_cons Y j hlt, List.flatMap_cons, ← List.append_assoc] at h
    have hlen : (interP X[i] Y[j]).length ≤ 1 := by unfold interP; split <;> simp
    have h2 := ih (j + 1) (out ++ interP X[i] Y[j]) (by omega) (by omega) (by rw [List.length_append]; omega) h
    refine Ev.step (fun k => ?_) h2
    simp only [intrusionref05_Intersect.l1]
    rw [if_pos (by omega), if_pos (by omega), if_pos (by omega), if_pos (by omega), rd_at X i hi, rd_at Y j hlt]
    unfold intrusionref05_cut.f interP
    simp only [Option.bind_some]
    by_cases hc : mx X[i].f0 Y[j].f0 ≤ mn X[i].f1 Y[j].f1
    · rw [if_pos (decide_eq_true hc), if_pos (by omega), if_pos hc, wrap_succ j (by omega)]
    · rw [if_neg (fun h => hc (of_decide_eq_true h)), if_neg hc, wrap_succ j (by omega), List.append_nil]
theorem ev_rinter (X Y : List Sn) (hX : X.length < 1000000) (hY : Y.length < 1000000) {r : List Sn} : ∀ (d i : Nat) (out : List Sn), X.length - i = d → i ≤ X.length → out.length ≤ i * Y.length →
    Ev (fun k => intrusionref05_Normal.f k (out ++ (X.drop i).flatMap (fun x => Y.flatMap (interP x)))) r → Ev (fun k => intrusionref05_Intersect.l0 k X Y out (i : Int)) r := by
  intro d
  induction d with
  | zero =>
    intro i out hd hi ho h
    have : i = X.length := by omega
    subst this
    rw [List.drop_eq_nil_of_le (Nat.le_refl _), List.flatMap_nil, List.append_nil] at h
    refine Ev.step (f := fun k => (intrusionref05_Normal.f k out).bind fun t => some t) (fun k => ?_) (Ev.bind h (Ev.now _))
    simp only [intrusionref05_Intersect.l0]
    rw [if_neg (by omega)]
  | succ d ih =>
    intro i out hd hi ho h
    have hlt : i < X.length := by omega
    rw [drop_cons X i hlt, List.flatMap_cons, ← List.append_assoc] at h
    have hfl : ∀ (T : List Sn) (x : Sn), (T.flatMap (interP x)).length ≤ T.length := by
      intro T x
      induction T with
      | nil => simp
      | cons y t ih2 =>
        rw [List.flatMap_cons, List.length_append, List.length_cons]
        have : (interP x y).length ≤ 1 := by unfold interP; split <;> simp
        omega
    have h2 := ih (i + 1) (out ++ Y.flatMap (interP X[i])) (by omega) (by omega) (by rw [List.length_append, Nat.succ_mul]; have := hfl Y X[i]; omega) h
    have h3 := ev_rinter1 X Y hX hY i hlt Y.length 0 out (by omega) (by omega) (by omega) (by simpa using h2)
    refine Ev.step (fun k => ?_) h3
    simp only [intrusionref05_Intersect.l0]
    rw [if_pos (by omega)]
    rfl
theorem rinter_spec (a b : List Sn) (ha : a.length < 1000) (hb : b.length < 1000) : ∃ r, Ev (fun k => intrusionref05_Intersect.f k a b) r ∧ Can (InterP a b) r := by
  obtain ⟨X, x1, x2, x3⟩ := rnormal_spec a (by omega)
  obtain ⟨Y, y1, y2, y3⟩ := rnormal_spec b (by omega)
  have hlen : (X.flatMap (fun x => Y.flatMap (interP x))).length < 8796093022208 := by
    have h1 : ∀ (T : List Sn) (x : Sn), (T.flatMap (interP x)).length ≤ T.length := by
      intro T x
      induction T with
      | nil => simp
      | cons y t ih2 =>
        rw [List.flatMap_cons, List.length_append, List.length_cons]
        have : (interP x y).length ≤ 1 := by unfold interP; split <;> simp
        omega
    have h2 : ∀ T : List Sn, (T.flatMap (fun x => Y.flatMap (interP x))).length ≤ T.length * Y.length := by
      intro T
      induction T with
      | nil => simp
      | cons y t ih2 =>
        rw [List.flatMap_cons, List.length_append, List.length_cons, Nat.succ_mul]
        have := h1 Y y
        omega
    have h3 := h2 X
    have h4 : X.length * Y.length ≤ 1000 * 1000 := Nat.mul_le_mul (by omega) (by omega)
    omega
  obtain ⟨r, r1, r2, r3⟩ := rnormal_spec (X.flatMap (fun x => Y.flatMap (interP x))) hlen
  refine ⟨r, Ev.congr (fun k => rfl) (Ev.bind x1 (Ev.bind y1 (ev_rinter X Y (by omega) (by omega) X.length 0 [] (by omega) (by omega) (by simp) (by simpa using r1)))), r2.congr (fun n => ?_)⟩
  have hm : SM (X.flatMap (fun x => Y.flatMap (interP x))) n ↔ SM X n ∧ SM Y n := by
    rw [sm_iff, sm_iff, sm_iff]
    constructor
    · rintro ⟨z, hz, h1, h2⟩
      obtain ⟨x, hx, hz⟩ := List.mem_flatMap.1 hz
      obtain ⟨y, hy, hz⟩ := List.mem_flatMap.1 hz
      unfold interP at hz
      split at hz
      · have := List.mem_singleton.1 hz
        subst this
        have h1 : mx x.f0 y.f0 ≤ n := h1
        have h2 : n ≤ mn x.f1 y.f1 := h2
        obtain ⟨m1, m2, _⟩ := mx_spec x.f0 y.f0
        obtain ⟨n1, n2, _⟩ := mn_spec x.f1 y.f1
        exact ⟨⟨x, hx, by omega, by omega⟩, y, hy, by omega, by omega⟩
      · simp at hz
    · rintro ⟨⟨x, hx, h1, h2⟩, y, hy, h3, h4⟩
      obtain ⟨m1, m2, m3⟩ := mx_spec x.f0 y.f0
      obtain ⟨n1, n2, n3⟩ := mn_spec x.f1 y.f1
      have hc : mx x.f0 y.f0 ≤ mn x.f1 y.f1 := by omega
      refine ⟨⟨mx x.f0 y.f0, mn x.f1 y.f1⟩, List.mem_flatMap.2 ⟨x, hx, List.mem_flatMap.2 ⟨y, hy, ?_⟩⟩, show mx x.f0 y.f0 ≤ n from by omega, show n ≤ mn x.f1 y.f1 from by omega⟩
      unfold interP
      rw [if_pos hc]
      exact List.mem_singleton.2 rfl
  rw [hm, x2.2.2 n, y2.2.2 n]
  unfold InterP
  constructor
  · rintro ⟨⟨⟨h1, h2, h3⟩, h4, _, _⟩, _⟩; exact ⟨h1, h4, h2, h3⟩
  · rintro ⟨h1, h2, h3, h4⟩; exact ⟨⟨⟨h1, h3, h4⟩, h2, h3, h4⟩, h3, h4⟩
end Go.Proofs.YtbimdjciacnioaaDoor.Q
end

section
set_option linter.unusedVariables false
set_option linter.unusedSimpArgs false
namespace Go.Proofs.YtbimdjciacnioaaDoor.Q
open Go.RowKit Go.Proofs.YtbimdjciacnioaaDoorW.PrintWords Go.Proofs.YtbimdjciacnioaaDoorW.PrintLast Go.Proofs.YtbimdjciacnioaaDoorW.PrintMore Go.Proofs.YtbimdjciacnioaaDoor.Canon
def MinusP (a b : List Sn) (n : Int) : Prop := SM a n ∧ ¬ SM b n ∧ 0 ≤ n ∧ n ≤ 4294967296
theorem minus_spec (a b : List Sn) (ha : a.length < 2000000000000) (hb : b.length < 2000000000000) : ∃ r, Ev (fun k => interval_Minus.f k a b) r ∧ Can (MinusP a b) r ∧ r.length ≤ a.length + b.length + 1 := by
  obtain ⟨c, c1, c2, c3⟩ := compl_spec b 0 4294967296 (by omega)
  obtain ⟨r, r1, r2, r3⟩ := inter_spec a c (by omega) (by omega)
  refine ⟨r, Ev.congr (fun k => rfl) (Ev.bind c1 (Ev.bind r1 (Ev.now _))), r2.congr (fun n => ?_), by omega⟩
  unfold InterP MinusP
  rw [c2.2.2 n]
  unfold ComplP
  constructor
  · rintro ⟨h1, ⟨_, _, _, _, h2⟩, h3, h4⟩; exact ⟨h1, h2, h3, h4⟩
  · rintro ⟨h1, h2, h3, h4⟩; exact ⟨h1, ⟨h3, h3, h4, h4, h2⟩, h3, h4⟩
theorem rminus_spec (a b : List Sn) (ha : a.length < 500) (hb : b.length < 500) : ∃ r, Ev (fun k => intrusionref05_Minus.f k a b) r ∧ Can (MinusP a b) r := by
  obtain ⟨c, c1, c2, c3⟩ := rcompl_spec b 0 4294967296 (by omega) (by omega)
  obtain ⟨r, r1, r2⟩ := rinter_spec a c (by omega) (by omega)
  refine ⟨r, Ev.congr (fun k => rfl) (Ev.bind c1 (Ev.bind r1 (Ev.now _))), r2.congr (fun n => ?_)⟩
  unfold InterP MinusP
  rw [c2.2.2 n]
  unfold ComplP
  constructor
  · rintro ⟨h1, ⟨_, _, _, _, h2⟩, h3, h4⟩; exact ⟨h1, h2, h3, h4⟩
  · rintro ⟨h1, h2, h3, h4⟩; exact ⟨h1, ⟨h3, h3, h4, h4, h2⟩, h3, h4⟩
open Classical in
noncomputable def card (P : Int → Prop) (m : Nat) : Nat := (List.range m).countP (fun i : Nat => decide (P (i : Int)))
open Classical in
theorem card_succ (P : Int → Prop) (m : Nat) : card P (m + 1) = card P m + if P (m : Int) then 1 else 0 := by
  unfold card
  rw [List.range_succ, List.countP_append, List.countP_cons, List.countP_nil]
  by_cases h : P (m : Int) <;> simp [h]
theorem card_congr {P Q : Int → Prop} (h : ∀ n, P n ↔ Q n) (m : Nat) : card P m = card Q m := by
  have : P = Q := funext fun n => propext (h n)
  rw [this]
open Classical in
theorem card_add (P Q : Int → Prop) : ∀ m, card (fun n => P n ∨ Q n) m + card (fun n => P n ∧ Q n) m = card P m + card Q m
  | 0 => rfl
  | m + 1 => by
    have ih := card_add P Q m
    simp only [card_succ]
    by_cases h1 : P (m : Int) <;> by_cases h2 : Q (m : Int) <;> simp [h1, h2] <;> omega
open Classical in
theorem card_false : ∀ m, card (fun _ => False) m = 0
  | 0 => rfl
  | m + 1 => by rw [card_succ, card_false m]; simp
open Classical in
theorem card_span (a b : Int) (h0 : 0 ≤ a) (h : a ≤ b + 1) : ∀ m : Nat, (card (fun n => a ≤ n ∧ n ≤ b) m : Int) = if (m : Int) ≤ a then 0 else if (m : Int) ≤ b + 1 then m - a else b - a + 1
  | 0 => by rw [if_pos (by omega)]; rfl
  | m + 1 => by
    have ih := card_span a b h0 h m
    rw [card_succ]
    by_cases c : a ≤ (m : Int) ∧ (m : Int) ≤ b
    · rw [if_pos c]
      split at ih <;> split <;> (try split) <;> (try split at ih) <;> omega
    · rw [if_neg c]
      split at ih <;> split <;> (try split) <;> (try split at ih) <;> omega
theorem card_total : ∀ (l : List Sn) (lo : Int), 0 ≤ lo → CanFrom lo (l.map sp) → (∀ x ∈ l, x.f1 ≤ 4294967296) → ∀ m : Nat, 4294967297 ≤ m → (card (SM l) m : Int) = total l
  | [], lo, _, _, _, m, _ => by rw [card_congr (Q := fun _ => False) (fun n => sm_nil n), card_false]; rfl
  | x :: t, lo, h0, c, h, m, hm => by
    obtain ⟨c1, c2, c3⟩ := c
    simp only [sp] at c1 c2 c3
    have hx := h x (List.mem_cons_self ..)
    have ih := card_total t (x.f1 + 2) (by omega) c3 (fun z hz => h z (List.mem_cons_of_mem _ hz)) m hm
    have ha := card_add (fun n => x.f0 ≤ n ∧ n ≤ x.f1) (SM t) m
    rw [card_congr (P := fun n => (x.f0 ≤ n ∧ n ≤ x.f1) ∧ SM t n) (Q := fun _ => False) (fun n => ⟨fun hh => by have := sm_ge c3 hh.2; omega, False.elim⟩), card_false] at ha
    rw [card_congr (fun n => sm_cons x t n)]
    have hs := card_span x.f0 x.f1 (by omega) (by omega) m
    rw [if_neg (by omega)] at hs
    have hs2 : (card (fun n => x.f0 ≤ n ∧ n ≤ x.f1) m : Int) = x.f1 - x.f0 + 1 := by
      split at hs <;> omega
    simp only [total]
    omega
theorem Can.card {P : Int → Prop} {r : List Sn} (h : Can P r) : (Q.card P 4294967297 : Int) = Q.total r := by
  rw [← card_total r 0 (Int.le_refl _) h.1 h.2.1 4294967297 (Nat.le_refl _)]
  rw [card_congr h.2.2]
end Go.Proofs.YtbimdjciacnioaaDoor.Q
end

section
set_option linter.unusedVariables false
set_option linter.unusedSimpArgs false
namespace Go.Proofs.YtbimdjciacnioaaDoor.Q
open Go.RowKit Go.Proofs.YtbimdjciacnioaaDoorW.PrintWords Go.Proofs.YtbimdjciacnioaaDoorW.PrintLast Go.Proofs.YtbimdjciacnioaaDoorW.PrintMore Go.Proofs.YtbimdjciacnioaaDoor.Canon
def evP (a b : List Sn) (n : Int) : Prop := (a = [] ∨ SM a n) ∧ ¬ SM b n ∧ 0 ≤ n ∧ n ≤ 65535
def allS : List Sn := [(⟨0, 65535⟩ : Sn)]
theorem sm_all (n : Int) : SM allS n ↔ 0 ≤ n ∧ n ≤ 65535 := by
  unfold allS
  rw [sm_cons, sm_nil, or_false]
theorem can_all : Can (evP [] []) allS := ⟨by simp [CanFrom, sp, allS], by simp [allS], fun n => by
  rw [sm_all]
  unfold evP
  rw [sm_nil]
  simp⟩
theorem all_len : allS.length = 1 := rfl
theorem eval_spec (a b : List Sn) (ha : a.length < 1000000) (hb : b.length < 1000000) : ∃ r, Ev (fun k => portset_Eval.f k a b) r ∧ Can (evP a b) r := by
  by_cases h : a = []
  · subst h
    obtain ⟨r, r1, r2, r3⟩ := minus_spec allS b (by rw [all_len]; omega) (by omega)
    refine ⟨r, ?_, r2.congr (fun n => ?_)⟩
    · unfold portset_Eval.f portset_All.f
      simp only [Option.bind_some, List.length_nil]
      refine Ev.congr (fun k => if_neg (by decide)) (Ev.bind r1 (Ev.now _))
    · unfold MinusP evP
      rw [sm_all]
      constructor
      · rintro ⟨⟨h1, h2⟩, h3, _, _⟩; exact ⟨.inl rfl, h3, h1, h2⟩
      · rintro ⟨_, h3, h1, h2⟩; exact ⟨⟨h1, h2⟩, h3, h1, by omega⟩
  · obtain ⟨c, c1, c2, c3⟩ := inter_spec allS a (by rw [all_len]; omega) (by omega)
    rw [all_len] at c3
    obtain ⟨r, r1, r2, r3⟩ := minus_spec c b (by omega) (by omega)
    refine ⟨r, ?_, r2.congr (fun n => ?_)⟩
    · unfold portset_Eval.f portset_All.f
      simp only [Option.bind_some]
      exact Ev.congr (fun k => if_pos (by have := List.length_pos_iff.2 h; omega)) (Ev.bind c1 (Ev.bind r1 (Ev.now _)))
    · unfold MinusP evP
      rw [c2.2.2 n]
      unfold InterP
      rw [sm_all]
      constructor
      · rintro ⟨⟨⟨h1, h2⟩, h4, _, _⟩, h3, _, _⟩; exact ⟨.inr h4, h3, h1, h2⟩
      · rintro ⟨h4, h3, h1, h2⟩
        rcases h4 with h4 | h4
        · exact absurd h4 h
        · exact ⟨⟨⟨h1, h2⟩, h4, h1, by omega⟩, h3, h1, by omega⟩
def portP (a : List Sn) (n : Int) : Prop := SM a n ∧ 0 ≤ n ∧ n ≤ 65535
theorem ports_spec (a : List Sn) (ha : a.length < 400) : ∃ r, Ev (fun k => intrusionref08_ports.f k a) r ∧ Can (portP a) r ∧ r.length ≤ a.length + 1 ∧ Ev (fun k => interval_Intersect.f k allS a) r ∧ Ev (fun k => interval_Intersect.f k a allS) r := by
  obtain ⟨r, r1, r2⟩ := rinter_spec a allS (by omega) (by rw [all_len]; omega)
  obtain ⟨q, q1, q2, q3⟩ := inter_spec a allS (by omega) (by rw [all_len]; omega)
  obtain ⟨q', q1', q2', q3'⟩ := inter_spec allS a (by rw [all_len]; omega) (by omega)
  have e := r2.uniq q2
  subst e
  have e := (q2'.congr (Q := InterP a allS) (fun n => by unfold InterP; constructor <;> (rintro ⟨h1, h2, h3⟩; exact ⟨h2, h1, h3⟩))).uniq q2
  subst e
  refine ⟨q', ?_, q2.congr (fun n => ?_), by rw [all_len] at q3; exact q3, q1', q1⟩
  · unfold intrusionref08_ports.f intrusionref08_All.f
    simp only [Option.bind_some]
    exact Ev.bind r1 (Ev.now _)
  · unfold InterP portP
    rw [sm_all]
    constructor
    · rintro ⟨h1, ⟨h2, h3⟩, _⟩; exact ⟨h1, h2, h3⟩
    · rintro ⟨h1, h2, h3⟩; exact ⟨h1, ⟨h2, h3⟩, h2, by omega⟩
theorem reval_spec (a b : List Sn) (ha : a.length < 400) (hb : b.length < 400) : ∃ r, Ev (fun k => intrusionref08_Eval.f k a b) r ∧ Can (evP a b) r := by
  by_cases h : a = []
  · subst h
    obtain ⟨p, p1, p2, p3, _⟩ := ports_spec allS (by rw [all_len]; omega)
    rw [all_len] at p3
    obtain ⟨r, r1, r2⟩ := rminus_spec p b (by omega) (by omega)
    refine ⟨r, ?_, r2.congr (fun n => ?_)⟩
    · unfold intrusionref08_Eval.f
      refine Ev.congr (fun k => if_pos rfl) ?_
      unfold intrusionref08_All.f
      simp only [Option.bind_some]
      exact Ev.bind p1 (Ev.bind r1 (Ev.now _))
    · unfold MinusP evP
      rw [p2.2.2 n]
      unfold portP
      rw [sm_all]
      constructor
      · rintro ⟨⟨_, h1, h2⟩, h3, _, _⟩; exact ⟨.inl rfl, h3, h1, h2⟩
      · rintro ⟨_, h3, h1, h2⟩; exact ⟨⟨⟨h1, h2⟩, h1, h2⟩, h3, h1, by omega⟩
  · obtain ⟨p, p1, p2, p3, _⟩ := ports_spec a ha
    obtain ⟨r, r1, r2⟩ := rminus_spec p b (by omega) (by omega)
    refine ⟨r, ?_, r2.congr (fun n => ?_)⟩
    · unfold intrusionref08_Eval.f
      exact Ev.congr (fun k => if_neg (by have := List.length_pos_iff.2 h; omega)) (Ev.bind p1 (Ev.bind r1 (Ev.now _)))
    · unfold MinusP evP
      rw [p2.2.2 n]
      unfold portP
      constructor
      · rintro ⟨⟨h4, h1, h2⟩, h3, _, _⟩; exact ⟨.inr h4, h3, h1, h2⟩
      · rintro ⟨h4, h3, h1, h2⟩
        rcases h4 with h4 | h4
        · exact absurd h4 h
        · exact ⟨⟨h4, h1, h2⟩, h3, h1, by omega⟩
def bare (t : List UInt8) : List UInt8 := if t.head? = some 33 then t.drop 1 else t
def excl (t : List UInt8) : Bool := t.head? == some 33
def prs : List (List UInt8) → List Sn → List Sn → (List Sn × List Sn) ⊕ Int
  | [], a, b => .inl (a, b)
  | t :: ts, a, b => if (itemV (bare t)).2.2 = 0 then (if excl t = true then prs ts a (b ++ [(⟨(itemV (bare t)).1, (itemV (bare t)).2.1⟩ : Sn)]) else prs ts (a ++ [(⟨(itemV (bare t)).1, (itemV (bare t)).2.1⟩ : Sn)]) b) else .inr (itemV (bare t)).2.2
def Res (g : Nat → Option (List Sn × Int)) : (List Sn × List Sn) ⊕ Int → Prop
  | .inl (a, b) => ∃ r, Ev g (r, 0) ∧ Can (evP a b) r
  | .inr e => Ev g ([], e)
theorem Res.step {g f : Nat → Option (List Sn × Int)} {s : (List Sn × List Sn) ⊕ Int} (h : ∀ k, g (k + 1) = f k) (hf : Res f s) : Res g s := by
  cases s with
  | inl p => obtain ⟨r, h1, h2⟩ := hf; exact ⟨r, Ev.step h h1, h2⟩
  | inr e => exact Ev.step h hf
theorem Res.congr {g f : Nat → Option (List Sn × Int)} {s : (List Sn × List Sn) ⊕ Int} (h : ∀ k, g k = f k) (hf : Res f s) : Res g s := by
  cases s with
  | inl p => obtain ⟨r, h1, h2⟩ := hf; exact ⟨r, Ev.congr h h1, h2⟩
  | inr e => exact Ev.congr h hf
theorem Res.bind {α : Type} {h : Nat → Option α} {x : α} {f : Nat → α → Option (List Sn × Int)} {s : (List Sn × List Sn) ⊕ Int} (h1 : Ev h x) (hf : Res (fun n => f n x) s) : Res (fun n => (h n).bind (f n)) s := by
  cases s with
  | inl p => obtain ⟨r, h2, h3⟩ := hf; exact ⟨r, Ev.bind h1 h2, h3⟩
  | inr e => exact Ev.bind h1 hf
theorem pre_eq (t : List UInt8) : Lib.hasPrefix t [33] = excl t := by
  unfold Lib.hasPrefix excl
  cases t with
  | nil => rfl
  | cons x t =>
    simp [List.isPrefixOf]
    rw [Bool.eq_iff_iff, beq_iff_eq, beq_iff_eq]
    constructor <;> exact Eq.symm
theorem trim_eq (t : List UInt8) : Lib.trimPrefix t [33] = bare t := by
  unfold Lib.trimPrefix bare
  rw [pre_eq]
  unfold excl
  by_cases h : t.head? = some 33
  · rw [if_pos h, if_pos (beq_iff_eq.2 h)]; rfl
  · rw [if_neg h, if_neg (fun e => h (beq_iff_eq.1 e))]
theorem bare_len (t : List UInt8) : (bare t).length ≤ t.length := by
  unfold bare
  split
  · rw [List.length_drop]; omega
  · exact Nat.le_refl _
theorem cutp_eq (t : List UInt8) : strings_CutPrefix.f (mkB t) (⟨#[33]⟩ : ByteArray) = some (mkB (bare t), excl t) := by
  unfold strings_CutPrefix.f
  rw [mkB_list]
  show some (mkB (Lib.trimPrefix t [33]), Lib.hasPrefix t [33]) = _
  rw [trim_eq, pre_eq]
theorem parse0 (L : List (List UInt8)) (hL : L.length ≤ 1000) (hz : ∀ x ∈ L, x.length ≤ 100000) : ∀ (d i : Nat) (a b : List Sn), L.length - i = d → i ≤ L.length → a.length + b.length ≤ i → Res (fun k => portset_Parse.l0 k a b (L.map mkB) (L.length : Int) (i : Int)) (prs (L.drop i) a b)
  | 0, i, a, b, hd, hi, hab => by
    rw [List.drop_of_length_le (by omega), prs]
    obtain ⟨r, r1, r2⟩ := eval_spec a b (by omega) (by omega)
    refine ⟨r, Ev.step (fun k => ?_) (Ev.bind (f := fun _ t => some (t, (0 : Int))) r1 (Ev.now _)), r2⟩
    rw [portset_Parse.l0, if_neg (by omega)]
  | d + 1, i, a, b, hd, hi, hab => by
    have hl : i < L.length := by omega
    have hx := hz _ (List.getElem_mem hl)
    rw [List.drop_eq_getElem_cons hl, prs]
    have hit := item_ev (mkB (bare L[i])) (by rw [size_list, mkB_list]; have := bare_len L[i]; omega)
    rw [mkB_list] at hit
    generalize itemV (bare L[i]) = v at hit ⊢
    obtain ⟨x, y, e⟩ := v
    dsimp only
    have hstep : ∀ k, portset_Parse.l0 (k + 1) a b (L.map mkB) (L.length : Int) (i : Int) = ((portset_item.f k (mkB (bare L[i]))).bind fun bt199 => (if bt199.2.2 = 0 then (if excl L[i] = true then (if b.length < 8796093022208 then (portset_Parse.l0 k a (b ++ [(⟨bt199.1, bt199.2.1⟩ : Sn)]) (L.map mkB) (L.length : Int) ((i + 1 : Nat) : Int)) else (none)) else (if a.length < 8796093022208 then (portset_Parse.l0 k (a ++ [(⟨bt199.1, bt199.2.1⟩ : Sn)]) b (L.map mkB) (L.length : Int) ((i + 1 : Nat) : Int)) else (none))) else (some (([] : List Sn), bt199.2.2)))) := fun k => by
      rw [portset_Parse.l0, if_pos (by omega), if_pos (by omega), if_pos (by rw [List.length_map]; omega), rdOf_mk L i hl, cutp_eq, Option.bind_some, up_b (by omega)]
    refine Res.step hstep (Res.bind hit ?_)
    dsimp only
    by_cases he : e = 0
    · rw [if_pos he]
      refine Res.congr (fun k => if_pos he) ?_
      by_cases hex : excl L[i] = true
      · rw [if_pos hex]
        refine Res.congr (fun k => (if_pos hex).trans (if_pos (by omega))) ?_
        exact parse0 L hL hz d (i + 1) a _ (by omega) (by omega) (by rw [List.length_append]; simp; omega)
      · rw [if_neg hex]
        refine Res.congr (fun k => (if_neg hex).trans (if_pos (by omega))) ?_
        exact parse0 L hL hz d (i + 1) _ b (by omega) (by omega) (by rw [List.length_append]; simp; omega)
    · rw [if_neg he]
      exact Res.congr (fun k => if_neg he) (Ev.now _)
theorem rparse0 (L : List (List UInt8)) (hL : L.length ≤ 300) (hz : ∀ x ∈ L, x.length ≤ 100000) : ∀ (d i : Nat) (a b : List Sn), L.length - i = d → i ≤ L.length → a.length + b.length ≤ i → Res (fun k => intrusionref08_Parse.l0 k (L.map mkB) a b (i : Int)) (prs (L.drop i) a b)
  | 0, i, a, b, hd, hi, hab => by
    rw [List.drop_of_length_le (by omega), prs]
    obtain ⟨r, r1, r2⟩ := reval_spec a b (by omega) (by omega)
    refine ⟨r, Ev.step (fun k => ?_) (Ev.bind (f := fun _ t => some (t, (0 : Int))) r1 (Ev.now _)), r2⟩
    rw [intrusionref08_Parse.l0, if_neg (by rw [List.length_map]; omega)]
  | d + 1, i, a, b, hd, hi, hab => by
    have hl : i < L.length := by omega
    have hx := hz _ (List.getElem_mem hl)
    rw [List.drop_eq_getElem_cons hl, prs]
    have hit := ritem_ev (mkB (bare L[i])) (by rw [mkB_list]; have := bare_len L[i]; omega)
    rw [mkB_list] at hit
    have hj2 : Res (fun k => intrusionref08_Parse.j2 k (L.map mkB) a b (i : Int) (mkB (bare L[i])) (excl L[i])) (if (itemV (bare L[i])).2.2 = 0 then (if excl L[i] = true then prs (L.drop (i + 1)) a (b ++ [(⟨(itemV (bare L[i])).1, (itemV (bare L[i])).2.1⟩ : Sn)]) else prs (L.drop (i + 1)) (a ++ [(⟨(itemV (bare L[i])).1, (itemV (bare L[i])).2.1⟩ : Sn)]) b) else .inr (itemV (bare L[i])).2.2) := by
      generalize itemV (bare L[i]) = v at hit ⊢
      obtain ⟨x, y, e⟩ := v
      dsimp only
      have hstep : ∀ k, intrusionref08_Parse.j2 (k + 1) (L.map mkB) a b (i : Int) (mkB (bare L[i])) (excl L[i]) = ((intrusionref08_item.f k (mkB (bare L[i]))).bind fun bt422 => (if bt422.2.2 = 0 then (if excl L[i] = true then (if b.length < 8796093022208 then (intrusionref08_Parse.l0 k (L.map mkB) a (b ++ [(⟨bt422.1, bt422.2.1⟩ : Sn)]) ((i + 1 : Nat) : Int)) else (none)) else (if a.length < 8796093022208 then (intrusionref08_Parse.l0 k (L.map mkB) (a ++ [(⟨bt422.1, bt422.2.1⟩ : Sn)]) b ((i + 1 : Nat) : Int)) else (none))) else (some (([] : List Sn), bt422.2.2)))) := fun k => by
        rw [intrusionref08_Parse.j2, up_b (by omega)]
      refine Res.step hstep (Res.bind hit ?_)
      dsimp only
      by_cases he : e = 0
      · rw [if_pos he]
        refine Res.congr (fun k => if_pos he) ?_
        by_cases hex : excl L[i] = true
        · rw [if_pos hex]
          refine Res.congr (fun k => (if_pos hex).trans (if_pos (by omega))) ?_
          exact rparse0 L hL hz d (i + 1) a _ (by omega) (by omega) (by rw [List.length_append]; simp; omega)
        · rw [if_neg hex]
          refine Res.congr (fun k => (if_neg hex).trans (if_pos (by omega))) ?_
          exact rparse0 L hL hz d (i + 1) _ b (by omega) (by omega) (by rw [List.length_append]; simp; omega)
      · rw [if_neg he]
        exact Res.congr (fun k => if_neg he) (Ev.now _)
    refine Res.step (f := fun k => intrusionref08_Parse.j1 k (L.map mkB) a b (i : Int) (mkB L[i]) (excl L[i])) (fun k => ?_) ?_
    · rw [intrusionref08_Parse.l0, if_pos (by rw [List.length_map]; omega), if_pos (by omega), rdOf_mk L i hl, ByteArray.toList_eq, mkB_list]
      by_cases hn : L[i] = []
      · rw [if_pos hn]
        have : excl L[i] = false := by rw [hn]; rfl
        rw [this]
      · have hpos := List.length_pos_iff.2 hn
        rw [if_neg hn, size_list, mkB_list, if_pos (by omega)]
        have : (bt (mkB L[i]) 0 == 33) = excl L[i] := by
          have hb := bt_u8 (mkB L[i]) 0 (by rw [mkB_list]; exact hpos) 33
          unfold excl
          rw [Bool.eq_iff_iff, beq_iff_eq, beq_iff_eq]
          refine Iff.trans hb ?_
          simp only [mkB_list]
          rw [List.head?_eq_getElem?, List.getElem?_eq_getElem hpos, Option.some.injEq]
        rw [this]
    · refine Res.step (fun k => ?_) hj2
      rw [intrusionref08_Parse.j1]
      by_cases hex : excl L[i] = true
      · have hh : L[i].head? = some 33 := beq_iff_eq.1 hex
        have hpos : 0 < L[i].length := by
          cases hq : L[i] with
          | nil => rw [hq] at hh; cases hh
          | cons x t => simp
        have hbr : bare L[i] = L[i].drop 1 := by unfold bare; rw [if_pos hh]
        have hxt : (mkB L[i]).extract 1 L[i].length = mkB (bare L[i]) := by
          rw [extract_mk, mkB_list, hbr, List.take_of_length_le (by rw [List.length_drop]; omega)]
        rw [if_pos hex, size_list, mkB_list, if_pos (by omega), hxt]
      · have hh : ¬ L[i].head? = some 33 := fun e => hex (beq_iff_eq.2 e)
        have hbr : bare L[i] = L[i] := by unfold bare; rw [if_neg hh]
        rw [if_neg hex, hbr]
theorem spl_count (c : UInt8) : ∀ (l cur : List UInt8), (spl c cur l).length = Lib.count l [c] + 1
  | [], cur => by rw [Lib.count_one]; rfl
  | x :: t, cur => by
    rw [spl]
    by_cases h : x = c
    · subst h
      rw [if_pos rfl, Lib.count_cons_eq, List.length_cons, spl_count x t []]
      omega
    · rw [if_neg h, Lib.count_cons_ne x c t h, spl_count c t (cur ++ [x])]
def anyL : List UInt8 := [97, 110, 121]
def parseV (l : List UInt8) : (List Sn × List Sn) ⊕ Int := if l.length > 1024 then .inr 3 else if l = anyL then .inl ([], []) else if (spl 44 [] l).length > 64 then .inr 3 else prs (spl 44 [] l) [] []
theorem parse_spec (s : ByteArray) : Res (fun k => portset_Parse.f k s) (parseV s.data.toList) := by
  unfold parseV portset_Parse.f
  rw [size_list]
  by_cases h1 : s.data.toList.length > 1024
  · rw [if_pos h1]
    refine Res.congr (fun k => if_pos (by omega)) ?_
    refine Ev.step (f := fun _ => some (([] : List Sn), (3 : Int))) (fun k => ?_) (Ev.now _)
    rw [portset_Parse.j0, if_pos rfl]
  · rw [if_neg h1]
    refine Res.congr (fun k => if_neg (by omega)) ?_
    have hc : strings_Count.f s (⟨#[44]⟩ : ByteArray) = some (((spl 44 [] s.data.toList).length : Int) - 1) := by
      unfold strings_Count.f
      rw [if_pos (by rw [size_list]; omega), if_pos (by exact Nat.le_refl 1)]
      congr 1
      rw [spl_count]
      show ((Lib.count s.data.toList [44] : Nat) : Int) = _
      omega
    simp only [hc, Option.bind_some]
    have hany : (spl 44 [] anyL).length = 1 := rfl
    by_cases h2 : s.data.toList = anyL
    · rw [if_pos h2, h2, hany]
      refine ⟨allS, Ev.step (f := fun _ => some (allS, (0 : Int))) (fun k => ?_) (Ev.now _), can_all⟩
      rw [portset_Parse.j0, if_neg (by simp), ByteArray.toList_eq, if_pos (show s.data.toList = ([97, 110, 121] : List UInt8) from h2)]
      rfl
    · rw [if_neg h2]
      by_cases h3 : (spl 44 [] s.data.toList).length > 64
      · rw [if_pos h3]
        refine Ev.step (f := fun _ => some (([] : List Sn), (3 : Int))) (fun k => ?_) (Ev.now _)
        rw [portset_Parse.j0, if_pos (by rw [decide_eq_true_eq]; omega)]
      · rw [if_neg h3]
        have h0 := parse0 (spl 44 [] s.data.toList) (by omega) (fun x hx => by have := spl_mem 44 _ [] x hx; simp only [List.length_nil] at this; omega) _ 0 [] [] rfl (by omega) (by simp)
        rw [List.drop_zero] at h0
        refine Res.step (fun k => ?_) h0
        rw [portset_Parse.j0, if_neg (by rw [decide_eq_true_eq]; omega), ByteArray.toList_eq, if_neg (show ¬ s.data.toList = ([97, 110, 121] : List UInt8) from h2), split_eq s 44 (by rw [size_list]; omega), Option.bind_some, List.length_map]
        rfl
theorem rparse_spec (s : ByteArray) : Res (fun k => intrusionref08_Parse.f k s) (parseV s.data.toList) := by
  unfold parseV intrusionref08_Parse.f
  rw [size_list, ByteArray.toList_eq]
  by_cases h1 : s.data.toList.length > 1024
  · rw [if_pos h1]
    exact Res.congr (fun k => if_pos (by omega)) (Ev.now _)
  · rw [if_neg h1]
    refine Res.congr (fun k => if_neg (by omega)) ?_
    by_cases h2 : s.data.toList = anyL
    · rw [if_pos h2]
      exact ⟨allS, Ev.congr (fun k => if_pos h2) (Ev.now (allS, (0 : Int))), can_all⟩
    · rw [if_neg h2]
      refine Res.congr (fun k => if_neg h2) ?_
      have hsp := r8split_ev s 44 (by omega)
      refine Res.bind hsp ?_
      rw [List.length_map]
      by_cases h3 : (spl 44 [] s.data.toList).length > 64
      · rw [if_pos h3]
        exact Res.congr (fun k => if_pos (by omega)) (Ev.now _)
      · rw [if_neg h3]
        refine Res.congr (fun k => if_neg (by omega)) ?_
        have h0 := rparse0 (spl 44 [] s.data.toList) (by omega) (fun x hx => by have := spl_mem 44 _ [] x hx; simp only [List.length_nil] at this; omega) _ 0 [] [] rfl (by omega) (by simp)
        rw [List.drop_zero] at h0
        exact h0
theorem same8_0 (L : List Sn) (hl : L.length < 8796093022208) : ∀ (d i : Nat), L.length - i = d → i ≤ L.length → Ev (fun k => intrusionlaw08_same.l0 k L L (L.length : Int) (i : Int)) true := by
  intro d
  induction d with
  | zero =>
    intro i hd hi
    have : i = L.length := by omega
    subst this
    refine Ev.step (f := fun _ => some true) (fun k => ?_) (Ev.now _)
    simp only [intrusionlaw08_same.l0]; rw [if_neg (by omega)]
  | succ d ih =>
    intro i hd hi
    have hlt : i < L.length := by omega
    refine Ev.step (fun k => ?_) (ih (i + 1) (by omega) (by omega))
    simp only [intrusionlaw08_same.l0]
    rw [if_pos (by omega), if_pos (by omega), if_pos (by omega), if_pos (by omega), wrap_succ i (by omega)]
    simp
theorem same8_ev (L : List Sn) (hl : L.length < 8796093022208) : Ev (fun k => intrusionlaw08_same.f k L L) true := by
  have h := same8_0 L hl L.length 0 (by omega) (by omega)
  refine Ev.congr (fun k => ?_) h
  unfold intrusionlaw08_same.f
  rw [if_pos rfl]
  rfl
end Go.Proofs.YtbimdjciacnioaaDoor.Q
end

section
namespace Go.Proofs.YtbimdjciacnioaaDoor.Q
open Go.RowKit Go.Proofs.YtbimdjciacnioaaDoorW.PrintWords Go.Proofs.YtbimdjciacnioaaDoorW.PrintLast Go.Proofs.YtbimdjciacnioaaDoorW.PrintMore
attribute [local go_sem] max2_int min2_int max_two min_two max_three min_three max_four min_four
set_option linter.unusedVariables false
set_option linter.unusedSimpArgs false
def intrusionref08_digits.l0 : Nat → Int → ByteArray → Option (ByteArray)
  | 0, _, _ => none
  | k + 1, x0, x3 => (some (([(wrap64 (48 + (Int.tmod x0 10))) % 256] : List Int) : List Int)).bind fun y443 => (if (strOfNums y443).size + x3.size ≤ 9223372036854775807 then (if (wrap64 (Int.tdiv x0 10)) = 0 then (some ((strOfNums y443) ++ x3)) else (intrusionref08_digits.l0 k (wrap64 (Int.tdiv x0 10)) ((strOfNums y443) ++ x3))) else (none))
def intrusionref08_digits.f (k : Nat) (a0 : Int) : Option (ByteArray) := intrusionref08_digits.l0 k a0 (⟨#[]⟩ : ByteArray)
theorem intrusionref08_digits.mono_l : ∀ k, (∀ y0 y1, LeO (intrusionref08_digits.l0 k y0 y1) (intrusionref08_digits.l0 (k + 1) y0 y1))
  | 0 => fun _ _ r h => by simp [intrusionref08_digits.l0] at h
  | k + 1 => by
    have ih0 := intrusionref08_digits.mono_l k
    · intro y0 y1
      unfold intrusionref08_digits.l0
      repeat' first
      | (with_reducible exact ih0 _ _)
      | (with_reducible exact LeO.refl _)
      | (with_reducible exact LeO.none _)
      | (with_reducible refine LeO.ite ?_ ?_)
      | (with_reducible refine LeO.bind ?_ (fun _ => ?_))
      | exact ih0 _ _
      | exact LeO.none _
      | refine LeO.ite ?_ ?_
      | refine LeO.bind ?_ (fun _ => ?_)
theorem intrusionref08_digits.mono : ∀ a0 k, LeO (intrusionref08_digits.f k a0) (intrusionref08_digits.f (k + 1) a0) := by
  intro a0 k
  have ih0 := intrusionref08_digits.mono_l k
  unfold intrusionref08_digits.f
  repeat' first
      | (with_reducible exact ih0 _ _)
      | (with_reducible exact LeO.refl _)
      | (with_reducible exact LeO.none _)
      | (with_reducible refine LeO.ite ?_ ?_)
      | (with_reducible refine LeO.bind ?_ (fun _ => ?_))
      | exact ih0 _ _
      | exact LeO.none _
      | refine LeO.ite ?_ ?_
      | refine LeO.bind ?_ (fun _ => ?_)
end Go.Proofs.YtbimdjciacnioaaDoor.Q
end

section
namespace Go.Proofs.YtbimdjciacnioaaDoor.Q
open Go.RowKit Go.Proofs.YtbimdjciacnioaaDoorW.PrintWords Go.Proofs.YtbimdjciacnioaaDoorW.PrintLast Go.Proofs.YtbimdjciacnioaaDoorW.PrintMore
attribute [local go_sem] max2_int min2_int max_two min_two max_three min_three max_four min_four
set_option linter.unusedVariables false
set_option linter.unusedSimpArgs false
attribute [local go_sem high] eqA33
mutual
def intrusionref08_Format.l0 : Nat → List (S33) → ByteArray → Int → Option (ByteArray)
  | 0, _, _, _ => none
  | k + 1, x3, x4, x5 => if x5 < (x3.length : Int) then (if x5 > 0 then (if x4.size + 1 ≤ 9223372036854775807 then (intrusionref08_Format.j1 k x3 (x4 ++ (⟨#[44]⟩ : ByteArray)) x5) else (none)) else (intrusionref08_Format.j1 k x3 x4 x5)) else (some x4)
def intrusionref08_Format.j1 : Nat → List (S33) → ByteArray → Int → Option (ByteArray)
  | 0, _, _, _ => none
  | k + 1, x3, x4, x5 => if 0 ≤ x5 then (if x5 < (x3.length : Int) then ((intrusionref08_digits.f k ((rd_T33 x3 x5).f0)).bind fun t451 => (if x4.size + t451.size ≤ 9223372036854775807 then (if ((rd_T33 x3 x5).f0) = ((rd_T33 x3 x5).f1) then (intrusionref08_Format.l0 k x3 (x4 ++ t451) (wrap64 (x5 + 1))) else (if (x4 ++ t451).size + 1 ≤ 9223372036854775807 then ((intrusionref08_digits.f k ((rd_T33 x3 x5).f1)).bind fun t455 => (if ((x4 ++ t451) ++ (⟨#[58]⟩ : ByteArray)).size + t455.size ≤ 9223372036854775807 then (intrusionref08_Format.l0 k x3 (((x4 ++ t451) ++ (⟨#[58]⟩ : ByteArray)) ++ t455) (wrap64 (x5 + 1))) else (none))) else (none))) else (none))) else (none)) else (none)
end
def intrusionref08_Format.f (k : Nat) (l0 : List (S33)) : Option (ByteArray) := (intrusionref08_ports.f k l0).bind fun t446 => (if (t446.length : Int) = 0 then (some (⟨#[33, 48, 58, 54, 53, 53, 51, 53]⟩ : ByteArray)) else (if 0 < (t446.length : Int) then (if (((rd_T33 t446 0).f0) == 0 && (((rd_T33 t446 0).f1) == 65535)) = true then (some (⟨#[97, 110, 121]⟩ : ByteArray)) else (intrusionref08_Format.l0 k t446 (⟨#[]⟩ : ByteArray) 0)) else (none)))
theorem intrusionref08_Format.mono_l : ∀ k, (∀ y0 y1 y2, LeO (intrusionref08_Format.l0 k y0 y1 y2) (intrusionref08_Format.l0 (k + 1) y0 y1 y2)) ∧ (∀ y0 y1 y2, LeO (intrusionref08_Format.j1 k y0 y1 y2) (intrusionref08_Format.j1 (k + 1) y0 y1 y2))
  | 0 => ⟨fun _ _ _ r h => by simp [intrusionref08_Format.l0] at h, fun _ _ _ r h => by simp [intrusionref08_Format.j1] at h⟩
  | k + 1 => by
    obtain ⟨ih0, ih1⟩ := intrusionref08_Format.mono_l k
    refine ⟨?_, ?_⟩
    · intro y0 y1 y2
      unfold intrusionref08_Format.l0
      repeat' first
      | (with_reducible exact ih0 _ _ _)
      | (with_reducible exact ih1 _ _ _)
      | (with_reducible exact intrusionref08_digits.mono _ _)
      | (with_reducible exact intrusionref08_ports.mono _ _)
      | (with_reducible exact LeO.refl _)
      | (with_reducible exact LeO.none _)
      | (with_reducible refine LeO.ite ?_ ?_)
      | (with_reducible refine LeO.bind ?_ (fun _ => ?_))
      | exact ih0 _ _ _
      | exact ih1 _ _ _
      | exact intrusionref08_digits.mono _ _
      | exact intrusionref08_ports.mono _ _
      | exact LeO.none _
      | refine LeO.ite ?_ ?_
      | refine LeO.bind ?_ (fun _ => ?_)
    · intro y0 y1 y2
      unfold intrusionref08_Format.j1
      repeat' first
      | (with_reducible exact ih0 _ _ _)
      | (with_reducible exact ih1 _ _ _)
      | (with_reducible exact intrusionref08_digits.mono _ _)
      | (with_reducible exact intrusionref08_ports.mono _ _)
      | (with_reducible exact LeO.refl _)
      | (with_reducible exact LeO.none _)
      | (with_reducible refine LeO.ite ?_ ?_)
      | (with_reducible refine LeO.bind ?_ (fun _ => ?_))
      | exact ih0 _ _ _
      | exact ih1 _ _ _
      | exact intrusionref08_digits.mono _ _
      | exact intrusionref08_ports.mono _ _
      | exact LeO.none _
      | refine LeO.ite ?_ ?_
      | refine LeO.bind ?_ (fun _ => ?_)
theorem intrusionref08_Format.mono : ∀ a0 k, LeO (intrusionref08_Format.f k a0) (intrusionref08_Format.f (k + 1) a0) := by
  intro a0 k
  obtain ⟨ih0, ih1⟩ := intrusionref08_Format.mono_l k
  unfold intrusionref08_Format.f
  repeat' first
      | (with_reducible exact ih0 _ _ _)
      | (with_reducible exact ih1 _ _ _)
      | (with_reducible exact intrusionref08_digits.mono _ _)
      | (with_reducible exact intrusionref08_ports.mono _ _)
      | (with_reducible exact LeO.refl _)
      | (with_reducible exact LeO.none _)
      | (with_reducible refine LeO.ite ?_ ?_)
      | (with_reducible refine LeO.bind ?_ (fun _ => ?_))
      | exact ih0 _ _ _
      | exact ih1 _ _ _
      | exact intrusionref08_digits.mono _ _
      | exact intrusionref08_ports.mono _ _
      | exact LeO.none _
      | refine LeO.ite ?_ ?_
      | refine LeO.bind ?_ (fun _ => ?_)
end Go.Proofs.YtbimdjciacnioaaDoor.Q
end
