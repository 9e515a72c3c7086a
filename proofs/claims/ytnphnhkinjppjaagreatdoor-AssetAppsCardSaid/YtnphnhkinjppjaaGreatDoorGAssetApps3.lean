/- The law AssetApps answers true for every input and leaves its arguments as they were. No condition. (Part 3 of 5: the kit's printed words and walks, hand-made contracts and plain laws, joined in build order, without what the theorem does not reach.) -/
import Derived.Test.YtnphnhkinjppjaaGreatDoorGAssetApps2
section
namespace Go.Proofs.YtnphnhkinjppjaaGreatDoor.Q
open Go.RowKit Go.Proofs.YtnphnhkinjppjaaGreatDoorW.PrintWords Go.Proofs.YtnphnhkinjppjaaGreatDoorW.PrintLast Go.Proofs.YtnphnhkinjppjaaGreatDoorW.PrintMore
attribute [local go_sem] max2_int min2_int max_two min_two max_three min_three max_four min_four
set_option linter.unusedVariables false
set_option linter.unusedSimpArgs false
def address_groups.l0 : Nat → List Int → List ByteArray → Int → Int → Option (List Int × Bool)
  | 0, _, _, _, _ => none
  | k + 1, x4, x12, x13, x14 => if x14 < x13 then (if 0 ≤ x14 then (if x14 < (x12.length : Int) then ((address_group.f k (rdOf ByteArray.empty x12 x14)).bind fun bt204 => (if bt204.2 = true then (if x4.length < 17592186044416 then (address_groups.l0 k (x4 ++ [bt204.1]) x12 x13 (wrap64 (x14 + 1))) else (none)) else (some (([] : List Int), false)))) else (none)) else (none)) else (some (x4, true))
def address_groups.f (k : Nat) (a0 : ByteArray) : Option (List Int × Bool) := if a0.toList = ([] : List UInt8) then (some (([] : List Int), true)) else ((strings_Split.f a0 (⟨#[58]⟩ : ByteArray)).bind fun t200 => (address_groups.l0 k ([] : List Int) t200 (t200.length : Int) 0))
theorem address_groups.mono_l : ∀ k, (∀ y0 y1 y2 y3, LeO (address_groups.l0 k y0 y1 y2 y3) (address_groups.l0 (k + 1) y0 y1 y2 y3))
  | 0 => fun _ _ _ _ r h => by simp [address_groups.l0] at h
  | k + 1 => by
    have ih0 := address_groups.mono_l k
    · intro y0 y1 y2 y3
      unfold address_groups.l0
      repeat' first
      | (with_reducible exact ih0 _ _ _ _)
      | (with_reducible exact address_group.mono _ _)
      | (with_reducible exact LeO.refl _)
      | (with_reducible exact LeO.none _)
      | (with_reducible refine LeO.ite ?_ ?_)
      | (with_reducible refine LeO.bind ?_ (fun _ => ?_))
      | exact ih0 _ _ _ _
      | exact address_group.mono _ _
      | exact LeO.none _
      | refine LeO.ite ?_ ?_
      | refine LeO.bind ?_ (fun _ => ?_)
theorem address_groups.mono : ∀ a0 k, LeO (address_groups.f k a0) (address_groups.f (k + 1) a0) := by
  intro a0 k
  have ih0 := address_groups.mono_l k
  unfold address_groups.f
  repeat' first
      | (with_reducible exact ih0 _ _ _ _)
      | (with_reducible exact address_group.mono _ _)
      | (with_reducible exact LeO.refl _)
      | (with_reducible exact LeO.none _)
      | (with_reducible refine LeO.ite ?_ ?_)
      | (with_reducible refine LeO.bind ?_ (fun _ => ?_))
      | exact ih0 _ _ _ _
      | exact address_group.mono _ _
      | exact LeO.none _
      | refine LeO.ite ?_ ?_
      | refine LeO.bind ?_ (fun _ => ?_)
set_option maxHeartbeats 8000000 in
set_option maxRecDepth 100000 in
theorem address_groups.calls (k : Nat) (a0 : ByteArray) (r1 : List Int) (r2 : Bool) (w : World) (h : address_groups.f k a0 = some (r1, r2)) (hW_ : WOK w) :
 Calls Tryz.prog 153 #[.string a0] w fun e w' => ∃ v0_ : Value, e = .returned (.tuple #[v0_, .bool r2]) ∧ Kd.R (Kd.int .u64) 29 w' w.heap.size (fun _ => True) v0_ r1 ∧ Below w.heap.size w w' := by
 have HB := Aside0.mk (Below.refl w.heap.size w)
 unfold address_groups.f at h; have H := h
 clear h
 by_cases c2 : a0.toList = ([] : List UInt8)
 · rw [if_pos c2] at H
   have c2b0 : (a0.toList == ([] : List UInt8)) = true := beq_iff_eq.mpr c2
   have c2b1 : (a0.toList != ([] : List UInt8)) = false := bne_eq_false_iff_eq.mpr c2
   clear c2
   simp only [Option.some.injEq, Prod.mk.injEq] at H
   obtain ⟨rfl, rfl⟩ := H
   go_enter Tryz.func153, Tryz.ntmps153
   go_wp2
   go_ret2
   exact ⟨_, by first | rfl | (simp [errW_none, errW_some] <;> rfl) | (simp [*, errW_none, errW_some] <;> rfl), by first | exact Kd.R_nil _ _ _ _ _ | exact Kd.N_nil _ _ _ _ _ | exact Kd.V_nil _ _ _ _ _ | exact Kd.Q_nil _ _ _ _ _ | exact Kd.S_nil _ _ _ _ _, by repeat (first | (with_reducible first | exact HB.out | apply below_alloc | apply pw_below_drewN | apply below_drew1) | exact HB.out)⟩
 · rw [if_neg c2] at H
   have c2b0 : (a0.toList == ([] : List UInt8)) = false := beq_eq_false_iff_ne.mpr c2
   have c2b1 : (a0.toList != ([] : List UInt8)) = true := bne_iff_ne.mpr c2
   replace H := Option.bind_eq_some_iff.mp H
   obtain ⟨t200, A30, H⟩ := H
   replace H : (address_groups.l0 k ([] : List Int) t200 (t200.length : Int) 0) = some (r1, r2) := H
   have A3 := Aside0.mk A30
   clear A30
   have H' := Aside0.mk H
   clear H
   go_enter Tryz.func153, Tryz.ntmps153
   go_wp2_with (first | ((with_reducible refine gate_callee (f := 151) rfl ?_); refine goesL_ (some 12) rfl rfl Tryz.func151 (by kernel_rfl) rfl #[.string a0, .string (⟨#[58]⟩ : ByteArray)] rfl (by (try simp only [List.map_toArray, List.map_cons, List.map_nil]); first | done | rfl | (simp only [List.length_drop, List.length_take]; rfl)) ?_; (with_reducible refine (strings_Split.calls a0 (⟨#[58]⟩ : ByteArray) t200 _ A3.out (WOK.below hW_ (zB HB))).mono ?_); rintro e w4 ⟨v201, rfl, ho0, hb⟩; refine ⟨_, rfl, ?_⟩; have HO202 := Aside0.mk (Kd.R_lower ho0 (below_size (zB HB))); replace HB := Aside0.mk (below_step (zB HB) hb); (try clear hb); (try clear ho0); obtain ⟨Ao5, co5, eo5⟩ := Kd.R_slice HO202.out; subst eo5))
   go_loopg [4, 14] k (fun kq v4 v14 w' => ∃ (x4_1 : List Int) (x14_1 : Int), v14 = .int .i64 x14_1 ∧ Aside0 (address_groups.l0 kq x4_1 t200 (t200.length : Int) x14_1 = some (r1, r2)) ∧ Aside0 (kq ≤ k) ∧ Aside0 (Kd.R (Kd.int .u64) 29 w' w.heap.size (fun _ => True) v4 x4_1) ∧ Aside0 (Kd.R Kd.string 9 w' w.heap.size (fun _ => True) (.slice Ao5 t200.length co5) t200) ∧ Aside0 (Below w.heap.size w w'))
   case atStart => exact ⟨(([] : List Int)), (0), (by first | rfl | (simp; done) | (simp [*]; done)), H', ⟨Nat.le_refl _⟩, ⟨by first | exact Kd.R_nil _ _ _ _ _ | exact Kd.N_nil _ _ _ _ _ | exact Kd.V_nil _ _ _ _ _ | exact Kd.Q_nil _ _ _ _ _ | exact Kd.S_nil _ _ _ _ _⟩, ⟨zR HO202⟩, ⟨zB HB⟩⟩
   case round =>
    clear H'
    try clear c1
    try clear c2
    try clear c2b0
    try clear c2b1
    try clear p2
    obtain ⟨x4_1, x14_1, rfl, HA, HK1, HO_4, HO_12, HB⟩ := hrel
    cases gk with
    | zero => exact absurd HA.out (by simp [address_groups.l0])
    | succ k1 =>
     have H := HA.out
     clear HA
     simp only [address_groups.l0] at H
     by_cases c6 : x14_1 < (t200.length : Int)
     · rw [if_pos c6] at H
       have c6b0 : decide (x14_1 < (t200.length : Int)) = true := decide_eq_true c6
       clear c6
       by_cases c7 : 0 ≤ x14_1
       · rw [if_pos c7] at H
         have c7b0 : decide (0 ≤ x14_1) = true := decide_eq_true c7
         clear c7
         by_cases c8 : x14_1 < (t200.length : Int)
         · rw [if_pos c8] at H
           have c8b0 : decide (x14_1 < (t200.length : Int)) = true := decide_eq_true c8
           clear c8
           replace H := Option.bind_eq_some_iff.mp H
           obtain ⟨⟨t204, t205⟩, A90, H⟩ := H
           replace H : (if t205 = true then (if x4_1.length < 17592186044416 then (address_groups.l0 k1 (x4_1 ++ [t204]) t200 (t200.length : Int) (wrap64 (x14_1 + 1))) else (none)) else (some (([] : List Int), false))) = some (r1, r2) := H
           have A9 := Aside0.mk A90
           clear A90
           by_cases c10 : t205 = true
           · subst c10
             rw [if_pos rfl] at H
             by_cases c11 : x4_1.length < 17592186044416
             · rw [if_pos c11] at H
               have LMc11 := Aside0.mk c11
               clear c11
               obtain ⟨y206, hy206⟩ : ∃ y_ : List Int, y_ = (x4_1 ++ [t204]) := ⟨_, rfl⟩
               rw [← hy206] at H; try dsimp only [Option.bind_some] at H
               have Ny206 := Aside0.mk hy206
               clear hy206
               have H' := Aside0.mk H
               clear H
               have p203 : 0 ≤ (x14_1 : Int) := za
               have q203 : x14_1 < (t200.length : Int) := za
               obtain ⟨ad203, e203, hx203_0⟩ := Kd.at_string (Kd.R_reads' HO_12.out).2.2 x14_1 p203 q203
               cases e203
               replace p203 := eq_true p203
               replace q203 := eq_true q203
               go_wp2_with (first | ((with_reducible refine gate_callee (f := 166) rfl ?_); refine goesL_ (some 20) rfl rfl Tryz.func166 (by kernel_rfl) rfl #[.string (rdOf ByteArray.empty t200 x14_1)] rfl (by (try simp only [List.map_toArray, List.map_cons, List.map_nil]); first | done | rfl | (simp only [List.length_drop, List.length_take]; rfl)) ?_; (with_reducible refine (address_group.calls k1 (rdOf ByteArray.empty t200 x14_1) t204 true _ A9.out).mono ?_); rintro e w' ⟨rfl, ⟨nd, rfl⟩⟩; refine ⟨_, rfl, ?_⟩) | ((with_reducible refine gate_builtin (b := .append) (xs := #[.tmp 25, .tmp 27]) rfl ?_); at_builtin; refine Kd.R_append (Kd.int .u64) (w0 := w) w.heap.size rfl (.tmp 25) (.tmp 27) 174 29 (.int .u64 0) 8 rfl Tryz.underlying174 info29 rfl (by decide) (by omega) u4 x4_1 t204 [.int .u64 t204] (fun _ => True) (fun _ => False) rfl rfl ?aP (fun _ hk => hk.elim) ?aF ?aO ?aB ?aS ?aL ?_; (case aP => exact rfl); (case aB => exact (zB HB)); (case aF => exact (fun _ _ => trivial)); (case aO => exact (zR HO_4)); (case aS => exact (below_size (zB HB))); (case aL => have := LMc11.out; omega); intro v207 w12 ho hb hg hat; rw [← Ny206.out] at ho; replace HO_12 := Aside0.mk (Kd.R_over' (zR HO_12) (Kd.R_typed (zR HO_4)) (by decide) hg); replace HB := Aside0.mk (hb); have HO208 := Aside0.mk (ho); clear HO_4; clear ho hb hg hat))
               go_roundg k1
               case measure => have := HK1.out; omega
               case rel => exact ⟨(y206), (wrap64 (x14_1 + 1)), (by first | rfl | (simp; done) | (simp [*]; done)), H', ⟨by have := HK1.out; omega⟩, ⟨zR HO208⟩, ⟨zR HO_12⟩, ⟨zB HB⟩⟩
             · rw [if_neg c11] at H
               exact absurd H (by simp)
           · replace c10 := Bool.eq_false_iff.mpr c10
             subst c10
             rw [if_neg zF] at H
             simp only [Option.some.injEq, Prod.mk.injEq] at H
             obtain ⟨rfl, rfl⟩ := H
             have p203 : 0 ≤ (x14_1 : Int) := za
             have q203 : x14_1 < (t200.length : Int) := za
             obtain ⟨ad203, e203, hx203_0⟩ := Kd.at_string (Kd.R_reads' HO_12.out).2.2 x14_1 p203 q203
             cases e203
             replace p203 := eq_true p203
             replace q203 := eq_true q203
             go_wp2_with (first | ((with_reducible refine gate_callee (f := 166) rfl ?_); refine goesL_ (some 20) rfl rfl Tryz.func166 (by kernel_rfl) rfl #[.string (rdOf ByteArray.empty t200 x14_1)] rfl (by (try simp only [List.map_toArray, List.map_cons, List.map_nil]); first | done | rfl | (simp only [List.length_drop, List.length_take]; rfl)) ?_; (with_reducible refine (address_group.calls k1 (rdOf ByteArray.empty t200 x14_1) t204 false _ A9.out).mono ?_); rintro e w' ⟨rfl, ⟨nd, rfl⟩⟩; refine ⟨_, rfl, ?_⟩))
             go_ret2
             exact ⟨_, by first | rfl | (simp [errW_none, errW_some] <;> rfl) | (simp [*, errW_none, errW_some] <;> rfl), by first | exact Kd.R_nil _ _ _ _ _ | exact Kd.N_nil _ _ _ _ _ | exact Kd.V_nil _ _ _ _ _ | exact Kd.Q_nil _ _ _ _ _ | exact Kd.S_nil _ _ _ _ _, by repeat (first | (with_reducible first | exact HB.out | apply below_alloc | apply pw_below_drewN | apply below_drew1) | exact HB.out)⟩
         · rw [if_neg c8] at H
           exact absurd H (by simp)
       · rw [if_neg c7] at H
         exact absurd H (by simp)
     · rw [if_neg c6] at H
       have c6b0 : decide (x14_1 < (t200.length : Int)) = false := decide_eq_false c6
       clear c6
       simp only [Option.some.injEq, Prod.mk.injEq] at H
       obtain ⟨rfl, rfl⟩ := H
       go_wp2
       go_ret2
       exact ⟨_, by first | rfl | (simp [errW_none, errW_some] <;> rfl) | (simp [*, errW_none, errW_some] <;> rfl), by (with_reducible repeat (first | apply Kd.R_alloc | apply Kd.R_drewN | apply Kd.R_drew)); exact HO_4.out, by repeat (first | (with_reducible first | exact HB.out | apply below_alloc | apply pw_below_drewN | apply below_drew1) | exact HB.out)⟩
end Go.Proofs.YtnphnhkinjppjaaGreatDoor.Q
end

section
namespace Go.Proofs.YtnphnhkinjppjaaGreatDoor.Q
open Go.RowKit Go.Proofs.YtnphnhkinjppjaaGreatDoorW.PrintWords Go.Proofs.YtnphnhkinjppjaaGreatDoorW.PrintLast Go.Proofs.YtnphnhkinjppjaaGreatDoorW.PrintMore
attribute [local go_sem] max2_int min2_int max_two min_two max_three min_three max_four min_four
set_option linter.unusedVariables false
set_option linter.unusedSimpArgs false
mutual
def address_parse6.j2 : Nat → List Int → List Int → Option (Bool × Int × Int × Bool)
  | 0, _, _ => none
  | k + 1, x7, x9 => address_parse6.l0 k x7 x9
def address_parse6.l0 : Nat → List Int → List Int → Option (Bool × Int × Int × Bool)
  | 0, _, _ => none
  | k + 1, x7, x9 => if (wrap64 ((x7.length : Int) + (x9.length : Int))) < 8 then (if x7.length < 17592186044416 then (address_parse6.l0 k (x7 ++ [0]) x9) else (none)) else (if x7.length + x9.length < 17592186044416 then ((some (x7 ++ x9 : List Int)).bind fun y225 => (address_parse6.l1 k y225 (y225.length : Int) 0 true 0 0)) else (none))
def address_parse6.l1 : Nat → List Int → Int → Int → Bool → Int → Int → Option (Bool × Int × Int × Bool)
  | 0, _, _, _, _, _, _ => none
  | k + 1, x70, x71, x72, x225000, x225001, x225002 => if x72 < x71 then (if 0 ≤ x72 then (if x72 < (x70.length : Int) then (if x72 < 4 then (address_parse6.l1 k x70 x71 (wrap64 (x72 + 1)) x225000 (Go.bits .or .u64 (IntKind.u64.wrap (x225001 * 65536)) (rd x70 x72)) x225002) else (address_parse6.l1 k x70 x71 (wrap64 (x72 + 1)) x225000 x225001 (Go.bits .or .u64 (IntKind.u64.wrap (x225002 * 65536)) (rd x70 x72)))) else (none)) else (none)) else (some (x225000, x225001, x225002, true))
def address_parse6.j0 : Nat → Bool → List Int → List Int → Bool → Option (Bool × Int × Int × Bool)
  | 0, _, _, _, _ => none
  | k + 1, x6, x7, x9, x30 => if x30 = true then (some (false, 0, 0, false)) else (if x6 = true then (address_parse6.j1 k x6 x7 x9 false) else (address_parse6.j1 k x6 x7 x9 ((x7.length : Int) != 8)))
def address_parse6.j1 : Nat → Bool → List Int → List Int → Bool → Option (Bool × Int × Int × Bool)
  | 0, _, _, _, _ => none
  | k + 1, x6, x7, x9, x38 => if x38 = true then (some (false, 0, 0, false)) else (if x6 = true then (if (wrap64 ((x7.length : Int) + (x9.length : Int))) > 7 then (some (false, 0, 0, false)) else (address_parse6.j2 k x7 x9)) else (address_parse6.j2 k x7 x9))
end
def address_parse6.f (k : Nat) (a0 : ByteArray) : Option (Bool × Int × Int × Bool) := (strings_Cut.f a0 (⟨#[58, 58]⟩ : ByteArray)).bind fun bt210 => ((address_groups.f k bt210.1).bind fun bt213 => ((address_groups.f k bt210.2.1).bind fun bt217 => (if bt213.2 = true then (address_parse6.j0 k bt210.2.2 bt213.1 bt217.1 (!bt217.2)) else (address_parse6.j0 k bt210.2.2 bt213.1 bt217.1 true))))
theorem address_parse6.mono_l : ∀ k, (∀ y0 y1, LeO (address_parse6.j2 k y0 y1) (address_parse6.j2 (k + 1) y0 y1)) ∧ (∀ y0 y1, LeO (address_parse6.l0 k y0 y1) (address_parse6.l0 (k + 1) y0 y1)) ∧ (∀ y0 y1 y2 y3 y4 y5, LeO (address_parse6.l1 k y0 y1 y2 y3 y4 y5) (address_parse6.l1 (k + 1) y0 y1 y2 y3 y4 y5)) ∧ (∀ y0 y1 y2 y3, LeO (address_parse6.j0 k y0 y1 y2 y3) (address_parse6.j0 (k + 1) y0 y1 y2 y3)) ∧ (∀ y0 y1 y2 y3, LeO (address_parse6.j1 k y0 y1 y2 y3) (address_parse6.j1 (k + 1) y0 y1 y2 y3))
  | 0 => ⟨fun _ _ r h => by simp [address_parse6.j2] at h, fun _ _ r h => by simp [address_parse6.l0] at h, fun _ _ _ _ _ _ r h => by simp [address_parse6.l1] at h, fun _ _ _ _ r h => by simp [address_parse6.j0] at h, fun _ _ _ _ r h => by simp [address_parse6.j1] at h⟩
  | k + 1 => by
    obtain ⟨ih0, ih1, ih2, ih3, ih4⟩ := address_parse6.mono_l k
    refine ⟨?_, ?_, ?_, ?_, ?_⟩
    · intro y0 y1
      unfold address_parse6.j2
      repeat' first
      | (with_reducible exact ih0 _ _)
      | (with_reducible exact ih1 _ _)
      | (with_reducible exact ih2 _ _ _ _ _ _)
      | (with_reducible exact ih3 _ _ _ _)
      | (with_reducible exact ih4 _ _ _ _)
      | (with_reducible exact address_groups.mono _ _)
      | (with_reducible exact LeO.refl _)
      | (with_reducible exact LeO.none _)
      | (with_reducible refine LeO.ite ?_ ?_)
      | (with_reducible refine LeO.bind ?_ (fun _ => ?_))
      | exact ih0 _ _
      | exact ih1 _ _
      | exact ih2 _ _ _ _ _ _
      | exact ih3 _ _ _ _
      | exact ih4 _ _ _ _
      | exact address_groups.mono _ _
      | exact LeO.none _
      | refine LeO.ite ?_ ?_
      | refine LeO.bind ?_ (fun _ => ?_)
    · intro y0 y1
      unfold address_parse6.l0
      repeat' first
      | (with_reducible exact ih0 _ _)
      | (with_reducible exact ih1 _ _)
      | (with_reducible exact ih2 _ _ _ _ _ _)
      | (with_reducible exact ih3 _ _ _ _)
      | (with_reducible exact ih4 _ _ _ _)
      | (with_reducible exact address_groups.mono _ _)
      | (with_reducible exact LeO.refl _)
      | (with_reducible exact LeO.none _)
      | (with_reducible refine LeO.ite ?_ ?_)
      | (with_reducible refine LeO.bind ?_ (fun _ => ?_))
      | exact ih0 _ _
      | exact ih1 _ _
      | exact ih2 _ _ _ _ _ _
      | exact ih3 _ _ _ _
      | exact ih4 _ _ _ _
      | exact address_groups.mono _ _
      | exact LeO.none _
      | refine LeO.ite ?_ ?_
      | refine LeO.bind ?_ (fun _ => ?_)
    · intro y0 y1 y2 y3 y4 y5
      unfold address_parse6.l1
      repeat' first
      | (with_reducible exact ih0 _ _)
      | (with_reducible exact ih1 _ _)
      | (with_reducible exact ih2 _ _ _ _ _ _)
      | (with_reducible exact ih3 _ _ _ _)
      | (with_reducible exact ih4 _ _ _ _)
      | (with_reducible exact address_groups.mono _ _)
      | (with_reducible exact LeO.refl _)
      | (with_reducible exact LeO.none _)
      | (with_reducible refine LeO.ite ?_ ?_)
      | (with_reducible refine LeO.bind ?_ (fun _ => ?_))
      | exact ih0 _ _
      | exact ih1 _ _
      | exact ih2 _ _ _ _ _ _
      | exact ih3 _ _ _ _
      | exact ih4 _ _ _ _
      | exact address_groups.mono _ _
      | exact LeO.none _
      | refine LeO.ite ?_ ?_
      | refine LeO.bind ?_ (fun _ => ?_)
    · intro y0 y1 y2 y3
      unfold address_parse6.j0
      repeat' first
      | (with_reducible exact ih0 _ _)
      | (with_reducible exact ih1 _ _)
      | (with_reducible exact ih2 _ _ _ _ _ _)
      | (with_reducible exact ih3 _ _ _ _)
      | (with_reducible exact ih4 _ _ _ _)
      | (with_reducible exact address_groups.mono _ _)
      | (with_reducible exact LeO.refl _)
      | (with_reducible exact LeO.none _)
      | (with_reducible refine LeO.ite ?_ ?_)
      | (with_reducible refine LeO.bind ?_ (fun _ => ?_))
      | exact ih0 _ _
      | exact ih1 _ _
      | exact ih2 _ _ _ _ _ _
      | exact ih3 _ _ _ _
      | exact ih4 _ _ _ _
      | exact address_groups.mono _ _
      | exact LeO.none _
      | refine LeO.ite ?_ ?_
      | refine LeO.bind ?_ (fun _ => ?_)
    · intro y0 y1 y2 y3
      unfold address_parse6.j1
      repeat' first
      | (with_reducible exact ih0 _ _)
      | (with_reducible exact ih1 _ _)
      | (with_reducible exact ih2 _ _ _ _ _ _)
      | (with_reducible exact ih3 _ _ _ _)
      | (with_reducible exact ih4 _ _ _ _)
      | (with_reducible exact address_groups.mono _ _)
      | (with_reducible exact LeO.refl _)
      | (with_reducible exact LeO.none _)
      | (with_reducible refine LeO.ite ?_ ?_)
      | (with_reducible refine LeO.bind ?_ (fun _ => ?_))
      | exact ih0 _ _
      | exact ih1 _ _
      | exact ih2 _ _ _ _ _ _
      | exact ih3 _ _ _ _
      | exact ih4 _ _ _ _
      | exact address_groups.mono _ _
      | exact LeO.none _
      | refine LeO.ite ?_ ?_
      | refine LeO.bind ?_ (fun _ => ?_)
theorem address_parse6.mono : ∀ a0 k, LeO (address_parse6.f k a0) (address_parse6.f (k + 1) a0) := by
  intro a0 k
  obtain ⟨ih0, ih1, ih2, ih3, ih4⟩ := address_parse6.mono_l k
  unfold address_parse6.f
  repeat' first
      | (with_reducible exact ih0 _ _)
      | (with_reducible exact ih1 _ _)
      | (with_reducible exact ih2 _ _ _ _ _ _)
      | (with_reducible exact ih3 _ _ _ _)
      | (with_reducible exact ih4 _ _ _ _)
      | (with_reducible exact address_groups.mono _ _)
      | (with_reducible exact LeO.refl _)
      | (with_reducible exact LeO.none _)
      | (with_reducible refine LeO.ite ?_ ?_)
      | (with_reducible refine LeO.bind ?_ (fun _ => ?_))
      | exact ih0 _ _
      | exact ih1 _ _
      | exact ih2 _ _ _ _ _ _
      | exact ih3 _ _ _ _
      | exact ih4 _ _ _ _
      | exact address_groups.mono _ _
      | exact LeO.none _
      | refine LeO.ite ?_ ?_
      | refine LeO.bind ?_ (fun _ => ?_)
set_option maxHeartbeats 8000000 in
set_option maxRecDepth 100000 in
theorem address_parse6.calls (k : Nat) (a0 : ByteArray) (r1 : Bool) (r2 : Int) (r3 : Int) (r4 : Bool) (w : World) (h : address_parse6.f k a0 = some (r1, r2, r3, r4)) (hW_ : WOK w) :
 Calls Tryz.prog 134 #[.string a0] w fun e w' => e = .returned (.tuple #[.agg #[.bool r1, .int .u64 r2, .int .u64 r3], .bool r4]) ∧ Below w.heap.size w w' := by
 have hu31 := Tryz.underlying31
 have HB := Aside0.mk (Below.refl w.heap.size w)
 unfold address_parse6.f at h; have H := h
 clear h
 replace H := Option.bind_eq_some_iff.mp H
 obtain ⟨⟨t210, t211, t212⟩, A20, H⟩ := H
 replace H : ((address_groups.f k t210).bind fun bt213 => ((address_groups.f k t211).bind fun bt217 => (if bt213.2 = true then (address_parse6.j0 k t212 bt213.1 bt217.1 (!bt217.2)) else (address_parse6.j0 k t212 bt213.1 bt217.1 true)))) = some (r1, r2, r3, r4) := H
 have A2 := Aside0.mk A20
 clear A20
 replace H := Option.bind_eq_some_iff.mp H
 obtain ⟨⟨t213, t214⟩, A30, H⟩ := H
 replace H : ((address_groups.f k t211).bind fun bt217 => (if t214 = true then (address_parse6.j0 k t212 t213 bt217.1 (!bt217.2)) else (address_parse6.j0 k t212 t213 bt217.1 true))) = some (r1, r2, r3, r4) := H
 have A3 := Aside0.mk A30
 clear A30
 replace H := Option.bind_eq_some_iff.mp H
 obtain ⟨⟨t217, t218⟩, A40, H⟩ := H
 replace H : (if t214 = true then (address_parse6.j0 k t212 t213 t217 (!t218)) else (address_parse6.j0 k t212 t213 t217 true)) = some (r1, r2, r3, r4) := H
 have A4 := Aside0.mk A40
 clear A40
 have HC5 := Aside0.mk H
 clear H
 go_enter Tryz.func134, Tryz.ntmps134
 go_upto_block 0 with (first | ((with_reducible refine gate_dst (N := 2) rfl ?_); (try (refine gate_guard (by rfl) ?_; dsimp only)); refine zx 2 #[.bool false, .int .u64 0, .int .u64 0] 31 ?_; intro gb209 hg w6 hbox hb; have BK209 := Aside0.mk (hbox); have GW209 := Aside0.mk ((by rw [hg]; exact (below_size (zB HB)) : w.heap.size ≤ gb209)); have GE209 := Aside0.mk ((by rw [hg]; exact (below_size (zB HB)) : w.heap.size ≤ gb209)); replace HB := Aside0.mk (below_step (zB HB) hb); clear hb hbox hg) | ((with_reducible refine gate_callee (f := 104) rfl ?_); refine goesL_ (some 16) rfl rfl Tryz.func104 (by kernel_rfl) rfl #[.string a0, .string (⟨#[58, 58]⟩ : ByteArray)] rfl (by (try simp only [List.map_toArray, List.map_cons, List.map_nil]); first | done | rfl | (simp only [List.length_drop, List.length_take]; rfl)) ?_; (with_reducible refine (strings_Cut.calls a0 (⟨#[58, 58]⟩ : ByteArray) t210 t211 t212 _ A2.out (WOK.below hW_ (zB HB))).mono ?_); rintro e w7 ⟨rfl, hb⟩; refine ⟨_, rfl, ?_⟩; replace BK209 := Aside0.mk (blk_below (g := gb209) (o := .cells #[.bool false, .int .u64 0, .int .u64 0] 31 (0, 0)) (zK BK209) hb); replace HB := Aside0.mk (below_step (zB HB) hb); (try clear hb)) | ((with_reducible refine gate_callee (f := 153) rfl ?_); refine goesL_ (some 22) rfl rfl Tryz.func153 (by kernel_rfl) rfl #[.string t210] rfl (by (try simp only [List.map_toArray, List.map_cons, List.map_nil]); first | done | rfl | (simp only [List.length_drop, List.length_take]; rfl)) ?_; (with_reducible refine (address_groups.calls k t210 t213 t214 _ A3.out (WOK.below hW_ (zB HB))).mono ?_); rintro e w8 ⟨v215, rfl, ho0, hb⟩; refine ⟨_, rfl, ?_⟩; have HO216 := Aside0.mk (Kd.R_lower ho0 (below_size (zB HB))); replace BK209 := Aside0.mk (blk_below (g := gb209) (o := .cells #[.bool false, .int .u64 0, .int .u64 0] 31 (0, 0)) (zK BK209) hb); replace HB := Aside0.mk (below_step (zB HB) hb); (try clear hb); (try clear ho0)) | ((with_reducible refine gate_callee (f := 153) rfl ?_); refine goesL_ (some 27) rfl rfl Tryz.func153 (by kernel_rfl) rfl #[.string t211] rfl (by (try simp only [List.map_toArray, List.map_cons, List.map_nil]); first | done | rfl | (simp only [List.length_drop, List.length_take]; rfl)) ?_; (with_reducible refine (address_groups.calls k t211 t217 t218 _ A4.out (WOK.below hW_ (zB HB))).mono ?_); rintro e w9 ⟨v219, rfl, ho0, hb⟩; refine ⟨_, rfl, ?_⟩; have HO220 := Aside0.mk (Kd.R_lower (Kd.R_new' ho0 (Kd.R_lt (zR HO216))) (below_size (zB HB))); replace HO216 := Aside0.mk (Kd.R_elder' (zR HO216) (Kd.R_base ho0) hb); replace BK209 := Aside0.mk (blk_below (g := gb209) (o := .cells #[.bool false, .int .u64 0, .int .u64 0] 31 (0, 0)) (zK BK209) hb); replace HB := Aside0.mk (below_step (zB HB) hb); (try clear hb); (try clear ho0)))
 (try simp only [Act.put, List.setIfInBounds_toArray, List.set_cons_zero, List.set_cons_succ])
 go_cut [] (fun wc => ∃ (kq : Nat) (x210000_4 : Bool) (x210001_4 : Int) (x210002_4 : Int), Aside0 (address_parse6.j2 kq t213 t217 = some (r1, r2, r3, r4)) ∧ Aside0 (kq ≤ k) ∧ Aside0 (Kd.R (Kd.int .u64) 29 wc w.heap.size (fun k_ => some k_ ≠ (v219 : Value).ownBlock) v215 t213) ∧ Aside0 (Kd.R (Kd.int .u64) 29 wc w.heap.size (fun k_ => some k_ ≠ (v215 : Value).ownBlock) v219 t217) ∧ Aside0 (wc.heap[gb209]? = some (.cells #[.bool x210000_4, .int .u64 x210001_4, .int .u64 x210002_4] 31 (0, 0))) ∧ Aside0 (Below w.heap.size w wc))
 case first =>
  have H := HC5.out
  clear HC5
  have HC10 := Aside0.mk H
  clear H
  go_upto_region 4 with (fail)
  go_cut [30] (fun v30 wc => ∃ (kq : Nat) (x30_9 : Bool), v30 = .bool x30_9 ∧ Aside0 (address_parse6.j0 kq t212 t213 t217 x30_9 = some (r1, r2, r3, r4)) ∧ Aside0 (kq ≤ k) ∧ Aside0 (Kd.R (Kd.int .u64) 29 wc w.heap.size (fun k_ => some k_ ≠ (v219 : Value).ownBlock) v215 t213) ∧ Aside0 (Kd.R (Kd.int .u64) 29 wc w.heap.size (fun k_ => some k_ ≠ (v215 : Value).ownBlock) v219 t217) ∧ Aside0 (wc.heap[gb209]? = some (.cells #[.bool false, .int .u64 0, .int .u64 0] 31 (0, 0))) ∧ Aside0 (Below w.heap.size w wc))
  case first =>
   have H := HC10.out
   clear HC10
   by_cases c11 : t214 = true
   · subst c11
     rw [if_pos rfl] at H
     have H' := Aside0.mk H
     clear H
     go_wp2
     go_meet
     case rel => exact ⟨_, (!t218), (by first | rfl | (simp; done) | (simp [*]; done)), H', ⟨by first | omega | exact Nat.le_refl _⟩, ⟨by (with_reducible repeat (first | apply Kd.R_alloc | apply Kd.R_drewN | apply Kd.R_drew)); exact Kd.R_mono HO216.out (fun _ hk => hk.2)⟩, ⟨by (with_reducible repeat (first | apply Kd.R_alloc | apply Kd.R_drewN | apply Kd.R_drew)); exact Kd.R_mono HO220.out (fun _ hk => hk.2)⟩, ⟨zK BK209⟩, ⟨zB HB⟩⟩
   · replace c11 := Bool.eq_false_iff.mpr c11
     subst c11
     rw [if_neg zF] at H
     have H' := Aside0.mk H
     clear H
     go_wp2
     go_meet
     case rel => exact ⟨_, (true), (by first | rfl | (simp; done) | (simp [*]; done)), H', ⟨by first | omega | exact Nat.le_refl _⟩, ⟨by (with_reducible repeat (first | apply Kd.R_alloc | apply Kd.R_drewN | apply Kd.R_drew)); exact Kd.R_mono HO216.out (fun _ hk => hk.2)⟩, ⟨by (with_reducible repeat (first | apply Kd.R_alloc | apply Kd.R_drewN | apply Kd.R_drew)); exact Kd.R_mono HO220.out (fun _ hk => hk.2)⟩, ⟨zK BK209⟩, ⟨zB HB⟩⟩
  case rest =>
   clear HC10
   try clear c1
   try clear p2
   try clear c10
   try clear c11
   obtain ⟨kq, x30_9, rfl, HA, HJ9, HO_7, HO_9, BK209, HB⟩ := hcut
   cases kq with
   | zero => exact absurd HA.out (by simp [address_parse6.j0])
   | succ kj9 =>
    have H := HA.out
    clear HA
    simp only [address_parse6.j0] at H
    by_cases c12 : x30_9 = true
    · subst c12
      rw [if_pos rfl] at H
      simp only [Option.some.injEq, Prod.mk.injEq] at H
      obtain ⟨rfl, rfl, rfl, rfl⟩ := H
      obtain ⟨hcz13_0, hcz13_1, hcz13_2⟩ := zc3 BK209
      obtain ⟨hfz13_0, hfz13_1, hfz13_2⟩ := zf3 BK209
      go_wp2
      refine bodyPost_ret (results_ct rfl _ _ gb209 31 #[.bool false, .int .u64 0, .int .u64 0] (0, 0) _ rfl (by refine zL ?_; refine blk_put (cs := #[.bool false, .int .u64 0, .int .u64 0]) ?_ 2 _ rfl; refine zL ?_; refine blk_put (cs := #[.bool false, .int .u64 0, .int .u64 0]) ?_ 1 _ rfl; refine zL ?_; refine blk_put (cs := #[.bool false, .int .u64 0, .int .u64 0]) ?_ 0 _ rfl; refine zL ?_; exact BK209.out) Tryz.underlying31 rfl (by kernel_rfl)) rfl ?_
      exact ⟨by first | rfl | (simp [errW_none, errW_some] <;> rfl) | (simp [*, errW_none, errW_some] <;> rfl), by repeat (first | (with_reducible first | exact HB.out | apply below_alloc | apply pw_below_drewN | apply below_drew1 | refine below_set ?_ GE209.out) | exact HB.out)⟩
    · replace c12 := Bool.eq_false_iff.mpr c12
      subst c12
      rw [if_neg zF] at H
      have HC14 := Aside0.mk H
      clear H
      go_upto_region 6 with (fail)
      go_cut [38] (fun v38 wc => ∃ (kq : Nat) (x38_13 : Bool), v38 = .bool x38_13 ∧ Aside0 (address_parse6.j1 kq t212 t213 t217 x38_13 = some (r1, r2, r3, r4)) ∧ Aside0 (kq ≤ kj9) ∧ Aside0 (Kd.R (Kd.int .u64) 29 wc w.heap.size (fun k_ => some k_ ≠ (v219 : Value).ownBlock) v215 t213) ∧ Aside0 (Kd.R (Kd.int .u64) 29 wc w.heap.size (fun k_ => some k_ ≠ (v215 : Value).ownBlock) v219 t217) ∧ Aside0 (wc.heap[gb209]? = some (.cells #[.bool false, .int .u64 0, .int .u64 0] 31 (0, 0))) ∧ Aside0 (Below w.heap.size w wc))
      case first =>
       have H := HC14.out
       clear HC14
       by_cases c15 : t212 = true
       · subst c15
         rw [if_pos rfl] at H
         have H' := Aside0.mk H
         clear H
         go_wp2
         go_meet
         case rel => exact ⟨_, (false), (by first | rfl | (simp; done) | (simp [*]; done)), H', ⟨by have := HJ9.out; first | omega | exact Nat.le_refl _⟩, ⟨zR HO_7⟩, ⟨zR HO_9⟩, ⟨zK BK209⟩, ⟨zB HB⟩⟩
       · replace c15 := Bool.eq_false_iff.mpr c15
         subst c15
         rw [if_neg zF] at H
         have H' := Aside0.mk H
         clear H
         obtain ⟨Ao16, co16, eo16⟩ := Kd.R_slice HO_7.out
         subst eo16
         go_wp2
         go_meet
         case rel => exact ⟨_, (((t213.length : Int) != 8)), (by first | rfl | (simp; done) | (simp [*]; done)), H', ⟨by have := HJ9.out; first | omega | exact Nat.le_refl _⟩, ⟨zR HO_7⟩, ⟨zR HO_9⟩, ⟨zK BK209⟩, ⟨zB HB⟩⟩
      case rest =>
       clear HC14
       try clear c1
       try clear p2
       try clear c10
       try clear c11
       try clear c12
       try clear c13
       try clear c15
       try clear hcz13_0
       try clear hcz13_1
       try clear hcz13_2
       try clear hfz13_0
       try clear hfz13_1
       try clear hfz13_2
       try clear p2
       obtain ⟨kq, x38_13, rfl, HA, HJ13, HO_7, HO_9, BK209, HB⟩ := hcut
       cases kq with
       | zero => exact absurd HA.out (by simp [address_parse6.j1])
       | succ kj13 =>
        have H := HA.out
        clear HA
        simp only [address_parse6.j1] at H
        by_cases c17 : x38_13 = true
        · subst c17
          rw [if_pos rfl] at H
          simp only [Option.some.injEq, Prod.mk.injEq] at H
          obtain ⟨rfl, rfl, rfl, rfl⟩ := H
          obtain ⟨hcz18_0, hcz18_1, hcz18_2⟩ := zc3 BK209
          obtain ⟨hfz18_0, hfz18_1, hfz18_2⟩ := zf3 BK209
          go_wp2
          refine bodyPost_ret (results_ct rfl _ _ gb209 31 #[.bool false, .int .u64 0, .int .u64 0] (0, 0) _ rfl (by refine zL ?_; refine blk_put (cs := #[.bool false, .int .u64 0, .int .u64 0]) ?_ 2 _ rfl; refine zL ?_; refine blk_put (cs := #[.bool false, .int .u64 0, .int .u64 0]) ?_ 1 _ rfl; refine zL ?_; refine blk_put (cs := #[.bool false, .int .u64 0, .int .u64 0]) ?_ 0 _ rfl; refine zL ?_; exact BK209.out) Tryz.underlying31 rfl (by kernel_rfl)) rfl ?_
          exact ⟨by first | rfl | (simp [errW_none, errW_some] <;> rfl) | (simp [*, errW_none, errW_some] <;> rfl), by repeat (first | (with_reducible first | exact HB.out | apply below_alloc | apply pw_below_drewN | apply below_drew1 | refine below_set ?_ GE209.out) | exact HB.out)⟩
        · replace c17 := Bool.eq_false_iff.mpr c17
          subst c17
          rw [if_neg zF] at H
          by_cases c19 : t212 = true
          · subst c19
            rw [if_pos rfl] at H
            by_cases c20 : (wrap64 ((t213.length : Int) + (t217.length : Int))) > 7
            · rw [if_pos c20] at H
              have c20b0 : decide (7 < (wrap64 ((t213.length : Int) + (t217.length : Int)))) = true := decide_eq_true c20
              clear c20
              simp only [Option.some.injEq, Prod.mk.injEq] at H
              obtain ⟨rfl, rfl, rfl, rfl⟩ := H
              obtain ⟨Ao21, co21, eo21⟩ := Kd.R_slice HO_7.out
              subst eo21
              obtain ⟨Ao22, co22, eo22⟩ := Kd.R_slice HO_9.out
              subst eo22
              obtain ⟨hcz23_0, hcz23_1, hcz23_2⟩ := zc3 BK209
              obtain ⟨hfz23_0, hfz23_1, hfz23_2⟩ := zf3 BK209
              go_wp2
              refine bodyPost_ret (results_ct rfl _ _ gb209 31 #[.bool false, .int .u64 0, .int .u64 0] (0, 0) _ rfl (by refine zL ?_; refine blk_put (cs := #[.bool false, .int .u64 0, .int .u64 0]) ?_ 2 _ rfl; refine zL ?_; refine blk_put (cs := #[.bool false, .int .u64 0, .int .u64 0]) ?_ 1 _ rfl; refine zL ?_; refine blk_put (cs := #[.bool false, .int .u64 0, .int .u64 0]) ?_ 0 _ rfl; refine zL ?_; exact BK209.out) Tryz.underlying31 rfl (by kernel_rfl)) rfl ?_
              exact ⟨by first | rfl | (simp [errW_none, errW_some] <;> rfl) | (simp [*, errW_none, errW_some] <;> rfl), by repeat (first | (with_reducible first | exact HB.out | apply below_alloc | apply pw_below_drewN | apply below_drew1 | refine below_set ?_ GE209.out) | exact HB.out)⟩
            · rw [if_neg c20] at H
              have c20b0 : decide (7 < (wrap64 ((t213.length : Int) + (t217.length : Int)))) = false := decide_eq_false c20
              clear c20
              have H' := Aside0.mk H
              clear H
              obtain ⟨Ao24, co24, eo24⟩ := Kd.R_slice HO_7.out
              subst eo24
              obtain ⟨Ao25, co25, eo25⟩ := Kd.R_slice HO_9.out
              subst eo25
              go_wp2
              go_meet
              case rel => exact ⟨_, (false), (0), (0), H', ⟨by have := HJ9.out; have := HJ13.out; first | omega | exact Nat.le_refl _⟩, ⟨zR HO_7⟩, ⟨zR HO_9⟩, ⟨zK BK209⟩, ⟨zB HB⟩⟩
          · replace c19 := Bool.eq_false_iff.mpr c19
            subst c19
            rw [if_neg zF] at H
            have H' := Aside0.mk H
            clear H
            go_wp2
            go_meet
            case rel => exact ⟨_, (false), (0), (0), H', ⟨by have := HJ9.out; have := HJ13.out; first | omega | exact Nat.le_refl _⟩, ⟨zR HO_7⟩, ⟨zR HO_9⟩, ⟨zK BK209⟩, ⟨zB HB⟩⟩
 case rest =>
  clear HC5
  try clear c1
  try clear c2
  try clear p2
  try clear p6
  try clear c10
  try clear c11
  try clear c12
  try clear c13
  try clear c15
  try clear c17
  try clear c19
  try clear c20
  try clear c20b0
  try clear hcz13_0
  try clear hcz13_1
  try clear hcz13_2
  try clear hcz18_0
  try clear hcz18_1
  try clear hcz18_2
  try clear hcz23_0
  try clear hcz23_1
  try clear hcz23_2
  try clear hfz13_0
  try clear hfz13_1
  try clear hfz13_2
  try clear hfz18_0
  try clear hfz18_1
  try clear hfz18_2
  try clear hfz23_0
  try clear hfz23_1
  try clear hfz23_2
  try clear p2
  obtain ⟨kq, x210000_4, x210001_4, x210002_4, HA, HJ4, HO_7, HO_9, BK209, HB⟩ := hcut
  cases kq with
  | zero => exact absurd HA.out (by simp [address_parse6.j2])
  | succ kj4 =>
   have H := HA.out
   clear HA
   simp only [address_parse6.j2] at H
   have H' := Aside0.mk H
   clear H
   go_wp2
   go_loopg [7] kj4 (fun kq v7 w' => ∃ (x7_2 : List Int), Aside0 (address_parse6.l0 kq x7_2 t217 = some (r1, r2, r3, r4)) ∧ Aside0 (kq ≤ kj4) ∧ Aside0 (Kd.R (Kd.int .u64) 29 w' w.heap.size (fun k_ => some k_ ≠ (v219 : Value).ownBlock) v7 x7_2) ∧ Aside0 (Kd.R (Kd.int .u64) 29 w' w.heap.size (fun k_ => some k_ ≠ (v7 : Value).ownBlock) v219 t217) ∧ Aside0 (w'.heap[gb209]? = some (.cells #[.bool x210000_4, .int .u64 x210001_4, .int .u64 x210002_4] 31 (0, 0))) ∧ Aside0 (Below w.heap.size w w'))
   case atStart => exact ⟨(t213), H', ⟨Nat.le_refl _⟩, ⟨zR HO_7⟩, ⟨zR HO_9⟩, ⟨zK BK209⟩, ⟨zB HB⟩⟩
   case round =>
    clear H'
    try clear c1
    try clear c2
    try clear p2
    try clear p6
    try clear c10
    try clear c11
    try clear c12
    try clear c13
    try clear c15
    try clear c17
    try clear c19
    try clear c20
    try clear c20b0
    try clear hcz13_0
    try clear hcz13_1
    try clear hcz13_2
    try clear hcz18_0
    try clear hcz18_1
    try clear hcz18_2
    try clear hcz23_0
    try clear hcz23_1
    try clear hcz23_2
    try clear hfz13_0
    try clear hfz13_1
    try clear hfz13_2
    try clear hfz18_0
    try clear hfz18_1
    try clear hfz18_2
    try clear hfz23_0
    try clear hfz23_1
    try clear hfz23_2
    try clear p2
    try clear p6
    obtain ⟨x7_2, HA, HK2, HO_7, HO_9, BK209, HB⟩ := hrel
    cases gk with
    | zero => exact absurd HA.out (by simp [address_parse6.l0])
    | succ k2 =>
     have H := HA.out
     clear HA
     simp only [address_parse6.l0] at H
     by_cases c26 : (wrap64 ((x7_2.length : Int) + (t217.length : Int))) < 8
     · rw [if_pos c26] at H
       have c26b0 : decide ((wrap64 ((x7_2.length : Int) + (t217.length : Int))) < 8) = true := decide_eq_true c26
       clear c26
       by_cases c27 : x7_2.length < 17592186044416
       · rw [if_pos c27] at H
         have LMc27 := Aside0.mk c27
         clear c27
         obtain ⟨y221, hy221⟩ : ∃ y_ : List Int, y_ = (x7_2 ++ [0]) := ⟨_, rfl⟩
         rw [← hy221] at H; try dsimp only [Option.bind_some] at H
         have Ny221 := Aside0.mk hy221
         clear hy221
         have H' := Aside0.mk H
         clear H
         obtain ⟨Ao28, co28, eo28⟩ := Kd.R_slice HO_7.out
         subst eo28
         obtain ⟨Ao29, co29, eo29⟩ := Kd.R_slice HO_9.out
         subst eo29
         go_wp2_with (first | ((with_reducible refine gate_builtin (b := .append) (xs := #[.tmp 64, .tmp 65]) rfl ?_); (try (refine gate_guard (by rfl) ?_; dsimp only)); at_builtin; refine Kd.R_append (Kd.int .u64) (w0 := w) w.heap.size rfl (.tmp 64) (.tmp 65) 174 29 (.int .u64 0) 8 rfl Tryz.underlying174 info29 rfl (by decide) (by omega) (.slice Ao28 x7_2.length co28) x7_2 0 [.int .u64 0] (fun k_ => some k_ ≠ (.slice Ao29 t217.length co29 : Value).ownBlock) (fun _ => False) rfl rfl ?aP (fun _ hk => hk.elim) ?aF ?aO ?aB ?aS ?aL ?_; (case aP => exact rfl); (case aB => exact (zB HB)); (case aF => exact (fun k_ hk => Kd.fresh' (Kd.R_lt (zR HO_9)) k_ hk)); (case aO => exact (zR HO_7)); (case aS => exact (below_size (zB HB))); (case aL => have := LMc27.out; omega); intro v222 w30 ho hb hg hat; rw [← Ny221.out] at ho; replace HO_9 := Aside0.mk (Kd.R_after (ok := (fun _ => True)) (by (with_reducible repeat (first | apply Kd.R_alloc | apply Kd.R_drewN | apply Kd.R_drew)); exact Kd.R_mono HO_9.out (fun _ hk => ⟨trivial, hk⟩)) hg hat); replace BK209 := Aside0.mk (blk_grown (g := gb209) (o := .cells #[.bool x210000_4, .int .u64 x210001_4, .int .u64 x210002_4] 31 (0, 0)) (zK BK209) hg (Kd.R_ne HO_7.out BK209.out (by decide))); replace HB := Aside0.mk (hb); have HO223 := Aside0.mk (ho); clear HO_7; clear ho hb hg hat))
         go_roundg k2
         case measure => have := HJ4.out; have := HK2.out; omega
         case rel => exact ⟨(y221), H', ⟨by have := HJ4.out; have := HK2.out; omega⟩, ⟨zR HO223⟩, ⟨by (with_reducible repeat (first | apply Kd.R_alloc | apply Kd.R_drewN | apply Kd.R_drew)); exact Kd.R_mono HO_9.out (fun _ hk => hk.2)⟩, ⟨zK BK209⟩, ⟨zB HB⟩⟩
       · rw [if_neg c27] at H
         exact absurd H (by simp)
     · rw [if_neg c26] at H
       have c26b0 : decide ((wrap64 ((x7_2.length : Int) + (t217.length : Int))) < 8) = false := decide_eq_false c26
       clear c26
       by_cases c31 : x7_2.length + t217.length < 17592186044416
       · rw [if_pos c31] at H
         have LMc31 := Aside0.mk c31
         clear c31
         obtain ⟨y225, hy225⟩ : ∃ y_ : List Int, y_ = (x7_2 ++ t217) := ⟨_, rfl⟩
         rw [← hy225] at H; try dsimp only [Option.bind_some] at H
         have Ny225 := Aside0.mk hy225
         clear hy225
         have H' := Aside0.mk H
         clear H
         obtain ⟨Ao32, co32, eo32⟩ := Kd.R_slice HO_7.out
         subst eo32
         obtain ⟨Ao33, co33, eo33⟩ := Kd.R_slice HO_9.out
         subst eo33
         go_wp2_with (first | ((with_reducible refine gate_dst (N := 11) rfl ?_); (try (refine gate_guard (by rfl) ?_; dsimp only)); refine zx 11 #[.bool false, .int .u64 0, .int .u64 0] 31 ?_; intro gb224 hg w34 hbox hb; replace HO_7 := Aside0.mk (Kd.R_below (zR HO_7) hb); replace HO_9 := Aside0.mk (Kd.R_below (zR HO_9) hb); have BK224 := Aside0.mk (hbox); have GW224 := Aside0.mk ((by rw [hg]; exact (below_size (zB HB)) : w.heap.size ≤ gb224)); have GE224 := Aside0.mk ((by rw [hg]; exact (below_size (zB HB)) : w.heap.size ≤ gb224)); replace HB := Aside0.mk (below_step (zB HB) hb); have NB209_224 := Aside0.mk ((by rw [hg]; exact Nat.ne_of_lt (blk_lt (g := gb209) (o := .cells #[.bool x210000_4, .int .u64 x210001_4, .int .u64 x210002_4] 31 (0, 0)) (zK BK209)) : gb209 ≠ gb224)); have NB224_209 := Aside0.mk ((by rw [hg]; exact Nat.ne_of_gt (blk_lt (g := gb209) (o := .cells #[.bool x210000_4, .int .u64 x210001_4, .int .u64 x210002_4] 31 (0, 0)) (zK BK209)) : gb224 ≠ gb209)); replace BK209 := Aside0.mk (blk_below (g := gb209) (o := .cells #[.bool x210000_4, .int .u64 x210001_4, .int .u64 x210002_4] 31 (0, 0)) (zK BK209) hb); clear hb hbox hg; have hnb35 := NB224_209.out; have hnc35 := NB209_224.out; obtain ⟨hcz36_0, hcz36_1, hcz36_2⟩ := zc3 BK224; obtain ⟨hfz36_0, hfz36_1, hfz36_2⟩ := zf3 BK224) | ((with_reducible refine gate_builtin (b := .append) (xs := #[.tmp 68, .tmp 69]) rfl ?_); (try (refine gate_guard (by rfl) ?_; dsimp only)); at_builtin; refine Kd.R_append_rows (Kd.int .u64) (w0 := w) w.heap.size rfl (.tmp 68) (.tmp 69) 174 29 (.int .u64 0) 8 rfl Tryz.underlying174 info29 rfl (by decide) (by omega) (.slice Ao32 x7_2.length co32) x7_2 t217 _ _ _ (fun k_ => some k_ ≠ (.slice Ao33 t217.length co33 : Value).ownBlock) (fun _ => False) rfl rfl ?aO ?aR (fun _ _ h => h) (fun _ h => h.elim) ?aF ?aB ?aS ?aL ?_; (case aR => refine (Kd.R_reads' (e := 29) (base := w.heap.size) (ok := fun k_ => some k_ ≠ (.slice Ao32 x7_2.length co32 : Value).ownBlock) (n := t217.length) (c := co33) ?_).2.2; exact (zQ (Kd.R_mono (Kd.R_far (p := ⟨gb224, 2, none⟩) (Kd.R_far (p := ⟨gb224, 1, none⟩) (Kd.R_far (p := ⟨gb224, 0, none⟩) (Kd.R_types HO_9.out BK224.out (by decide)) (fun _ hk => hk.2) (.bool true)) (fun _ hk => hk.2) (.int .u64 0)) (fun _ hk => hk.2) (.int .u64 0)) (fun _ h_ => h_.1)))); (case aB => exact (zB HB)); (case aF => exact (fun k_ hk => Kd.fresh' (Kd.R_lt (zQ (Kd.R_mono (Kd.R_far (p := ⟨gb224, 2, none⟩) (Kd.R_far (p := ⟨gb224, 1, none⟩) (Kd.R_far (p := ⟨gb224, 0, none⟩) (Kd.R_types HO_9.out BK224.out (by decide)) (fun _ hk => hk.2) (.bool true)) (fun _ hk => hk.2) (.int .u64 0)) (fun _ hk => hk.2) (.int .u64 0)) (fun _ h_ => h_.1)))) k_ hk)); (case aO => exact (by (with_reducible repeat (first | apply Kd.R_alloc | apply Kd.R_drewN | apply Kd.R_drew)); exact Kd.R_mono (Kd.R_far (p := ⟨gb224, 2, none⟩) (Kd.R_far (p := ⟨gb224, 1, none⟩) (Kd.R_far (p := ⟨gb224, 0, none⟩) (Kd.R_types HO_7.out BK224.out (by decide)) (fun _ hk => hk.2) (.bool true)) (fun _ hk => hk.2) (.int .u64 0)) (fun _ hk => hk.2) (.int .u64 0)) (fun _ hk => hk.1))); (case aS => exact (below_size (zB HB))); (case aL => have := LMc31.out; omega); intro v226 w37 ho hb hg hat; rw [← Ny225.out] at ho; replace HO_9 := Aside0.mk (Kd.R_after (ok := (fun _ => True)) (by (with_reducible repeat (first | apply Kd.R_alloc | apply Kd.R_drewN | apply Kd.R_drew)); exact Kd.R_mono (Kd.R_far (p := ⟨gb224, 2, none⟩) (Kd.R_far (p := ⟨gb224, 1, none⟩) (Kd.R_far (p := ⟨gb224, 0, none⟩) (Kd.R_types HO_9.out BK224.out (by decide)) (fun _ hk => hk.2) (.bool true)) (fun _ hk => hk.2) (.int .u64 0)) (fun _ hk => hk.2) (.int .u64 0)) (fun _ hk => ⟨trivial, hk.1⟩)) hg hat); replace BK209 := Aside0.mk (blk_grown (g := gb209) (o := .cells #[.bool x210000_4, .int .u64 x210001_4, .int .u64 x210002_4] 31 (0, 0)) (by refine zL ?_; refine blk_far ?_ NB209_224.out _; refine zL ?_; refine blk_far ?_ NB209_224.out _; refine zL ?_; refine blk_far ?_ NB209_224.out _; refine zL ?_; exact BK209.out) hg (Kd.R_ne HO_7.out BK209.out (by decide))); replace BK224 := Aside0.mk (blk_grown (g := gb224) (o := .cells #[.bool true, .int .u64 0, .int .u64 0] 31 (0, 0)) (by refine zL ?_; refine blk_put (cs := #[.bool true, .int .u64 0, .int .u64 0]) ?_ 2 _ rfl; refine zL ?_; refine blk_put (cs := #[.bool true, .int .u64 0, .int .u64 0]) ?_ 1 _ rfl; refine zL ?_; refine blk_put (cs := #[.bool false, .int .u64 0, .int .u64 0]) ?_ 0 _ rfl; refine zL ?_; exact BK224.out) hg (Kd.R_ne HO_7.out BK224.out (by decide))); replace HB := Aside0.mk (hb); have HO227 := Aside0.mk (ho); clear HO_7; clear ho hb hg hat; obtain ⟨Ao38, co38, eo38⟩ := Kd.R_slice HO227.out; subst eo38))
         go_loopg [72] k2 (fun kq v72 w' => ∃ (x72_3 : Int) (x225001_3 : Int) (x225002_3 : Int), v72 = .int .i64 x72_3 ∧ Aside0 (address_parse6.l1 kq y225 (y225.length : Int) x72_3 true x225001_3 x225002_3 = some (r1, r2, r3, r4)) ∧ Aside0 (kq ≤ k2) ∧ Aside0 (Kd.R (Kd.int .u64) 29 w' w.heap.size (fun _ => True) (.slice Ao38 y225.length co38) y225) ∧ Aside0 (w'.heap[gb209]? = some (.cells #[.bool x210000_4, .int .u64 x210001_4, .int .u64 x210002_4] 31 (0, 0))) ∧ Aside0 (w'.heap[gb224]? = some (.cells #[.bool true, .int .u64 x225001_3, .int .u64 x225002_3] 31 (0, 0))) ∧ Aside0 (Below w.heap.size w w'))
         case atStart => exact ⟨(0), (0), (0), (by first | rfl | (simp; done) | (simp [*]; done)), H', ⟨Nat.le_refl _⟩, ⟨by (with_reducible repeat (first | apply Kd.R_alloc | apply Kd.R_drewN | apply Kd.R_drew)); exact Kd.R_mono HO227.out (fun _ hk => trivial)⟩, ⟨zK BK209⟩, ⟨zK BK224⟩, ⟨zB HB⟩⟩
         case round =>
          clear H'
          try clear c1
          try clear c2
          try clear p2
          try clear c3
          try clear p6
          try clear c10
          try clear c11
          try clear c12
          try clear c13
          try clear c15
          try clear c17
          try clear c19
          try clear c20
          try clear c20b0
          try clear c26
          try clear c26b0
          try clear c27
          try clear c31
          try clear c35
          try clear hcz13_0
          try clear hcz13_1
          try clear hcz13_2
          try clear hcz18_0
          try clear hcz18_1
          try clear hcz18_2
          try clear hcz23_0
          try clear hcz23_1
          try clear hcz23_2
          try clear hcz36_0
          try clear hcz36_1
          try clear hcz36_2
          try clear hfz13_0
          try clear hfz13_1
          try clear hfz13_2
          try clear hfz18_0
          try clear hfz18_1
          try clear hfz18_2
          try clear hfz23_0
          try clear hfz23_1
          try clear hfz23_2
          try clear hfz36_0
          try clear hfz36_1
          try clear hfz36_2
          try clear p2
          try clear p6
          obtain ⟨x72_3, x225001_3, x225002_3, rfl, HA, HK3, HO_70, BK209, BK224, HB⟩ := hrel
          cases gk with
          | zero => exact absurd HA.out (by simp [address_parse6.l1])
          | succ k3 =>
           have H := HA.out
           clear HA
           simp only [address_parse6.l1] at H
           by_cases c39 : x72_3 < (y225.length : Int)
           · rw [if_pos c39] at H
             have c39b0 : decide (x72_3 < (y225.length : Int)) = true := decide_eq_true c39
             clear c39
             by_cases c40 : 0 ≤ x72_3
             · rw [if_pos c40] at H
               have c40b0 : decide (0 ≤ x72_3) = true := decide_eq_true c40
               clear c40
               by_cases c41 : x72_3 < (y225.length : Int)
               · rw [if_pos c41] at H
                 have c41b0 : decide (x72_3 < (y225.length : Int)) = true := decide_eq_true c41
                 clear c41
                 by_cases c42 : x72_3 < 4
                 · rw [if_pos c42] at H
                   have c42b0 : decide (x72_3 < 4) = true := decide_eq_true c42
                   clear c42
                   have H' := Aside0.mk H
                   clear H
                   have p228 : 0 ≤ (x72_3 : Int) := za
                   have q228 : x72_3 < (y225.length : Int) := za
                   obtain ⟨ad228, e228, hx228_0⟩ := Kd.at_int (Kd.R_reads' HO_70.out).2.2 x72_3 p228 q228
                   cases e228
                   replace p228 := eq_true p228
                   replace q228 := eq_true q228
                   have hnb43 := NB224_209.out
                   have hnc43 := NB209_224.out
                   obtain ⟨hcz44_0, hcz44_1, hcz44_2⟩ := zc3 BK224
                   obtain ⟨hfz44_0, hfz44_1, hfz44_2⟩ := zf3 BK224
                   go_wp2
                   go_roundg k3
                   case measure => have := HJ4.out; have := HK2.out; have := HK3.out; omega
                   case rel => exact ⟨(wrap64 (x72_3 + 1)), (Go.bits .or .u64 (IntKind.u64.wrap (x225001_3 * 65536)) (rd y225 x72_3)), (x225002_3), (by first | rfl | (simp; done) | (simp [*]; done)), H', ⟨by have := HJ4.out; have := HK2.out; have := HK3.out; omega⟩, ⟨by (with_reducible repeat (first | apply Kd.R_alloc | apply Kd.R_drewN | apply Kd.R_drew)); exact Kd.R_mono (Kd.R_far (p := ⟨gb224, 1, none⟩) (Kd.R_types HO_70.out BK224.out (by decide)) (fun _ hk => hk.2) (.int .u64 (Go.bits .or .u64 (IntKind.u64.wrap (x225001_3 * 65536)) (rd y225 x72_3)))) (fun _ hk => trivial)⟩, ⟨by refine zL ?_; refine blk_far ?_ NB209_224.out _; refine zL ?_; exact BK209.out⟩, ⟨by refine zL ?_; refine blk_put (cs := #[.bool true, .int .u64 x225001_3, .int .u64 x225002_3]) ?_ 1 _ rfl; refine zL ?_; exact BK224.out⟩, ⟨zB HB⟩⟩
                 · rw [if_neg c42] at H
                   have c42b0 : decide (x72_3 < 4) = false := decide_eq_false c42
                   clear c42
                   have H' := Aside0.mk H
                   clear H
                   have p228 : 0 ≤ (x72_3 : Int) := za
                   have q228 : x72_3 < (y225.length : Int) := za
                   obtain ⟨ad228, e228, hx228_0⟩ := Kd.at_int (Kd.R_reads' HO_70.out).2.2 x72_3 p228 q228
                   cases e228
                   replace p228 := eq_true p228
                   replace q228 := eq_true q228
                   have hnb45 := NB224_209.out
                   have hnc45 := NB209_224.out
                   obtain ⟨hcz46_0, hcz46_1, hcz46_2⟩ := zc3 BK224
                   obtain ⟨hfz46_0, hfz46_1, hfz46_2⟩ := zf3 BK224
                   go_wp2
                   go_roundg k3
                   case measure => have := HJ4.out; have := HK2.out; have := HK3.out; omega
                   case rel => exact ⟨(wrap64 (x72_3 + 1)), (x225001_3), (Go.bits .or .u64 (IntKind.u64.wrap (x225002_3 * 65536)) (rd y225 x72_3)), (by first | rfl | (simp; done) | (simp [*]; done)), H', ⟨by have := HJ4.out; have := HK2.out; have := HK3.out; omega⟩, ⟨by (with_reducible repeat (first | apply Kd.R_alloc | apply Kd.R_drewN | apply Kd.R_drew)); exact Kd.R_mono (Kd.R_far (p := ⟨gb224, 2, none⟩) (Kd.R_types HO_70.out BK224.out (by decide)) (fun _ hk => hk.2) (.int .u64 (Go.bits .or .u64 (IntKind.u64.wrap (x225002_3 * 65536)) (rd y225 x72_3)))) (fun _ hk => trivial)⟩, ⟨by refine zL ?_; refine blk_far ?_ NB209_224.out _; refine zL ?_; exact BK209.out⟩, ⟨by refine zL ?_; refine blk_put (cs := #[.bool true, .int .u64 x225001_3, .int .u64 x225002_3]) ?_ 2 _ rfl; refine zL ?_; exact BK224.out⟩, ⟨zB HB⟩⟩
               · rw [if_neg c41] at H
                 exact absurd H (by simp)
             · rw [if_neg c40] at H
               exact absurd H (by simp)
           · rw [if_neg c39] at H
             have c39b0 : decide (x72_3 < (y225.length : Int)) = false := decide_eq_false c39
             clear c39
             simp only [Option.some.injEq, Prod.mk.injEq] at H
             obtain ⟨rfl, rfl, rfl, rfl⟩ := H
             have hnb47 := NB224_209.out
             have hnc47 := NB209_224.out
             obtain ⟨hcz48_0, hcz48_1, hcz48_2⟩ := zc3 BK224
             obtain ⟨hfz48_0, hfz48_1, hfz48_2⟩ := zf3 BK224
             obtain ⟨hcz49_0, hcz49_1, hcz49_2⟩ := zc3 BK209
             obtain ⟨hfz49_0, hfz49_1, hfz49_2⟩ := zf3 BK209
             go_wp2
             refine bodyPost_ret (results_ct rfl _ _ gb209 31 #[.bool true, .int .u64 x225001_3, .int .u64 x225002_3] (0, 0) _ rfl (by refine zL ?_; refine blk_put (cs := #[.bool true, .int .u64 x225001_3, .int .u64 x210002_4]) ?_ 2 _ rfl; refine zL ?_; refine blk_put (cs := #[.bool true, .int .u64 x210001_4, .int .u64 x210002_4]) ?_ 1 _ rfl; refine zL ?_; refine blk_put (cs := #[.bool x210000_4, .int .u64 x210001_4, .int .u64 x210002_4]) ?_ 0 _ rfl; refine zL ?_; exact BK209.out) Tryz.underlying31 rfl (by kernel_rfl)) rfl ?_
             exact ⟨by first | rfl | (simp [errW_none, errW_some] <;> rfl) | (simp [*, errW_none, errW_some] <;> rfl), by repeat (first | (with_reducible first | exact HB.out | apply below_alloc | apply pw_below_drewN | apply below_drew1 | refine below_set ?_ GE209.out | refine below_set ?_ GE224.out) | exact HB.out)⟩
       · rw [if_neg c31] at H
         exact absurd H (by simp)
end Go.Proofs.YtnphnhkinjppjaaGreatDoor.Q
end

section
namespace Go.Proofs.YtnphnhkinjppjaaGreatDoor.Q
open Go.RowKit Go.Proofs.YtnphnhkinjppjaaGreatDoorW.PrintWords Go.Proofs.YtnphnhkinjppjaaGreatDoorW.PrintLast Go.Proofs.YtnphnhkinjppjaaGreatDoorW.PrintMore
attribute [local go_sem] max2_int min2_int max_two min_two max_three min_three max_four min_four
set_option linter.unusedVariables false
set_option linter.unusedSimpArgs false
def address_Parse.f (k : Nat) (a0 : ByteArray) : Option (Bool × Int × Int × Int) := if (a0.size : Int) > 64 then (some (false, 0, 0, 3)) else ((address_parse4.f k a0).bind fun bt230 => (if bt230.2.2.2 = true then (some (bt230.1, bt230.2.1, bt230.2.2.1, 0)) else ((address_parse6.f k a0).bind fun bt235 => (if bt235.2.2.2 = true then (some (bt235.1, bt235.2.1, bt235.2.2.1, 0)) else (some (false, 0, 0, 2))))))
theorem address_Parse.mono : ∀ a0 k, LeO (address_Parse.f k a0) (address_Parse.f (k + 1) a0) := by
  intro a0 k
  unfold address_Parse.f
  repeat' first
      | (with_reducible exact address_parse4.mono _ _)
      | (with_reducible exact address_parse6.mono _ _)
      | (with_reducible exact LeO.refl _)
      | (with_reducible exact LeO.none _)
      | (with_reducible refine LeO.ite ?_ ?_)
      | (with_reducible refine LeO.bind ?_ (fun _ => ?_))
      | exact address_parse4.mono _ _
      | exact address_parse6.mono _ _
      | exact LeO.none _
      | refine LeO.ite ?_ ?_
      | refine LeO.bind ?_ (fun _ => ?_)
set_option maxHeartbeats 8000000 in
set_option maxRecDepth 100000 in
theorem address_Parse.calls (k : Nat) (a0 : ByteArray) (r1 : Bool) (r2 : Int) (r3 : Int) (r4 : Int) (w : World) (h : address_Parse.f k a0 = some (r1, r2, r3, r4)) (hW_ : WOK w) :
 Calls Tryz.prog 105 #[.string a0] w fun e w' => e = .returned (.tuple #[.agg #[.bool r1, .int .u64 r2, .int .u64 r3], .int .i64 r4]) ∧ Below w.heap.size w w' := by
 have hu31 := Tryz.underlying31
 have HB := Aside0.mk (Below.refl w.heap.size w)
 unfold address_Parse.f at h; have H := h
 clear h
 by_cases c2 : (a0.size : Int) > 64
 · rw [if_pos c2] at H
   have c2b0 : decide (64 < (a0.size : Int)) = true := decide_eq_true c2
   have c2b1 : decide (64 < a0.size) = true := decide_eq_true (by omega)
   clear c2
   simp only [Option.some.injEq, Prod.mk.injEq] at H
   obtain ⟨rfl, rfl, rfl, rfl⟩ := H
   go_enter Tryz.func105, Tryz.ntmps105
   go_wp2_with (first | ((with_reducible refine gate_dst (N := 2) rfl ?_); refine zx 2 #[.bool false, .int .u64 0, .int .u64 0] 31 ?_; intro gb229 hg w3 hbox hb; have BK229 := Aside0.mk (hbox); have GW229 := Aside0.mk ((by rw [hg]; exact (below_size (zB HB)) : w.heap.size ≤ gb229)); have GE229 := Aside0.mk ((by rw [hg]; exact (below_size (zB HB)) : w.heap.size ≤ gb229)); replace HB := Aside0.mk (below_step (zB HB) hb); clear hb hbox hg; obtain ⟨hcz4_0, hcz4_1, hcz4_2⟩ := zc3 BK229; obtain ⟨hfz4_0, hfz4_1, hfz4_2⟩ := zf3 BK229))
   refine bodyPost_ret (results_ct rfl _ _ gb229 31 #[.bool false, .int .u64 0, .int .u64 0] (0, 0) _ rfl (by refine zL ?_; refine blk_put (cs := #[.bool false, .int .u64 0, .int .u64 0]) ?_ 2 _ rfl; refine zL ?_; refine blk_put (cs := #[.bool false, .int .u64 0, .int .u64 0]) ?_ 1 _ rfl; refine zL ?_; refine blk_put (cs := #[.bool false, .int .u64 0, .int .u64 0]) ?_ 0 _ rfl; refine zL ?_; exact BK229.out) Tryz.underlying31 rfl (by kernel_rfl)) rfl ?_
   exact ⟨by first | rfl | (simp [errW_none, errW_some] <;> rfl) | (simp [*, errW_none, errW_some] <;> rfl), by repeat (first | (with_reducible first | exact HB.out | apply below_alloc | apply pw_below_drewN | apply below_drew1 | refine below_set ?_ GE229.out) | exact HB.out)⟩
 · rw [if_neg c2] at H
   have c2b0 : decide (64 < (a0.size : Int)) = false := decide_eq_false c2
   have c2b1 : decide (64 < a0.size) = false := decide_eq_false (by omega)
   clear c2
   replace H := Option.bind_eq_some_iff.mp H
   obtain ⟨⟨t230, t231, t232, t233⟩, A50, H⟩ := H
   replace H : (if t233 = true then (some (t230, t231, t232, 0)) else ((address_parse6.f k a0).bind fun bt235 => (if bt235.2.2.2 = true then (some (bt235.1, bt235.2.1, bt235.2.2.1, 0)) else (some (false, 0, 0, 2))))) = some (r1, r2, r3, r4) := H
   have A5 := Aside0.mk A50
   clear A50
   by_cases c6 : t233 = true
   · subst c6
     rw [if_pos rfl] at H
     simp only [Option.some.injEq, Prod.mk.injEq] at H
     obtain ⟨rfl, rfl, rfl, rfl⟩ := H
     go_enter Tryz.func105, Tryz.ntmps105
     go_wp2_with (first | ((with_reducible refine gate_dst (N := 2) rfl ?_); refine zx 2 #[.bool false, .int .u64 0, .int .u64 0] 31 ?_; intro gb229 hg w7 hbox hb; have BK229 := Aside0.mk (hbox); have GW229 := Aside0.mk ((by rw [hg]; exact (below_size (zB HB)) : w.heap.size ≤ gb229)); have GE229 := Aside0.mk ((by rw [hg]; exact (below_size (zB HB)) : w.heap.size ≤ gb229)); replace HB := Aside0.mk (below_step (zB HB) hb); clear hb hbox hg) | ((with_reducible refine gate_callee (f := 133) rfl ?_); refine goesL_ (some 14) rfl rfl Tryz.func133 (by kernel_rfl) rfl #[.string a0] rfl (by (try simp only [List.map_toArray, List.map_cons, List.map_nil]); first | done | rfl | (simp only [List.length_drop, List.length_take]; rfl)) ?_; (with_reducible refine (address_parse4.calls k a0 t230 t231 t232 true _ A5.out (WOK.below hW_ (zB HB))).mono ?_); rintro e w8 ⟨rfl, hb⟩; refine ⟨_, rfl, ?_⟩; replace BK229 := Aside0.mk (blk_below (g := gb229) (o := .cells #[.bool false, .int .u64 0, .int .u64 0] 31 (0, 0)) (zK BK229) hb); replace HB := Aside0.mk (below_step (zB HB) hb); (try clear hb)) | ((with_reducible refine gate_dst (N := 4) rfl ?_); refine zx 4 #[.bool false, .int .u64 0, .int .u64 0] 31 ?_; intro gb234 hg w9 hbox hb; have BK234 := Aside0.mk (hbox); have GW234 := Aside0.mk ((by rw [hg]; exact (below_size (zB HB)) : w.heap.size ≤ gb234)); have GE234 := Aside0.mk ((by rw [hg]; exact (below_size (zB HB)) : w.heap.size ≤ gb234)); replace HB := Aside0.mk (below_step (zB HB) hb); have NB229_234 := Aside0.mk ((by rw [hg]; exact Nat.ne_of_lt (blk_lt (g := gb229) (o := .cells #[.bool false, .int .u64 0, .int .u64 0] 31 (0, 0)) (zK BK229)) : gb229 ≠ gb234)); have NB234_229 := Aside0.mk ((by rw [hg]; exact Nat.ne_of_gt (blk_lt (g := gb229) (o := .cells #[.bool false, .int .u64 0, .int .u64 0] 31 (0, 0)) (zK BK229)) : gb234 ≠ gb229)); replace BK229 := Aside0.mk (blk_below (g := gb229) (o := .cells #[.bool false, .int .u64 0, .int .u64 0] 31 (0, 0)) (zK BK229) hb); clear hb hbox hg; have hnb10 := NB234_229.out; have hnc10 := NB229_234.out; obtain ⟨hcz11_0, hcz11_1, hcz11_2⟩ := zc3 BK234; obtain ⟨hfz11_0, hfz11_1, hfz11_2⟩ := zf3 BK234; obtain ⟨hcz12_0, hcz12_1, hcz12_2⟩ := zc3 BK229; obtain ⟨hfz12_0, hfz12_1, hfz12_2⟩ := zf3 BK229))
     refine bodyPost_ret (results_ct rfl _ _ gb229 31 #[.bool t230, .int .u64 t231, .int .u64 t232] (0, 0) _ rfl (by refine zL ?_; refine blk_put (cs := #[.bool t230, .int .u64 t231, .int .u64 0]) ?_ 2 _ rfl; refine zL ?_; refine blk_put (cs := #[.bool t230, .int .u64 0, .int .u64 0]) ?_ 1 _ rfl; refine zL ?_; refine blk_put (cs := #[.bool false, .int .u64 0, .int .u64 0]) ?_ 0 _ rfl; refine zL ?_; refine blk_far ?_ NB229_234.out _; refine zL ?_; refine blk_far ?_ NB229_234.out _; refine zL ?_; refine blk_far ?_ NB229_234.out _; refine zL ?_; exact BK229.out) Tryz.underlying31 rfl (by kernel_rfl)) rfl ?_
     exact ⟨by first | rfl | (simp [errW_none, errW_some] <;> rfl) | (simp [*, errW_none, errW_some] <;> rfl), by repeat (first | (with_reducible first | exact HB.out | apply below_alloc | apply pw_below_drewN | apply below_drew1 | refine below_set ?_ GE229.out | refine below_set ?_ GE234.out) | exact HB.out)⟩
   · replace c6 := Bool.eq_false_iff.mpr c6
     subst c6
     rw [if_neg zF] at H
     replace H := Option.bind_eq_some_iff.mp H
     obtain ⟨⟨t235, t236, t237, t238⟩, A130, H⟩ := H
     replace H : (if t238 = true then (some (t235, t236, t237, 0)) else (some (false, 0, 0, 2))) = some (r1, r2, r3, r4) := H
     have A13 := Aside0.mk A130
     clear A130
     by_cases c14 : t238 = true
     · subst c14
       rw [if_pos rfl] at H
       simp only [Option.some.injEq, Prod.mk.injEq] at H
       obtain ⟨rfl, rfl, rfl, rfl⟩ := H
       go_enter Tryz.func105, Tryz.ntmps105
       go_wp2_with (first | ((with_reducible refine gate_dst (N := 2) rfl ?_); refine zx 2 #[.bool false, .int .u64 0, .int .u64 0] 31 ?_; intro gb229 hg w15 hbox hb; have BK229 := Aside0.mk (hbox); have GW229 := Aside0.mk ((by rw [hg]; exact (below_size (zB HB)) : w.heap.size ≤ gb229)); have GE229 := Aside0.mk ((by rw [hg]; exact (below_size (zB HB)) : w.heap.size ≤ gb229)); replace HB := Aside0.mk (below_step (zB HB) hb); clear hb hbox hg) | ((with_reducible refine gate_callee (f := 133) rfl ?_); refine goesL_ (some 14) rfl rfl Tryz.func133 (by kernel_rfl) rfl #[.string a0] rfl (by (try simp only [List.map_toArray, List.map_cons, List.map_nil]); first | done | rfl | (simp only [List.length_drop, List.length_take]; rfl)) ?_; (with_reducible refine (address_parse4.calls k a0 t230 t231 t232 false _ A5.out (WOK.below hW_ (zB HB))).mono ?_); rintro e w16 ⟨rfl, hb⟩; refine ⟨_, rfl, ?_⟩; replace BK229 := Aside0.mk (blk_below (g := gb229) (o := .cells #[.bool false, .int .u64 0, .int .u64 0] 31 (0, 0)) (zK BK229) hb); replace HB := Aside0.mk (below_step (zB HB) hb); (try clear hb)) | ((with_reducible refine gate_dst (N := 4) rfl ?_); refine zx 4 #[.bool false, .int .u64 0, .int .u64 0] 31 ?_; intro gb234 hg w17 hbox hb; have BK234 := Aside0.mk (hbox); have GW234 := Aside0.mk ((by rw [hg]; exact (below_size (zB HB)) : w.heap.size ≤ gb234)); have GE234 := Aside0.mk ((by rw [hg]; exact (below_size (zB HB)) : w.heap.size ≤ gb234)); replace HB := Aside0.mk (below_step (zB HB) hb); have NB229_234 := Aside0.mk ((by rw [hg]; exact Nat.ne_of_lt (blk_lt (g := gb229) (o := .cells #[.bool false, .int .u64 0, .int .u64 0] 31 (0, 0)) (zK BK229)) : gb229 ≠ gb234)); have NB234_229 := Aside0.mk ((by rw [hg]; exact Nat.ne_of_gt (blk_lt (g := gb229) (o := .cells #[.bool false, .int .u64 0, .int .u64 0] 31 (0, 0)) (zK BK229)) : gb234 ≠ gb229)); replace BK229 := Aside0.mk (blk_below (g := gb229) (o := .cells #[.bool false, .int .u64 0, .int .u64 0] 31 (0, 0)) (zK BK229) hb); clear hb hbox hg; have hnb18 := NB234_229.out; have hnc18 := NB229_234.out; obtain ⟨hcz19_0, hcz19_1, hcz19_2⟩ := zc3 BK234; obtain ⟨hfz19_0, hfz19_1, hfz19_2⟩ := zf3 BK234) | ((with_reducible refine gate_callee (f := 134) rfl ?_); refine goesL_ (some 21) rfl rfl Tryz.func134 (by kernel_rfl) rfl #[.string a0] rfl (by (try simp only [List.map_toArray, List.map_cons, List.map_nil]); first | done | rfl | (simp only [List.length_drop, List.length_take]; rfl)) ?_; (with_reducible refine (address_parse6.calls k a0 t235 t236 t237 true _ A13.out (WOK.below hW_ (zB HB))).mono ?_); rintro e w20 ⟨rfl, hb⟩; refine ⟨_, rfl, ?_⟩; replace BK229 := Aside0.mk (blk_below (g := gb229) (o := .cells #[.bool false, .int .u64 0, .int .u64 0] 31 (0, 0)) (by refine zL ?_; refine blk_far ?_ NB229_234.out _; refine zL ?_; refine blk_far ?_ NB229_234.out _; refine zL ?_; refine blk_far ?_ NB229_234.out _; refine zL ?_; exact BK229.out) hb); replace BK234 := Aside0.mk (blk_below (g := gb234) (o := .cells #[.bool t230, .int .u64 t231, .int .u64 t232] 31 (0, 0)) (by refine zL ?_; refine blk_put (cs := #[.bool t230, .int .u64 t231, .int .u64 0]) ?_ 2 _ rfl; refine zL ?_; refine blk_put (cs := #[.bool t230, .int .u64 0, .int .u64 0]) ?_ 1 _ rfl; refine zL ?_; refine blk_put (cs := #[.bool false, .int .u64 0, .int .u64 0]) ?_ 0 _ rfl; refine zL ?_; exact BK234.out) hb); replace HB := Aside0.mk (below_step (zB HB) hb); (try clear hb)) | ((with_reducible refine gate_dst (N := 6) rfl ?_); refine zx 6 #[.bool false, .int .u64 0, .int .u64 0] 31 ?_; intro gb239 hg w21 hbox hb; have BK239 := Aside0.mk (hbox); have GW239 := Aside0.mk ((by rw [hg]; exact (below_size (zB HB)) : w.heap.size ≤ gb239)); have GE239 := Aside0.mk ((by rw [hg]; exact (below_size (zB HB)) : w.heap.size ≤ gb239)); replace HB := Aside0.mk (below_step (zB HB) hb); have NB229_239 := Aside0.mk ((by rw [hg]; exact Nat.ne_of_lt (blk_lt (g := gb229) (o := .cells #[.bool false, .int .u64 0, .int .u64 0] 31 (0, 0)) (zK BK229)) : gb229 ≠ gb239)); have NB239_229 := Aside0.mk ((by rw [hg]; exact Nat.ne_of_gt (blk_lt (g := gb229) (o := .cells #[.bool false, .int .u64 0, .int .u64 0] 31 (0, 0)) (zK BK229)) : gb239 ≠ gb229)); replace BK229 := Aside0.mk (blk_below (g := gb229) (o := .cells #[.bool false, .int .u64 0, .int .u64 0] 31 (0, 0)) (zK BK229) hb); have NB234_239 := Aside0.mk ((by rw [hg]; exact Nat.ne_of_lt (blk_lt (g := gb234) (o := .cells #[.bool t230, .int .u64 t231, .int .u64 t232] 31 (0, 0)) (zK BK234)) : gb234 ≠ gb239)); have NB239_234 := Aside0.mk ((by rw [hg]; exact Nat.ne_of_gt (blk_lt (g := gb234) (o := .cells #[.bool t230, .int .u64 t231, .int .u64 t232] 31 (0, 0)) (zK BK234)) : gb239 ≠ gb234)); replace BK234 := Aside0.mk (blk_below (g := gb234) (o := .cells #[.bool t230, .int .u64 t231, .int .u64 t232] 31 (0, 0)) (zK BK234) hb); clear hb hbox hg; have hnb22 := NB239_229.out; have hnc22 := NB229_239.out; have hnb23 := NB239_234.out; have hnc23 := NB234_239.out; obtain ⟨hcz24_0, hcz24_1, hcz24_2⟩ := zc3 BK239; obtain ⟨hfz24_0, hfz24_1, hfz24_2⟩ := zf3 BK239; obtain ⟨hcz25_0, hcz25_1, hcz25_2⟩ := zc3 BK229; obtain ⟨hfz25_0, hfz25_1, hfz25_2⟩ := zf3 BK229))
       refine bodyPost_ret (results_ct rfl _ _ gb229 31 #[.bool t235, .int .u64 t236, .int .u64 t237] (0, 0) _ rfl (by refine zL ?_; refine blk_put (cs := #[.bool t235, .int .u64 t236, .int .u64 0]) ?_ 2 _ rfl; refine zL ?_; refine blk_put (cs := #[.bool t235, .int .u64 0, .int .u64 0]) ?_ 1 _ rfl; refine zL ?_; refine blk_put (cs := #[.bool false, .int .u64 0, .int .u64 0]) ?_ 0 _ rfl; refine zL ?_; refine blk_far ?_ NB229_239.out _; refine zL ?_; refine blk_far ?_ NB229_239.out _; refine zL ?_; refine blk_far ?_ NB229_239.out _; refine zL ?_; exact BK229.out) Tryz.underlying31 rfl (by kernel_rfl)) rfl ?_
       exact ⟨by first | rfl | (simp [errW_none, errW_some] <;> rfl) | (simp [*, errW_none, errW_some] <;> rfl), by repeat (first | (with_reducible first | exact HB.out | apply below_alloc | apply pw_below_drewN | apply below_drew1 | refine below_set ?_ GE229.out | refine below_set ?_ GE234.out | refine below_set ?_ GE239.out) | exact HB.out)⟩
     · replace c14 := Bool.eq_false_iff.mpr c14
       subst c14
       rw [if_neg zF] at H
       simp only [Option.some.injEq, Prod.mk.injEq] at H
       obtain ⟨rfl, rfl, rfl, rfl⟩ := H
       go_enter Tryz.func105, Tryz.ntmps105
       go_wp2_with (first | ((with_reducible refine gate_dst (N := 2) rfl ?_); refine zx 2 #[.bool false, .int .u64 0, .int .u64 0] 31 ?_; intro gb229 hg w26 hbox hb; have BK229 := Aside0.mk (hbox); have GW229 := Aside0.mk ((by rw [hg]; exact (below_size (zB HB)) : w.heap.size ≤ gb229)); have GE229 := Aside0.mk ((by rw [hg]; exact (below_size (zB HB)) : w.heap.size ≤ gb229)); replace HB := Aside0.mk (below_step (zB HB) hb); clear hb hbox hg) | ((with_reducible refine gate_callee (f := 133) rfl ?_); refine goesL_ (some 14) rfl rfl Tryz.func133 (by kernel_rfl) rfl #[.string a0] rfl (by (try simp only [List.map_toArray, List.map_cons, List.map_nil]); first | done | rfl | (simp only [List.length_drop, List.length_take]; rfl)) ?_; (with_reducible refine (address_parse4.calls k a0 t230 t231 t232 false _ A5.out (WOK.below hW_ (zB HB))).mono ?_); rintro e w27 ⟨rfl, hb⟩; refine ⟨_, rfl, ?_⟩; replace BK229 := Aside0.mk (blk_below (g := gb229) (o := .cells #[.bool false, .int .u64 0, .int .u64 0] 31 (0, 0)) (zK BK229) hb); replace HB := Aside0.mk (below_step (zB HB) hb); (try clear hb)) | ((with_reducible refine gate_dst (N := 4) rfl ?_); refine zx 4 #[.bool false, .int .u64 0, .int .u64 0] 31 ?_; intro gb234 hg w28 hbox hb; have BK234 := Aside0.mk (hbox); have GW234 := Aside0.mk ((by rw [hg]; exact (below_size (zB HB)) : w.heap.size ≤ gb234)); have GE234 := Aside0.mk ((by rw [hg]; exact (below_size (zB HB)) : w.heap.size ≤ gb234)); replace HB := Aside0.mk (below_step (zB HB) hb); have NB229_234 := Aside0.mk ((by rw [hg]; exact Nat.ne_of_lt (blk_lt (g := gb229) (o := .cells #[.bool false, .int .u64 0, .int .u64 0] 31 (0, 0)) (zK BK229)) : gb229 ≠ gb234)); have NB234_229 := Aside0.mk ((by rw [hg]; exact Nat.ne_of_gt (blk_lt (g := gb229) (o := .cells #[.bool false, .int .u64 0, .int .u64 0] 31 (0, 0)) (zK BK229)) : gb234 ≠ gb229)); replace BK229 := Aside0.mk (blk_below (g := gb229) (o := .cells #[.bool false, .int .u64 0, .int .u64 0] 31 (0, 0)) (zK BK229) hb); clear hb hbox hg; have hnb29 := NB234_229.out; have hnc29 := NB229_234.out; obtain ⟨hcz30_0, hcz30_1, hcz30_2⟩ := zc3 BK234; obtain ⟨hfz30_0, hfz30_1, hfz30_2⟩ := zf3 BK234) | ((with_reducible refine gate_callee (f := 134) rfl ?_); refine goesL_ (some 21) rfl rfl Tryz.func134 (by kernel_rfl) rfl #[.string a0] rfl (by (try simp only [List.map_toArray, List.map_cons, List.map_nil]); first | done | rfl | (simp only [List.length_drop, List.length_take]; rfl)) ?_; (with_reducible refine (address_parse6.calls k a0 t235 t236 t237 false _ A13.out (WOK.below hW_ (zB HB))).mono ?_); rintro e w31 ⟨rfl, hb⟩; refine ⟨_, rfl, ?_⟩; replace BK229 := Aside0.mk (blk_below (g := gb229) (o := .cells #[.bool false, .int .u64 0, .int .u64 0] 31 (0, 0)) (by refine zL ?_; refine blk_far ?_ NB229_234.out _; refine zL ?_; refine blk_far ?_ NB229_234.out _; refine zL ?_; refine blk_far ?_ NB229_234.out _; refine zL ?_; exact BK229.out) hb); replace BK234 := Aside0.mk (blk_below (g := gb234) (o := .cells #[.bool t230, .int .u64 t231, .int .u64 t232] 31 (0, 0)) (by refine zL ?_; refine blk_put (cs := #[.bool t230, .int .u64 t231, .int .u64 0]) ?_ 2 _ rfl; refine zL ?_; refine blk_put (cs := #[.bool t230, .int .u64 0, .int .u64 0]) ?_ 1 _ rfl; refine zL ?_; refine blk_put (cs := #[.bool false, .int .u64 0, .int .u64 0]) ?_ 0 _ rfl; refine zL ?_; exact BK234.out) hb); replace HB := Aside0.mk (below_step (zB HB) hb); (try clear hb)) | ((with_reducible refine gate_dst (N := 6) rfl ?_); refine zx 6 #[.bool false, .int .u64 0, .int .u64 0] 31 ?_; intro gb239 hg w32 hbox hb; have BK239 := Aside0.mk (hbox); have GW239 := Aside0.mk ((by rw [hg]; exact (below_size (zB HB)) : w.heap.size ≤ gb239)); have GE239 := Aside0.mk ((by rw [hg]; exact (below_size (zB HB)) : w.heap.size ≤ gb239)); replace HB := Aside0.mk (below_step (zB HB) hb); have NB229_239 := Aside0.mk ((by rw [hg]; exact Nat.ne_of_lt (blk_lt (g := gb229) (o := .cells #[.bool false, .int .u64 0, .int .u64 0] 31 (0, 0)) (zK BK229)) : gb229 ≠ gb239)); have NB239_229 := Aside0.mk ((by rw [hg]; exact Nat.ne_of_gt (blk_lt (g := gb229) (o := .cells #[.bool false, .int .u64 0, .int .u64 0] 31 (0, 0)) (zK BK229)) : gb239 ≠ gb229)); replace BK229 := Aside0.mk (blk_below (g := gb229) (o := .cells #[.bool false, .int .u64 0, .int .u64 0] 31 (0, 0)) (zK BK229) hb); have NB234_239 := Aside0.mk ((by rw [hg]; exact Nat.ne_of_lt (blk_lt (g := gb234) (o := .cells #[.bool t230, .int .u64 t231, .int .u64 t232] 31 (0, 0)) (zK BK234)) : gb234 ≠ gb239)); have NB239_234 := Aside0.mk ((by rw [hg]; exact Nat.ne_of_gt (blk_lt (g := gb234) (o := .cells #[.bool t230, .int .u64 t231, .int .u64 t232] 31 (0, 0)) (zK BK234)) : gb239 ≠ gb234)); replace BK234 := Aside0.mk (blk_below (g := gb234) (o := .cells #[.bool t230, .int .u64 t231, .int .u64 t232] 31 (0, 0)) (zK BK234) hb); clear hb hbox hg; have hnb33 := NB239_229.out; have hnc33 := NB229_239.out; have hnb34 := NB239_234.out; have hnc34 := NB234_239.out; obtain ⟨hcz35_0, hcz35_1, hcz35_2⟩ := zc3 BK239; obtain ⟨hfz35_0, hfz35_1, hfz35_2⟩ := zf3 BK239; obtain ⟨hcz36_0, hcz36_1, hcz36_2⟩ := zc3 BK229; obtain ⟨hfz36_0, hfz36_1, hfz36_2⟩ := zf3 BK229))
       refine bodyPost_ret (results_ct rfl _ _ gb229 31 #[.bool false, .int .u64 0, .int .u64 0] (0, 0) _ rfl (by refine zL ?_; refine blk_put (cs := #[.bool false, .int .u64 0, .int .u64 0]) ?_ 2 _ rfl; refine zL ?_; refine blk_put (cs := #[.bool false, .int .u64 0, .int .u64 0]) ?_ 1 _ rfl; refine zL ?_; refine blk_put (cs := #[.bool false, .int .u64 0, .int .u64 0]) ?_ 0 _ rfl; refine zL ?_; refine blk_far ?_ NB229_239.out _; refine zL ?_; refine blk_far ?_ NB229_239.out _; refine zL ?_; refine blk_far ?_ NB229_239.out _; refine zL ?_; exact BK229.out) Tryz.underlying31 rfl (by kernel_rfl)) rfl ?_
       exact ⟨by first | rfl | (simp [errW_none, errW_some] <;> rfl) | (simp [*, errW_none, errW_some] <;> rfl), by repeat (first | (with_reducible first | exact HB.out | apply below_alloc | apply pw_below_drewN | apply below_drew1 | refine below_set ?_ GE229.out | refine below_set ?_ GE234.out | refine below_set ?_ GE239.out) | exact HB.out)⟩
end Go.Proofs.YtnphnhkinjppjaaGreatDoor.Q
end

section
namespace Go.Proofs.YtnphnhkinjppjaaGreatDoor.Q
open Go.RowKit Go.Proofs.YtnphnhkinjppjaaGreatDoorW.PrintWords Go.Proofs.YtnphnhkinjppjaaGreatDoorW.PrintLast Go.Proofs.YtnphnhkinjppjaaGreatDoorW.PrintMore
attribute [local go_sem] max2_int min2_int max_two min_two max_three min_three max_four min_four
set_option linter.unusedVariables false
set_option linter.unusedSimpArgs false
mutual
def address_digits.j0 : Nat → ByteArray → Bool → Option (Int × Bool)
  | 0, _, _ => none
  | k + 1, x0, x17 => if x17 = true then (some (0, false)) else (address_digits.l0 k x0 0 (x0.size : Int) 0)
def address_digits.l0 : Nat → ByteArray → Int → Int → Int → Option (Int × Bool)
  | 0, _, _, _, _ => none
  | k + 1, x0, x4, x19, x20 => if x20 < x19 then (if 0 ≤ x20 then (if x20 < (x0.size : Int) then (if (bt x0 x20) < 48 then (some (0, false)) else (if (bt x0 x20) > 57 then (some (0, false)) else (address_digits.l0 k x0 (mn 1000 (wrap64 ((wrap64 (x4 * 10)) + (((bt x0 x20) - 48) % 256)))) x19 (wrap64 (x20 + 1))))) else (none)) else (none)) else (some (x4, true))
end
def address_digits.f (k : Nat) (a0 : ByteArray) : Option (Int × Bool) := if a0.toList = ([] : List UInt8) then (address_digits.j0 k a0 true) else (if 0 < (a0.size : Int) then (if (bt a0 0) = 48 then (address_digits.j0 k a0 (decide ((a0.size : Int) > 1))) else (address_digits.j0 k a0 false)) else (none))
theorem address_digits.mono_l : ∀ k, (∀ y0 y1, LeO (address_digits.j0 k y0 y1) (address_digits.j0 (k + 1) y0 y1)) ∧ (∀ y0 y1 y2 y3, LeO (address_digits.l0 k y0 y1 y2 y3) (address_digits.l0 (k + 1) y0 y1 y2 y3))
  | 0 => ⟨fun _ _ r h => by simp [address_digits.j0] at h, fun _ _ _ _ r h => by simp [address_digits.l0] at h⟩
  | k + 1 => by
    obtain ⟨ih0, ih1⟩ := address_digits.mono_l k
    refine ⟨?_, ?_⟩
    · intro y0 y1
      unfold address_digits.j0
      repeat' first
      | (with_reducible exact ih0 _ _)
      | (with_reducible exact ih1 _ _ _ _)
      | (with_reducible exact LeO.refl _)
      | (with_reducible exact LeO.none _)
      | (with_reducible refine LeO.ite ?_ ?_)
      | (with_reducible refine LeO.bind ?_ (fun _ => ?_))
      | exact ih0 _ _
      | exact ih1 _ _ _ _
      | exact LeO.none _
      | refine LeO.ite ?_ ?_
      | refine LeO.bind ?_ (fun _ => ?_)
    · intro y0 y1 y2 y3
      unfold address_digits.l0
      repeat' first
      | (with_reducible exact ih0 _ _)
      | (with_reducible exact ih1 _ _ _ _)
      | (with_reducible exact LeO.refl _)
      | (with_reducible exact LeO.none _)
      | (with_reducible refine LeO.ite ?_ ?_)
      | (with_reducible refine LeO.bind ?_ (fun _ => ?_))
      | exact ih0 _ _
      | exact ih1 _ _ _ _
      | exact LeO.none _
      | refine LeO.ite ?_ ?_
      | refine LeO.bind ?_ (fun _ => ?_)
theorem address_digits.mono : ∀ a0 k, LeO (address_digits.f k a0) (address_digits.f (k + 1) a0) := by
  intro a0 k
  obtain ⟨ih0, ih1⟩ := address_digits.mono_l k
  unfold address_digits.f
  repeat' first
      | (with_reducible exact ih0 _ _)
      | (with_reducible exact ih1 _ _ _ _)
      | (with_reducible exact LeO.refl _)
      | (with_reducible exact LeO.none _)
      | (with_reducible refine LeO.ite ?_ ?_)
      | (with_reducible refine LeO.bind ?_ (fun _ => ?_))
      | exact ih0 _ _
      | exact ih1 _ _ _ _
      | exact LeO.none _
      | refine LeO.ite ?_ ?_
      | refine LeO.bind ?_ (fun _ => ?_)
set_option maxHeartbeats 8000000 in
set_option maxRecDepth 100000 in
theorem address_digits.calls (k : Nat) (a0 : ByteArray) (r1 : Int) (r2 : Bool) (w : World) (h : address_digits.f k a0 = some (r1, r2)) :
 Calls Tryz.prog 106 #[.string a0] w fun e w' => e = .returned (.tuple #[.int .i64 r1, .bool r2]) ∧ Below w.heap.size w w' := by
 have HB := Aside0.mk (Below.refl w.heap.size w)
 unfold address_digits.f at h; have H := h
 clear h
 have HC2 := Aside0.mk H
 clear H
 go_enter Tryz.func106, Tryz.ntmps106
 go_upto_region 1 with (fail)
 go_cut [17] (fun v17 wc => ∃ (kq : Nat) (x17_1 : Bool), v17 = .bool x17_1 ∧ Aside0 (address_digits.j0 kq a0 x17_1 = some (r1, r2)) ∧ Aside0 (kq ≤ k) ∧ Aside0 (Below w.heap.size w wc))
 case first =>
  have H := HC2.out
  clear HC2
  by_cases c3 : a0.toList = ([] : List UInt8)
  · rw [if_pos c3] at H
    have c3b0 : (a0.toList == ([] : List UInt8)) = true := beq_iff_eq.mpr c3
    have c3b1 : (a0.toList != ([] : List UInt8)) = false := bne_eq_false_iff_eq.mpr c3
    clear c3
    (first | rw [c3b0] | (simp only [i64_w, i32_w]; rw [c3b0]) | skip)
    have H' := Aside0.mk H
    clear H
    go_wp2
    go_meet
    case rel => exact ⟨_, (true), (by first | rfl | (simp; done) | (simp [*]; done)), H', ⟨by first | omega | exact Nat.le_refl _⟩, ⟨zB HB⟩⟩
  · rw [if_neg c3] at H
    have c3b0 : (a0.toList == ([] : List UInt8)) = false := beq_eq_false_iff_ne.mpr c3
    have c3b1 : (a0.toList != ([] : List UInt8)) = true := bne_iff_ne.mpr c3
    (first | rw [c3b0] | (simp only [i64_w, i32_w]; rw [c3b0]) | skip)
    by_cases c4 : 0 < (a0.size : Int)
    · rw [if_pos c4] at H
      have c4b0 : decide (0 < (a0.size : Int)) = true := decide_eq_true c4
      have c4b1 : decide (0 < a0.size) = true := decide_eq_true (by omega)
      clear c4
      by_cases c6 : (bt a0 0) = 48
      · rw [if_pos c6] at H
        have c6b0 : ((bt a0 0) == 48) = true := beq_iff_eq.mpr c6
        have c6b1 : ((bt a0 0) != 48) = false := bne_eq_false_iff_eq.mpr c6
        clear c6
        have H' := Aside0.mk H
        clear H
        have p5 : 0 ≤ (0 : Int) := (by omega)
        have q5 : 0 < a0.size := (by have : (0 : Int) < (a0.size : Int) := za; omega)
        have hx5 : ∀ h : 0 < a0.size, ((a0[0]'h).toNat : Int) = bt a0 0 := bt_at a0 0
        clear p5
        have qi5 : (0 < (a0.size : Int)) = True := eq_true (of_decide_eq_true (by first | (with_reducible assumption) | assumption))
        replace q5 := eq_true q5
        go_wp2
        go_meet
        case rel => exact ⟨_, (decide ((a0.size : Int) > 1)), (by first | rfl | (simp; done) | (simp [*]; done)), H', ⟨by first | omega | exact Nat.le_refl _⟩, ⟨zB HB⟩⟩
      · rw [if_neg c6] at H
        have c6b0 : ((bt a0 0) == 48) = false := beq_eq_false_iff_ne.mpr c6
        have c6b1 : ((bt a0 0) != 48) = true := bne_iff_ne.mpr c6
        have H' := Aside0.mk H
        clear H
        have p5 : 0 ≤ (0 : Int) := (by omega)
        have q5 : 0 < a0.size := (by have : (0 : Int) < (a0.size : Int) := za; omega)
        have hx5 : ∀ h : 0 < a0.size, ((a0[0]'h).toNat : Int) = bt a0 0 := bt_at a0 0
        clear p5
        have qi5 : (0 < (a0.size : Int)) = True := eq_true (of_decide_eq_true (by first | (with_reducible assumption) | assumption))
        replace q5 := eq_true q5
        go_wp2
        go_meet
        case rel => exact ⟨_, (false), (by first | rfl | (simp; done) | (simp [*]; done)), H', ⟨by first | omega | exact Nat.le_refl _⟩, ⟨zB HB⟩⟩
    · rw [if_neg c4] at H
      exact absurd H (by simp)
 case rest =>
  clear HC2
  try clear c1
  try clear p2
  try clear c3
  try clear c3b0
  try clear c3b1
  try clear c4
  try clear c4b0
  try clear c4b1
  try clear p5
  try clear q5
  try clear hx5
  try clear qi5
  try clear c6
  try clear c6b0
  try clear c6b1
  try clear p5
  try clear q5
  obtain ⟨kq, x17_1, rfl, HA, HJ1, HB⟩ := hcut
  cases kq with
  | zero => exact absurd HA.out (by simp [address_digits.j0])
  | succ kj1 =>
   have H := HA.out
   clear HA
   simp only [address_digits.j0] at H
   by_cases c7 : x17_1 = true
   · subst c7
     rw [if_pos rfl] at H
     simp only [Option.some.injEq, Prod.mk.injEq] at H
     obtain ⟨rfl, rfl⟩ := H
     go_wp2
     go_ret2
     exact ⟨by first | rfl | (simp [errW_none, errW_some] <;> rfl) | (simp [*, errW_none, errW_some] <;> rfl), by repeat (first | (with_reducible first | exact HB.out | apply below_alloc | apply pw_below_drewN | apply below_drew1) | exact HB.out)⟩
   · replace c7 := Bool.eq_false_iff.mpr c7
     subst c7
     rw [if_neg zF] at H
     have H' := Aside0.mk H
     clear H
     go_wp2
     go_loopg [4, 20] kj1 (fun kq v4 v20 w' => ∃ (x4_2 : Int) (x20_2 : Int), v4 = .int .i64 x4_2 ∧ v20 = .int .i64 x20_2 ∧ Aside0 (address_digits.l0 kq a0 x4_2 (a0.size : Int) x20_2 = some (r1, r2)) ∧ Aside0 (kq ≤ kj1) ∧ Aside0 (Below w.heap.size w w'))
     case atStart => exact ⟨(0), (0), (by first | rfl | (simp; done) | (simp [*]; done)), (by first | rfl | (simp; done) | (simp [*]; done)), H', ⟨Nat.le_refl _⟩, ⟨zB HB⟩⟩
     case round =>
      clear H'
      try clear c1
      try clear p2
      try clear c3
      try clear c3b0
      try clear c3b1
      try clear c4
      try clear c4b0
      try clear c4b1
      try clear p5
      try clear q5
      try clear hx5
      try clear qi5
      try clear c6
      try clear c6b0
      try clear c6b1
      try clear c7
      try clear p2
      try clear p5
      try clear q5
      obtain ⟨x4_2, x20_2, rfl, rfl, HA, HK2, HB⟩ := hrel
      cases gk with
      | zero => exact absurd HA.out (by simp [address_digits.l0])
      | succ k2 =>
       have H := HA.out
       clear HA
       simp only [address_digits.l0] at H
       by_cases c8 : x20_2 < (a0.size : Int)
       · rw [if_pos c8] at H
         have c8b0 : decide (x20_2 < (a0.size : Int)) = true := decide_eq_true c8
         clear c8
         by_cases c9 : 0 ≤ x20_2
         · rw [if_pos c9] at H
           have c9b0 : decide (0 ≤ x20_2) = true := decide_eq_true c9
           clear c9
           by_cases c10 : x20_2 < (a0.size : Int)
           · rw [if_pos c10] at H
             have c10b0 : decide (x20_2 < (a0.size : Int)) = true := decide_eq_true c10
             clear c10
             by_cases c12 : (bt a0 x20_2) < 48
             · rw [if_pos c12] at H
               have c12b0 : decide ((bt a0 x20_2) < 48) = true := decide_eq_true c12
               clear c12
               simp only [Option.some.injEq, Prod.mk.injEq] at H
               obtain ⟨rfl, rfl⟩ := H
               have p11 : 0 ≤ (x20_2 : Int) := za
               have q11 : x20_2 < (a0.size : Int) := za
               have hx11 := bt_at a0 x20_2
               replace p11 := eq_true p11
               replace q11 := eq_true q11
               go_wp2
               go_ret2
               exact ⟨by first | rfl | (simp [errW_none, errW_some] <;> rfl) | (simp [*, errW_none, errW_some] <;> rfl), by repeat (first | (with_reducible first | exact HB.out | apply below_alloc | apply pw_below_drewN | apply below_drew1) | exact HB.out)⟩
             · rw [if_neg c12] at H
               have c12b0 : decide ((bt a0 x20_2) < 48) = false := decide_eq_false c12
               clear c12
               by_cases c14 : (bt a0 x20_2) > 57
               · rw [if_pos c14] at H
                 have c14b0 : decide (57 < (bt a0 x20_2)) = true := decide_eq_true c14
                 clear c14
                 simp only [Option.some.injEq, Prod.mk.injEq] at H
                 obtain ⟨rfl, rfl⟩ := H
                 have p11 : 0 ≤ (x20_2 : Int) := za
                 have q11 : x20_2 < (a0.size : Int) := za
                 have hx11 := bt_at a0 x20_2
                 replace p11 := eq_true p11
                 replace q11 := eq_true q11
                 have p13 : 0 ≤ (x20_2 : Int) := za
                 have q13 : x20_2 < (a0.size : Int) := za
                 have hx13 := bt_at a0 x20_2
                 replace p13 := eq_true p13
                 replace q13 := eq_true q13
                 go_wp2
                 go_ret2
                 exact ⟨by first | rfl | (simp [errW_none, errW_some] <;> rfl) | (simp [*, errW_none, errW_some] <;> rfl), by repeat (first | (with_reducible first | exact HB.out | apply below_alloc | apply pw_below_drewN | apply below_drew1) | exact HB.out)⟩
               · rw [if_neg c14] at H
                 have c14b0 : decide (57 < (bt a0 x20_2)) = false := decide_eq_false c14
                 clear c14
                 obtain ⟨ji16, hji16⟩ : ∃ j_ : Int, (mn 1000 (wrap64 ((wrap64 (x4_2 * 10)) + (((bt a0 x20_2) - 48) % 256)))) = j_ := ⟨_, rfl⟩
                 replace H : (address_digits.l0 k2 a0 ji16 (a0.size : Int) (wrap64 (x20_2 + 1))) = some (r1, r2) := by first | (rw [hji16] at H; exact H) | (simp only [hji16] at H ⊢; exact H)
                 have hji16_ : (if (wrap64 ((wrap64 (x4_2 * 10)) + (((bt a0 x20_2) - 48) % 256))) < 1000 then (wrap64 ((wrap64 (x4_2 * 10)) + (((bt a0 x20_2) - 48) % 256))) else 1000) = ji16 := hji16
                 have H' := Aside0.mk H
                 clear H
                 have p11 : 0 ≤ (x20_2 : Int) := za
                 have q11 : x20_2 < (a0.size : Int) := za
                 have hx11 := bt_at a0 x20_2
                 replace p11 := eq_true p11
                 replace q11 := eq_true q11
                 have p13 : 0 ≤ (x20_2 : Int) := za
                 have q13 : x20_2 < (a0.size : Int) := za
                 have hx13 := bt_at a0 x20_2
                 replace p13 := eq_true p13
                 replace q13 := eq_true q13
                 have p15 : 0 ≤ (x20_2 : Int) := za
                 have q15 : x20_2 < (a0.size : Int) := za
                 have hx15 := bt_at a0 x20_2
                 replace p15 := eq_true p15
                 replace q15 := eq_true q15
                 go_wp2
                 go_roundg k2
                 case measure => have := HJ1.out; have := HK2.out; omega
                 case rel => exact ⟨(ji16), (wrap64 (x20_2 + 1)), (by first | rfl | (simp; done) | (simp only [← hji16] <;> (first | rfl | simp)) | (simp [*]; done)), (by first | rfl | (simp; done) | (simp [*]; done)), (by first | exact H' | (rw [hji16]; exact H') | (rw [← hji16]; exact H') | (simp only [hji16] at H' ⊢; exact H') | (simp only [← hji16] at H' ⊢; exact H')), ⟨by have := HJ1.out; have := HK2.out; omega⟩, ⟨zB HB⟩⟩
           · rw [if_neg c10] at H
             exact absurd H (by simp)
         · rw [if_neg c9] at H
           exact absurd H (by simp)
       · rw [if_neg c8] at H
         have c8b0 : decide (x20_2 < (a0.size : Int)) = false := decide_eq_false c8
         clear c8
         simp only [Option.some.injEq, Prod.mk.injEq] at H
         obtain ⟨rfl, rfl⟩ := H
         go_wp2
         go_ret2
         exact ⟨by first | rfl | (simp [errW_none, errW_some] <;> rfl) | (simp [*, errW_none, errW_some] <;> rfl), by repeat (first | (with_reducible first | exact HB.out | apply below_alloc | apply pw_below_drewN | apply below_drew1) | exact HB.out)⟩
end Go.Proofs.YtnphnhkinjppjaaGreatDoor.Q
end

section
namespace Go.Proofs.YtnphnhkinjppjaaGreatDoor.Q
open Go.RowKit Go.Proofs.YtnphnhkinjppjaaGreatDoorW.PrintWords Go.Proofs.YtnphnhkinjppjaaGreatDoorW.PrintLast Go.Proofs.YtnphnhkinjppjaaGreatDoorW.PrintMore
attribute [local go_sem] max2_int min2_int max_two min_two max_three min_three max_four min_four
set_option linter.unusedVariables false
set_option linter.unusedSimpArgs false
def address_ParsePrefix.f (k : Nat) (a0 : ByteArray) : Option (Bool × Int × Int × Int × Int) := if (a0.size : Int) > 64 then (some (false, 0, 0, 0, 3)) else ((strings_Cut.f a0 (⟨#[47]⟩ : ByteArray)).bind fun bt241 => ((address_Parse.f k bt241.1).bind fun bt244 => (if bt244.2.2.2 = 0 then ((address_size.f bt244.1 bt244.2.1 bt244.2.2.1).bind fun t249 => (if bt241.2.2 = true then ((address_digits.f k bt241.2.1).bind fun bt251 => (if bt251.2 = true then ((address_size.f bt244.1 bt244.2.1 bt244.2.2.1).bind fun t253 => (if bt251.1 > t253 then (some (false, 0, 0, 0, 4)) else ((address_ValidPrefix.f bt244.1 bt244.2.1 bt244.2.2.1 bt251.1).bind fun t254 => (if t254 = true then (some (bt244.1, bt244.2.1, bt244.2.2.1, bt251.1, 0)) else (some (false, 0, 0, 0, 2)))))) else (some (false, 0, 0, 0, 2)))) else ((address_ValidPrefix.f bt244.1 bt244.2.1 bt244.2.2.1 t249).bind fun t255 => (if t255 = true then (some (bt244.1, bt244.2.1, bt244.2.2.1, t249, 0)) else (some (false, 0, 0, 0, 2)))))) else (some (false, 0, 0, 0, 2)))))
theorem address_ParsePrefix.mono : ∀ a0 k, LeO (address_ParsePrefix.f k a0) (address_ParsePrefix.f (k + 1) a0) := by
  intro a0 k
  unfold address_ParsePrefix.f
  repeat' first
      | (with_reducible exact address_Parse.mono _ _)
      | (with_reducible exact address_digits.mono _ _)
      | (with_reducible exact LeO.refl _)
      | (with_reducible exact LeO.none _)
      | (with_reducible refine LeO.ite ?_ ?_)
      | (with_reducible refine LeO.bind ?_ (fun _ => ?_))
      | exact address_Parse.mono _ _
      | exact address_digits.mono _ _
      | exact LeO.none _
      | refine LeO.ite ?_ ?_
      | refine LeO.bind ?_ (fun _ => ?_)
set_option maxHeartbeats 8000000 in
set_option maxRecDepth 100000 in
theorem address_ParsePrefix.calls (k : Nat) (a0 : ByteArray) (r1 : Bool) (r2 : Int) (r3 : Int) (r4 : Int) (r5 : Int) (w : World) (h : address_ParsePrefix.f k a0 = some (r1, r2, r3, r4, r5)) (hW_ : WOK w) :
 Calls Tryz.prog 72 #[.string a0] w fun e w' => e = .returned (.tuple #[.agg #[.bool r1, .int .u64 r2, .int .u64 r3, .int .i64 r4], .int .i64 r5]) ∧ Below w.heap.size w w' := by
 have hu33 := Tryz.underlying33
 have hu31 := Tryz.underlying31
 have HB := Aside0.mk (Below.refl w.heap.size w)
 unfold address_ParsePrefix.f at h; have H := h
 clear h
 by_cases c2 : (a0.size : Int) > 64
 · rw [if_pos c2] at H
   have c2b0 : decide (64 < (a0.size : Int)) = true := decide_eq_true c2
   have c2b1 : decide (64 < a0.size) = true := decide_eq_true (by omega)
   clear c2
   simp only [Option.some.injEq, Prod.mk.injEq] at H
   obtain ⟨rfl, rfl, rfl, rfl, rfl⟩ := H
   go_enter Tryz.func72, Tryz.ntmps72
   go_wp2_with (first | ((with_reducible refine gate_dst (N := 2) rfl ?_); refine zx 2 #[.bool false, .int .u64 0, .int .u64 0, .int .i64 0] 33 ?_; intro gb240 hg w3 hbox hb; have BK240 := Aside0.mk (hbox); have GW240 := Aside0.mk ((by rw [hg]; exact (below_size (zB HB)) : w.heap.size ≤ gb240)); have GE240 := Aside0.mk ((by rw [hg]; exact (below_size (zB HB)) : w.heap.size ≤ gb240)); replace HB := Aside0.mk (below_step (zB HB) hb); clear hb hbox hg; obtain ⟨hcz4_0, hcz4_1, hcz4_2, hcz4_3⟩ := zc4 BK240; obtain ⟨hfz4_0, hfz4_1, hfz4_2, hfz4_3⟩ := zf4 BK240))
   refine bodyPost_ret (results_ct rfl _ _ gb240 33 #[.bool false, .int .u64 0, .int .u64 0, .int .i64 0] (0, 0) _ rfl (by refine zL ?_; refine blk_put (cs := #[.bool false, .int .u64 0, .int .u64 0, .int .i64 0]) ?_ 3 _ rfl; refine zL ?_; refine blk_put (cs := #[.bool false, .int .u64 0, .int .u64 0, .int .i64 0]) ?_ 2 _ rfl; refine zL ?_; refine blk_put (cs := #[.bool false, .int .u64 0, .int .u64 0, .int .i64 0]) ?_ 1 _ rfl; refine zL ?_; refine blk_put (cs := #[.bool false, .int .u64 0, .int .u64 0, .int .i64 0]) ?_ 0 _ rfl; refine zL ?_; exact BK240.out) Tryz.underlying33 rfl (by kernel_rfl)) rfl ?_
   exact ⟨by first | rfl | (simp [errW_none, errW_some] <;> rfl) | (simp [*, errW_none, errW_some] <;> rfl), by repeat (first | (with_reducible first | exact HB.out | apply below_alloc | apply pw_below_drewN | apply below_drew1 | refine below_set ?_ GE240.out) | exact HB.out)⟩
 · rw [if_neg c2] at H
   have c2b0 : decide (64 < (a0.size : Int)) = false := decide_eq_false c2
   have c2b1 : decide (64 < a0.size) = false := decide_eq_false (by omega)
   clear c2
   replace H := Option.bind_eq_some_iff.mp H
   obtain ⟨⟨t241, t242, t243⟩, A50, H⟩ := H
   replace H : ((address_Parse.f k t241).bind fun bt244 => (if bt244.2.2.2 = 0 then ((address_size.f bt244.1 bt244.2.1 bt244.2.2.1).bind fun t249 => (if t243 = true then ((address_digits.f k t242).bind fun bt251 => (if bt251.2 = true then ((address_size.f bt244.1 bt244.2.1 bt244.2.2.1).bind fun t253 => (if bt251.1 > t253 then (some (false, 0, 0, 0, 4)) else ((address_ValidPrefix.f bt244.1 bt244.2.1 bt244.2.2.1 bt251.1).bind fun t254 => (if t254 = true then (some (bt244.1, bt244.2.1, bt244.2.2.1, bt251.1, 0)) else (some (false, 0, 0, 0, 2)))))) else (some (false, 0, 0, 0, 2)))) else ((address_ValidPrefix.f bt244.1 bt244.2.1 bt244.2.2.1 t249).bind fun t255 => (if t255 = true then (some (bt244.1, bt244.2.1, bt244.2.2.1, t249, 0)) else (some (false, 0, 0, 0, 2)))))) else (some (false, 0, 0, 0, 2)))) = some (r1, r2, r3, r4, r5) := H
   have A5 := Aside0.mk A50
   clear A50
   replace H := Option.bind_eq_some_iff.mp H
   obtain ⟨⟨t244, t245, t246, t247⟩, A60, H⟩ := H
   replace H : (if t247 = 0 then ((address_size.f t244 t245 t246).bind fun t249 => (if t243 = true then ((address_digits.f k t242).bind fun bt251 => (if bt251.2 = true then ((address_size.f t244 t245 t246).bind fun t253 => (if bt251.1 > t253 then (some (false, 0, 0, 0, 4)) else ((address_ValidPrefix.f t244 t245 t246 bt251.1).bind fun t254 => (if t254 = true then (some (t244, t245, t246, bt251.1, 0)) else (some (false, 0, 0, 0, 2)))))) else (some (false, 0, 0, 0, 2)))) else ((address_ValidPrefix.f t244 t245 t246 t249).bind fun t255 => (if t255 = true then (some (t244, t245, t246, t249, 0)) else (some (false, 0, 0, 0, 2)))))) else (some (false, 0, 0, 0, 2))) = some (r1, r2, r3, r4, r5) := H
   have A6 := Aside0.mk A60
   clear A60
   by_cases c7 : t247 = 0
   · rw [if_pos c7] at H
     have c7b0 : (t247 == 0) = true := beq_iff_eq.mpr c7
     have c7b1 : (t247 != 0) = false := bne_eq_false_iff_eq.mpr c7
     clear c7
     replace H := Option.bind_eq_some_iff.mp H
     obtain ⟨t249, A80, H⟩ := H
     replace H : (if t243 = true then ((address_digits.f k t242).bind fun bt251 => (if bt251.2 = true then ((address_size.f t244 t245 t246).bind fun t253 => (if bt251.1 > t253 then (some (false, 0, 0, 0, 4)) else ((address_ValidPrefix.f t244 t245 t246 bt251.1).bind fun t254 => (if t254 = true then (some (t244, t245, t246, bt251.1, 0)) else (some (false, 0, 0, 0, 2)))))) else (some (false, 0, 0, 0, 2)))) else ((address_ValidPrefix.f t244 t245 t246 t249).bind fun t255 => (if t255 = true then (some (t244, t245, t246, t249, 0)) else (some (false, 0, 0, 0, 2))))) = some (r1, r2, r3, r4, r5) := H
     have A8 := Aside0.mk A80
     clear A80
     by_cases c9 : t243 = true
     · subst c9
       rw [if_pos rfl] at H
       replace H := Option.bind_eq_some_iff.mp H
       obtain ⟨⟨t251, t252⟩, A100, H⟩ := H
       replace H : (if t252 = true then ((address_size.f t244 t245 t246).bind fun t253 => (if t251 > t253 then (some (false, 0, 0, 0, 4)) else ((address_ValidPrefix.f t244 t245 t246 t251).bind fun t254 => (if t254 = true then (some (t244, t245, t246, t251, 0)) else (some (false, 0, 0, 0, 2)))))) else (some (false, 0, 0, 0, 2))) = some (r1, r2, r3, r4, r5) := H
       have A10 := Aside0.mk A100
       clear A100
       by_cases c11 : t252 = true
       · subst c11
         rw [if_pos rfl] at H
         replace H := Option.bind_eq_some_iff.mp H
         obtain ⟨t253, A120, H⟩ := H
         replace H : (if t251 > t253 then (some (false, 0, 0, 0, 4)) else ((address_ValidPrefix.f t244 t245 t246 t251).bind fun t254 => (if t254 = true then (some (t244, t245, t246, t251, 0)) else (some (false, 0, 0, 0, 2))))) = some (r1, r2, r3, r4, r5) := H
         have A12 := Aside0.mk A120
         clear A120
         by_cases c13 : t251 > t253
         · rw [if_pos c13] at H
           have c13b0 : decide (t253 < t251) = true := decide_eq_true c13
           clear c13
           simp only [Option.some.injEq, Prod.mk.injEq] at H
           obtain ⟨rfl, rfl, rfl, rfl, rfl⟩ := H
           go_enter Tryz.func72, Tryz.ntmps72
           try go_wp2_with (first | ((with_reducible refine gate_dst (N := 2) rfl ?_); refine zx 2 #[.bool false, .int .u64 0, .int .u64 0, .int .i64 0] 33 ?_; intro gb240 hg w14 hbox hb; have BK240 := Aside0.mk (hbox); have GW240 := Aside0.mk ((by rw [hg]; exact (below_size (zB HB)) : w.heap.size ≤ gb240)); have GE240 := Aside0.mk ((by rw [hg]; exact (below_size (zB HB)) : w.heap.size ≤ gb240)); replace HB := Aside0.mk (below_step (zB HB) hb); clear hb hbox hg) | ((with_reducible refine gate_callee (f := 104) rfl ?_); refine goesL_ (some 18) rfl rfl Tryz.func104 (by kernel_rfl) rfl #[.string a0, .string (⟨#[47]⟩ : ByteArray)] rfl (by (try simp only [List.map_toArray, List.map_cons, List.map_nil]); first | done | rfl | (simp only [List.length_drop, List.length_take]; rfl)) ?_; (with_reducible refine (strings_Cut.calls a0 (⟨#[47]⟩ : ByteArray) t241 t242 true _ A5.out (WOK.below hW_ (zB HB))).mono ?_); rintro e w15 ⟨rfl, hb⟩; refine ⟨_, rfl, ?_⟩; replace BK240 := Aside0.mk (blk_below (g := gb240) (o := .cells #[.bool false, .int .u64 0, .int .u64 0, .int .i64 0] 33 (0, 0)) (zK BK240) hb); replace HB := Aside0.mk (below_step (zB HB) hb); (try clear hb)) | ((with_reducible refine gate_callee (f := 105) rfl ?_); refine goesL_ (some 24) rfl rfl Tryz.func105 (by kernel_rfl) rfl #[.string t241] rfl (by (try simp only [List.map_toArray, List.map_cons, List.map_nil]); first | done | rfl | (simp only [List.length_drop, List.length_take]; rfl)) ?_; (with_reducible refine (address_Parse.calls k t241 t244 t245 t246 t247 _ A6.out (WOK.below hW_ (zB HB))).mono ?_); rintro e w16 ⟨rfl, hb⟩; refine ⟨_, rfl, ?_⟩; replace BK240 := Aside0.mk (blk_below (g := gb240) (o := .cells #[.bool false, .int .u64 0, .int .u64 0, .int .i64 0] 33 (0, 0)) (zK BK240) hb); replace HB := Aside0.mk (below_step (zB HB) hb); (try clear hb)) | ((with_reducible refine gate_dst (N := 7) rfl ?_); refine zx 7 #[.bool false, .int .u64 0, .int .u64 0] 31 ?_; intro gb248 hg w17 hbox hb; have BK248 := Aside0.mk (hbox); have GW248 := Aside0.mk ((by rw [hg]; exact (below_size (zB HB)) : w.heap.size ≤ gb248)); have GE248 := Aside0.mk ((by rw [hg]; exact (below_size (zB HB)) : w.heap.size ≤ gb248)); replace HB := Aside0.mk (below_step (zB HB) hb); have NB240_248 := Aside0.mk ((by rw [hg]; exact Nat.ne_of_lt (blk_lt (g := gb240) (o := .cells #[.bool false, .int .u64 0, .int .u64 0, .int .i64 0] 33 (0, 0)) (zK BK240)) : gb240 ≠ gb248)); have NB248_240 := Aside0.mk ((by rw [hg]; exact Nat.ne_of_gt (blk_lt (g := gb240) (o := .cells #[.bool false, .int .u64 0, .int .u64 0, .int .i64 0] 33 (0, 0)) (zK BK240)) : gb248 ≠ gb240)); replace BK240 := Aside0.mk (blk_below (g := gb240) (o := .cells #[.bool false, .int .u64 0, .int .u64 0, .int .i64 0] 33 (0, 0)) (zK BK240) hb); clear hb hbox hg; have hnb18 := NB248_240.out; have hnc18 := NB240_248.out; obtain ⟨hcz19_0, hcz19_1, hcz19_2⟩ := zc3 BK248; obtain ⟨hfz19_0, hfz19_1, hfz19_2⟩ := zf3 BK248))
           have n0_ : Aside0 ((((w17.setCell ⟨gb248, 0, none⟩ (.bool t244)).setCell ⟨gb248, 1, none⟩ (.int .u64 t245)).setCell ⟨gb248, 2, none⟩ (.int .u64 t246)).heap[gb240]? = some (.cells #[.bool false, .int .u64 0, .int .u64 0, .int .i64 0] 33 (0, 0))) := ⟨by refine zL ?_; refine blk_far ?_ NB240_248.out _; refine zL ?_; refine blk_far ?_ NB240_248.out _; refine zL ?_; refine blk_far ?_ NB240_248.out _; refine zL ?_; exact BK240.out⟩
           have n1_ : Aside0 ((((w17.setCell ⟨gb248, 0, none⟩ (.bool t244)).setCell ⟨gb248, 1, none⟩ (.int .u64 t245)).setCell ⟨gb248, 2, none⟩ (.int .u64 t246)).heap[gb248]? = some (.cells #[.bool t244, .int .u64 t245, .int .u64 t246] 31 (0, 0))) := ⟨by refine zL ?_; refine blk_put (cs := #[.bool t244, .int .u64 t245, .int .u64 0]) ?_ 2 _ rfl; refine zL ?_; refine blk_put (cs := #[.bool t244, .int .u64 0, .int .u64 0]) ?_ 1 _ rfl; refine zL ?_; refine blk_put (cs := #[.bool false, .int .u64 0, .int .u64 0]) ?_ 0 _ rfl; refine zL ?_; exact BK248.out⟩
           have n2_ : Aside0 (Below w.heap.size w (((w17.setCell ⟨gb248, 0, none⟩ (.bool t244)).setCell ⟨gb248, 1, none⟩ (.int .u64 t245)).setCell ⟨gb248, 2, none⟩ (.int .u64 t246))) := ⟨zB HB⟩
           (try clear BK240)
           (try clear BK248)
           (try clear HB)
           generalize (((w17.setCell ⟨gb248, 0, none⟩ (.bool t244)).setCell ⟨gb248, 1, none⟩ (.int .u64 t245)).setCell ⟨gb248, 2, none⟩ (.int .u64 t246)) = w20 at n0_ n1_ n2_ ⊢
           have BK240 := n0_
           have BK248 := n1_
           have HB := n2_
           clear n0_ n1_ n2_
           replace BK240 := Aside0.mk (blk_drew BK240.out)
           replace BK248 := Aside0.mk (blk_drew BK248.out)
           replace HB := Aside0.mk (below_drew1 HB.out)
           refine start_ (n := 6) (S := fun w' => w'.cell? ⟨gb248, 0, none⟩ = some (.bool t244) ∧ w'.cell? ⟨gb248, 1, none⟩ = some (.int .u64 t245) ∧ w'.cell? ⟨gb248, 2, none⟩ = some (.int .u64 t246)) (ds := []) #[false, false, false, false, false, false] (by kernel_rfl) rfl rfl ⟨zc BK248 0, zc BK248 1, zc BK248 2⟩ (fun hHeld => ?_)
           generalize w20.drew = w21 at BK240 BK248 HB hHeld ⊢
           refine zt0 0 30 hHeld ?_; refine zt0 1 31 hHeld ?_
           refine join_ (σ := Nat) 1 #[true, true, true, true, true, false] (fun s_ => [(32, .int .i64 t249), (9, .pointer (some ⟨s_, 0, none⟩)), (33, .agg #[.bool t244, .int .u64 t245, .int .u64 t246, .int .i64 t249])]) (fun s_ w' => (w'.cell? ⟨gb248, 0, none⟩ = some (.bool t244) ∧ w'.cell? ⟨gb248, 1, none⟩ = some (.int .u64 t245) ∧ w'.cell? ⟨gb248, 2, none⟩ = some (.int .u64 t246)) ∧ (w'.heap[gb240]? = some (.cells #[.bool false, .int .u64 0, .int .u64 0, .int .i64 0] 33 (0, 0))) ∧ (w'.heap[gb248]? = some (.cells #[.bool t244, .int .u64 t245, .int .u64 t246] 31 (0, 0))) ∧ (w'.heap[s_]? = some (.cells #[.bool false, .int .u64 0, .int .u64 0, .int .i64 0] 33 (0, 0))) ∧ (w.heap.size ≤ s_) ∧ (w.heap.size ≤ s_) ∧ (gb240 ≠ s_) ∧ (s_ ≠ gb240) ∧ (gb248 ≠ s_) ∧ (s_ ≠ gb248) ∧ (Below w.heap.size w w')) ?_ ?_
           rotate_left
           · intro hCont
             refine two_ (i := 2) (j := 4) (Ni := some 32) (Nj := some 9) #[true, true, true, false, false, false] #[true, true, false, false, true, false] rfl rfl rfl rfl (by kernel_rfl) (by decide) (by decide) (fun K hK => ?_) (fun K hK => ?_)
             · skip
               refine zg Tryz.func92 #[.agg #[.bool t244, .int .u64 t245, .int .u64 t246]] ?_
               with_reducible refine (address_size.calls t244 t245 t246 t249 _ A8.out).mono ?_
               rintro e w22 ⟨rfl, hb⟩
               refine ⟨_, rfl, ?_⟩
               replace BK240 := Aside0.mk (blk_below (g := gb240) (o := .cells #[.bool false, .int .u64 0, .int .u64 0, .int .i64 0] 33 (0, 0)) (zK BK240) hb)
               replace BK248 := Aside0.mk (blk_below (g := gb248) (o := .cells #[.bool t244, .int .u64 t245, .int .u64 t246] 31 (0, 0)) (zK BK248) hb)
               replace HB := Aside0.mk (below_step (zB HB) hb)
               (try clear hb)
               refine hK.out _ _ ⟨zc BK248 0, zc BK248 1, zc BK248 2⟩ (fun hHeld => ?_)
               clear hK K
               refine zn 32 ?_; refine zp0 3 33 ?_; refine zo0 4 9 (fun K hK => ?_)
               refine box_step ?hg (N := 9) ?hd (cs := #[.bool false, .int .u64 0, .int .u64 0, .int .i64 0]) (t := 33) ?hr ?_; (case hd => rfl); (case hg => rfl); (case hr => first | (go_simp; done) | (go_simp; rfl))
               intro gb250 hg w23 hbox hb
               have BK250 := Aside0.mk (hbox)
               have GW250 := Aside0.mk ((by rw [hg]; exact (below_size (zB HB)) : w.heap.size ≤ gb250))
               have GE250 := Aside0.mk ((by rw [hg]; exact (below_size (zB HB)) : w.heap.size ≤ gb250))
               replace HB := Aside0.mk (below_step (zB HB) hb)
               have NB240_250 := Aside0.mk ((by rw [hg]; exact Nat.ne_of_lt (blk_lt (g := gb240) (o := .cells #[.bool false, .int .u64 0, .int .u64 0, .int .i64 0] 33 (0, 0)) (zK BK240)) : gb240 ≠ gb250))
               have NB250_240 := Aside0.mk ((by rw [hg]; exact Nat.ne_of_gt (blk_lt (g := gb240) (o := .cells #[.bool false, .int .u64 0, .int .u64 0, .int .i64 0] 33 (0, 0)) (zK BK240)) : gb250 ≠ gb240))
               replace BK240 := Aside0.mk (blk_below (g := gb240) (o := .cells #[.bool false, .int .u64 0, .int .u64 0, .int .i64 0] 33 (0, 0)) (zK BK240) hb)
               have NB248_250 := Aside0.mk ((by rw [hg]; exact Nat.ne_of_lt (blk_lt (g := gb248) (o := .cells #[.bool t244, .int .u64 t245, .int .u64 t246] 31 (0, 0)) (zK BK248)) : gb248 ≠ gb250))
               have NB250_248 := Aside0.mk ((by rw [hg]; exact Nat.ne_of_gt (blk_lt (g := gb248) (o := .cells #[.bool t244, .int .u64 t245, .int .u64 t246] 31 (0, 0)) (zK BK248)) : gb250 ≠ gb248))
               replace BK248 := Aside0.mk (blk_below (g := gb248) (o := .cells #[.bool t244, .int .u64 t245, .int .u64 t246] 31 (0, 0)) (zK BK248) hb)
               clear hb hbox hg
               refine hK.out _ _ ⟨zc BK248 0, zc BK248 1, zc BK248 2⟩ (fun hHeld => ?_)
               clear hK K
               refine zn 9 ?_
               exact norm_ (by simp only [putAll, Act.put, List.setIfInBounds_toArray, List.set_cons_zero, List.set_cons_succ]) (hCont (gb250) _ ⟨hHeld, (zK BK240), (zK BK248), (zK BK250), GW250.out, GE250.out, NB240_250.out, NB250_240.out, NB248_250.out, NB250_248.out, (zB HB)⟩)
             · skip
               refine box_step ?hg (N := 9) ?hd (cs := #[.bool false, .int .u64 0, .int .u64 0, .int .i64 0]) (t := 33) ?hr ?_; (case hd => rfl); (case hg => rfl); (case hr => first | (go_simp; done) | (go_simp; rfl))
               intro gb250 hg w22 hbox hb
               have BK250 := Aside0.mk (hbox)
               have GW250 := Aside0.mk ((by rw [hg]; exact (below_size (zB HB)) : w.heap.size ≤ gb250))
               have GE250 := Aside0.mk ((by rw [hg]; exact (below_size (zB HB)) : w.heap.size ≤ gb250))
               replace HB := Aside0.mk (below_step (zB HB) hb)
               have NB240_250 := Aside0.mk ((by rw [hg]; exact Nat.ne_of_lt (blk_lt (g := gb240) (o := .cells #[.bool false, .int .u64 0, .int .u64 0, .int .i64 0] 33 (0, 0)) (zK BK240)) : gb240 ≠ gb250))
               have NB250_240 := Aside0.mk ((by rw [hg]; exact Nat.ne_of_gt (blk_lt (g := gb240) (o := .cells #[.bool false, .int .u64 0, .int .u64 0, .int .i64 0] 33 (0, 0)) (zK BK240)) : gb250 ≠ gb240))
               replace BK240 := Aside0.mk (blk_below (g := gb240) (o := .cells #[.bool false, .int .u64 0, .int .u64 0, .int .i64 0] 33 (0, 0)) (zK BK240) hb)
               have NB248_250 := Aside0.mk ((by rw [hg]; exact Nat.ne_of_lt (blk_lt (g := gb248) (o := .cells #[.bool t244, .int .u64 t245, .int .u64 t246] 31 (0, 0)) (zK BK248)) : gb248 ≠ gb250))
               have NB250_248 := Aside0.mk ((by rw [hg]; exact Nat.ne_of_gt (blk_lt (g := gb248) (o := .cells #[.bool t244, .int .u64 t245, .int .u64 t246] 31 (0, 0)) (zK BK248)) : gb250 ≠ gb248))
               replace BK248 := Aside0.mk (blk_below (g := gb248) (o := .cells #[.bool t244, .int .u64 t245, .int .u64 t246] 31 (0, 0)) (zK BK248) hb)
               clear hb hbox hg
               refine hK.out _ _ ⟨zc BK248 0, zc BK248 1, zc BK248 2⟩ (fun hHeld => ?_)
               clear hK K
               refine zn 9 ?_; refine zo0 2 32 (fun K hK => ?_)
               refine zg Tryz.func92 #[.agg #[.bool t244, .int .u64 t245, .int .u64 t246]] ?_
               with_reducible refine (address_size.calls t244 t245 t246 t249 _ A8.out).mono ?_
               rintro e w23 ⟨rfl, hb⟩
               refine ⟨_, rfl, ?_⟩
               replace BK240 := Aside0.mk (blk_below (g := gb240) (o := .cells #[.bool false, .int .u64 0, .int .u64 0, .int .i64 0] 33 (0, 0)) (zK BK240) hb)
               replace BK248 := Aside0.mk (blk_below (g := gb248) (o := .cells #[.bool t244, .int .u64 t245, .int .u64 t246] 31 (0, 0)) (zK BK248) hb)
               replace BK250 := Aside0.mk (blk_below (g := gb250) (o := .cells #[.bool false, .int .u64 0, .int .u64 0, .int .i64 0] 33 (0, 0)) (zK BK250) hb)
               replace HB := Aside0.mk (below_step (zB HB) hb)
               (try clear hb)
               refine hK.out _ _ ⟨zc BK248 0, zc BK248 1, zc BK248 2⟩ (fun hHeld => ?_)
               clear hK K
               refine zn 32 ?_; refine zp0 3 33 ?_
               exact norm_ (by simp only [putAll, Act.put, List.setIfInBounds_toArray, List.set_cons_zero, List.set_cons_succ]) (hCont (gb250) _ ⟨hHeld, (zK BK240), (zK BK248), (zK BK250), GW250.out, GE250.out, NB240_250.out, NB250_240.out, NB248_250.out, NB250_248.out, (zB HB)⟩)
           rintro gb250 w24 ⟨hS_, h0_, h1_, h2_, h3_, h4_, h5_, h6_, h7_, h8_, h9_⟩
           have n0_ : Aside0 (w24.heap[gb240]? = some (.cells #[.bool false, .int .u64 0, .int .u64 0, .int .i64 0] 33 (0, 0))) := ⟨h0_⟩
           have n1_ : Aside0 (w24.heap[gb248]? = some (.cells #[.bool t244, .int .u64 t245, .int .u64 t246] 31 (0, 0))) := ⟨h1_⟩
           have n2_ : Aside0 (w24.heap[gb250]? = some (.cells #[.bool false, .int .u64 0, .int .u64 0, .int .i64 0] 33 (0, 0))) := ⟨h2_⟩
           have n3_ : Aside0 (w.heap.size ≤ gb250) := ⟨h3_⟩
           have n4_ : Aside0 (w.heap.size ≤ gb250) := ⟨h4_⟩
           have n5_ : Aside0 (gb240 ≠ gb250) := ⟨h5_⟩
           have n6_ : Aside0 (gb250 ≠ gb240) := ⟨h6_⟩
           have n7_ : Aside0 (gb248 ≠ gb250) := ⟨h7_⟩
           have n8_ : Aside0 (gb250 ≠ gb248) := ⟨h8_⟩
           have n9_ : Aside0 (Below w.heap.size w w24) := ⟨h9_⟩
           clear BK240
           clear BK248
           clear HB
           clear h0_ h1_ h2_ h3_ h4_ h5_ h6_ h7_ h8_ h9_
           have BK240 := n0_
           have BK248 := n1_
           have BK250 := n2_
           have GW250 := n3_
           have GE250 := n4_
           have NB240_250 := n5_
           have NB250_240 := n6_
           have NB248_250 := n7_
           have NB250_248 := n8_
           have HB := n9_
           clear n0_ n1_ n2_ n3_ n4_ n5_ n6_ n7_ n8_ n9_
           have hHeld : w24.cell? ⟨gb248, 0, none⟩ = some (.bool t244) ∧ w24.cell? ⟨gb248, 1, none⟩ = some (.int .u64 t245) ∧ w24.cell? ⟨gb248, 2, none⟩ = some (.int .u64 t246) := hS_
           refine norm_ (a' := ?_) ?_ ?_
           rotate_left
           · simp only [putAll, Act.put, List.setIfInBounds_toArray, List.set_cons_zero, List.set_cons_succ]
             rfl
           refine one_ (i := 5) (N := none) #[true, true, true, true, true, true] rfl rfl (by kernel_rfl) (by decide) (fun K hK => ?_)
           have hs25 : w24.cell? ⟨gb250, 0, none⟩ = some (.bool false) := zc BK250 0
           have hfs25 := blk_frozen BK250.out 0
           have hns25_0 := NB240_250.out
           have hns25_1 := NB248_250.out
           have hms25_0 := NB250_240.out
           have hms25_1 := NB250_248.out
           have hs26 : w24.cell? ⟨gb250, 1, none⟩ = some (.int .u64 0) := zc BK250 1
           have hfs26 := blk_frozen BK250.out 1
           have hns26_0 := NB240_250.out
           have hns26_1 := NB248_250.out
           have hms26_0 := NB250_240.out
           have hms26_1 := NB250_248.out
           have hs27 : w24.cell? ⟨gb250, 2, none⟩ = some (.int .u64 0) := zc BK250 2
           have hfs27 := blk_frozen BK250.out 2
           have hns27_0 := NB240_250.out
           have hns27_1 := NB248_250.out
           have hms27_0 := NB250_240.out
           have hms27_1 := NB250_248.out
           have hs28 : w24.cell? ⟨gb250, 3, none⟩ = some (.int .i64 0) := zc BK250 3
           have hfs28 := blk_frozen BK250.out 3
           have hns28_0 := NB240_250.out
           have hns28_1 := NB248_250.out
           have hms28_0 := NB250_240.out
           have hms28_1 := NB250_248.out
           refine skip_ (w1 := ?_) (by rfl) rfl ?_ ?_
           rotate_left
           · go_simp
             rfl
           refine hK.out _ _ ⟨((cell_far (p := ⟨gb250, _, none⟩) NB248_250.out _).trans (((cell_far (p := ⟨gb250, _, none⟩) NB248_250.out _).trans (((cell_far (p := ⟨gb250, _, none⟩) NB248_250.out _).trans (((cell_far (p := ⟨gb250, _, none⟩) NB248_250.out _).trans (hHeld.1)))))))), ((cell_far (p := ⟨gb250, _, none⟩) NB248_250.out _).trans (((cell_far (p := ⟨gb250, _, none⟩) NB248_250.out _).trans (((cell_far (p := ⟨gb250, _, none⟩) NB248_250.out _).trans (((cell_far (p := ⟨gb250, _, none⟩) NB248_250.out _).trans (hHeld.2.1)))))))), ((cell_far (p := ⟨gb250, _, none⟩) NB248_250.out _).trans (((cell_far (p := ⟨gb250, _, none⟩) NB248_250.out _).trans (((cell_far (p := ⟨gb250, _, none⟩) NB248_250.out _).trans (((cell_far (p := ⟨gb250, _, none⟩) NB248_250.out _).trans (hHeld.2.2))))))))⟩ (fun hHeld => ?_)
           clear hK K
           refine zd0 ?_
           try go_wp2_with (first | ((with_reducible refine gate_callee (f := 106) rfl ?_); refine goesL_ (some 37) rfl rfl Tryz.func106 (by kernel_rfl) rfl #[.string t242] rfl (by (try simp only [List.map_toArray, List.map_cons, List.map_nil]); first | done | rfl | (simp only [List.length_drop, List.length_take]; rfl)) ?_; (with_reducible refine (address_digits.calls k t242 t251 true _ A10.out).mono ?_); rintro e w29 ⟨rfl, hb⟩; refine ⟨_, rfl, ?_⟩; replace BK240 := Aside0.mk (blk_below (g := gb240) (o := .cells #[.bool false, .int .u64 0, .int .u64 0, .int .i64 0] 33 (0, 0)) (by refine zL ?_; refine blk_far ?_ NB240_250.out _; refine zL ?_; refine blk_far ?_ NB240_250.out _; refine zL ?_; refine blk_far ?_ NB240_250.out _; refine zL ?_; refine blk_far ?_ NB240_250.out _; refine zL ?_; exact BK240.out) hb); replace BK248 := Aside0.mk (blk_below (g := gb248) (o := .cells #[.bool t244, .int .u64 t245, .int .u64 t246] 31 (0, 0)) (by refine zL ?_; refine blk_far ?_ NB248_250.out _; refine zL ?_; refine blk_far ?_ NB248_250.out _; refine zL ?_; refine blk_far ?_ NB248_250.out _; refine zL ?_; refine blk_far ?_ NB248_250.out _; refine zL ?_; exact BK248.out) hb); replace BK250 := Aside0.mk (blk_below (g := gb250) (o := .cells #[.bool t244, .int .u64 t245, .int .u64 t246, .int .i64 t249] 33 (0, 0)) (by refine zL ?_; refine blk_put (cs := #[.bool t244, .int .u64 t245, .int .u64 t246, .int .i64 0]) ?_ 3 _ rfl; refine zL ?_; refine blk_put (cs := #[.bool t244, .int .u64 t245, .int .u64 0, .int .i64 0]) ?_ 2 _ rfl; refine zL ?_; refine blk_put (cs := #[.bool t244, .int .u64 0, .int .u64 0, .int .i64 0]) ?_ 1 _ rfl; refine zL ?_; refine blk_put (cs := #[.bool false, .int .u64 0, .int .u64 0, .int .i64 0]) ?_ 0 _ rfl; refine zL ?_; exact BK250.out) hb); replace HB := Aside0.mk (below_step (zB HB) hb); (try clear hb); have hnb30 := NB248_250.out; have hnc30 := NB250_248.out; obtain ⟨hcz31_0, hcz31_1, hcz31_2⟩ := zc3 BK248; obtain ⟨hfz31_0, hfz31_1, hfz31_2⟩ := zf3 BK248) | ((with_reducible refine gate_callee (f := 92) rfl ?_); refine goesL_ (some 47) rfl rfl Tryz.func92 (by kernel_rfl) rfl #[.agg #[.bool t244, .int .u64 t245, .int .u64 t246]] rfl (by (try simp only [List.map_toArray, List.map_cons, List.map_nil]); first | done | rfl | (simp only [List.length_drop, List.length_take]; rfl)) ?_; (with_reducible refine (address_size.calls t244 t245 t246 t253 _ A12.out).mono ?_); rintro e w32 ⟨rfl, hb⟩; refine ⟨_, rfl, ?_⟩; replace BK240 := Aside0.mk (blk_below (g := gb240) (o := .cells #[.bool false, .int .u64 0, .int .u64 0, .int .i64 0] 33 (0, 0)) (zK BK240) hb); replace BK248 := Aside0.mk (blk_below (g := gb248) (o := .cells #[.bool t244, .int .u64 t245, .int .u64 t246] 31 (0, 0)) (zK BK248) hb); replace BK250 := Aside0.mk (blk_below (g := gb250) (o := .cells #[.bool t244, .int .u64 t245, .int .u64 t246, .int .i64 t249] 33 (0, 0)) (zK BK250) hb); replace HB := Aside0.mk (below_step (zB HB) hb); (try clear hb); have hnb33 := NB240_250.out; have hnc33 := NB250_240.out; obtain ⟨hcz34_0, hcz34_1, hcz34_2, hcz34_3⟩ := zc4 BK240; obtain ⟨hfz34_0, hfz34_1, hfz34_2, hfz34_3⟩ := zf4 BK240))
           refine bodyPost_ret (results_ct rfl _ _ gb240 33 #[.bool false, .int .u64 0, .int .u64 0, .int .i64 0] (0, 0) _ rfl (by refine zL ?_; refine blk_put (cs := #[.bool false, .int .u64 0, .int .u64 0, .int .i64 0]) ?_ 3 _ rfl; refine zL ?_; refine blk_put (cs := #[.bool false, .int .u64 0, .int .u64 0, .int .i64 0]) ?_ 2 _ rfl; refine zL ?_; refine blk_put (cs := #[.bool false, .int .u64 0, .int .u64 0, .int .i64 0]) ?_ 1 _ rfl; refine zL ?_; refine blk_put (cs := #[.bool false, .int .u64 0, .int .u64 0, .int .i64 0]) ?_ 0 _ rfl; refine zL ?_; exact BK240.out) Tryz.underlying33 rfl (by kernel_rfl)) rfl ?_
           exact ⟨by first | rfl | (simp [errW_none, errW_some] <;> rfl) | (simp [*, errW_none, errW_some] <;> rfl), by repeat (first | (with_reducible first | exact HB.out | apply below_alloc | apply pw_below_drewN | apply below_drew1 | refine below_set ?_ GE240.out | refine below_set ?_ GE248.out | refine below_set ?_ GE250.out) | exact HB.out)⟩
         · rw [if_neg c13] at H
           have c13b0 : decide (t253 < t251) = false := decide_eq_false c13
           clear c13
           replace H := Option.bind_eq_some_iff.mp H
           obtain ⟨t254, A350, H⟩ := H
           replace H : (if t254 = true then (some (t244, t245, t246, t251, 0)) else (some (false, 0, 0, 0, 2))) = some (r1, r2, r3, r4, r5) := H
           have A35 := Aside0.mk A350
           clear A350
           by_cases c36 : t254 = true
           · subst c36
             rw [if_pos rfl] at H
             simp only [Option.some.injEq, Prod.mk.injEq] at H
             obtain ⟨rfl, rfl, rfl, rfl, rfl⟩ := H
             go_enter Tryz.func72, Tryz.ntmps72
             try go_wp2_with (first | ((with_reducible refine gate_dst (N := 2) rfl ?_); refine zx 2 #[.bool false, .int .u64 0, .int .u64 0, .int .i64 0] 33 ?_; intro gb240 hg w37 hbox hb; have BK240 := Aside0.mk (hbox); have GW240 := Aside0.mk ((by rw [hg]; exact (below_size (zB HB)) : w.heap.size ≤ gb240)); have GE240 := Aside0.mk ((by rw [hg]; exact (below_size (zB HB)) : w.heap.size ≤ gb240)); replace HB := Aside0.mk (below_step (zB HB) hb); clear hb hbox hg) | ((with_reducible refine gate_callee (f := 104) rfl ?_); refine goesL_ (some 18) rfl rfl Tryz.func104 (by kernel_rfl) rfl #[.string a0, .string (⟨#[47]⟩ : ByteArray)] rfl (by (try simp only [List.map_toArray, List.map_cons, List.map_nil]); first | done | rfl | (simp only [List.length_drop, List.length_take]; rfl)) ?_; (with_reducible refine (strings_Cut.calls a0 (⟨#[47]⟩ : ByteArray) t241 t242 true _ A5.out (WOK.below hW_ (zB HB))).mono ?_); rintro e w38 ⟨rfl, hb⟩; refine ⟨_, rfl, ?_⟩; replace BK240 := Aside0.mk (blk_below (g := gb240) (o := .cells #[.bool false, .int .u64 0, .int .u64 0, .int .i64 0] 33 (0, 0)) (zK BK240) hb); replace HB := Aside0.mk (below_step (zB HB) hb); (try clear hb)) | ((with_reducible refine gate_callee (f := 105) rfl ?_); refine goesL_ (some 24) rfl rfl Tryz.func105 (by kernel_rfl) rfl #[.string t241] rfl (by (try simp only [List.map_toArray, List.map_cons, List.map_nil]); first | done | rfl | (simp only [List.length_drop, List.length_take]; rfl)) ?_; (with_reducible refine (address_Parse.calls k t241 t244 t245 t246 t247 _ A6.out (WOK.below hW_ (zB HB))).mono ?_); rintro e w39 ⟨rfl, hb⟩; refine ⟨_, rfl, ?_⟩; replace BK240 := Aside0.mk (blk_below (g := gb240) (o := .cells #[.bool false, .int .u64 0, .int .u64 0, .int .i64 0] 33 (0, 0)) (zK BK240) hb); replace HB := Aside0.mk (below_step (zB HB) hb); (try clear hb)) | ((with_reducible refine gate_dst (N := 7) rfl ?_); refine zx 7 #[.bool false, .int .u64 0, .int .u64 0] 31 ?_; intro gb248 hg w40 hbox hb; have BK248 := Aside0.mk (hbox); have GW248 := Aside0.mk ((by rw [hg]; exact (below_size (zB HB)) : w.heap.size ≤ gb248)); have GE248 := Aside0.mk ((by rw [hg]; exact (below_size (zB HB)) : w.heap.size ≤ gb248)); replace HB := Aside0.mk (below_step (zB HB) hb); have NB240_248 := Aside0.mk ((by rw [hg]; exact Nat.ne_of_lt (blk_lt (g := gb240) (o := .cells #[.bool false, .int .u64 0, .int .u64 0, .int .i64 0] 33 (0, 0)) (zK BK240)) : gb240 ≠ gb248)); have NB248_240 := Aside0.mk ((by rw [hg]; exact Nat.ne_of_gt (blk_lt (g := gb240) (o := .cells #[.bool false, .int .u64 0, .int .u64 0, .int .i64 0] 33 (0, 0)) (zK BK240)) : gb248 ≠ gb240)); replace BK240 := Aside0.mk (blk_below (g := gb240) (o := .cells #[.bool false, .int .u64 0, .int .u64 0, .int .i64 0] 33 (0, 0)) (zK BK240) hb); clear hb hbox hg; have hnb41 := NB248_240.out; have hnc41 := NB240_248.out; obtain ⟨hcz42_0, hcz42_1, hcz42_2⟩ := zc3 BK248; obtain ⟨hfz42_0, hfz42_1, hfz42_2⟩ := zf3 BK248))
             have n0_ : Aside0 ((((w40.setCell ⟨gb248, 0, none⟩ (.bool t244)).setCell ⟨gb248, 1, none⟩ (.int .u64 t245)).setCell ⟨gb248, 2, none⟩ (.int .u64 t246)).heap[gb240]? = some (.cells #[.bool false, .int .u64 0, .int .u64 0, .int .i64 0] 33 (0, 0))) := ⟨by refine zL ?_; refine blk_far ?_ NB240_248.out _; refine zL ?_; refine blk_far ?_ NB240_248.out _; refine zL ?_; refine blk_far ?_ NB240_248.out _; refine zL ?_; exact BK240.out⟩
             have n1_ : Aside0 ((((w40.setCell ⟨gb248, 0, none⟩ (.bool t244)).setCell ⟨gb248, 1, none⟩ (.int .u64 t245)).setCell ⟨gb248, 2, none⟩ (.int .u64 t246)).heap[gb248]? = some (.cells #[.bool t244, .int .u64 t245, .int .u64 t246] 31 (0, 0))) := ⟨by refine zL ?_; refine blk_put (cs := #[.bool t244, .int .u64 t245, .int .u64 0]) ?_ 2 _ rfl; refine zL ?_; refine blk_put (cs := #[.bool t244, .int .u64 0, .int .u64 0]) ?_ 1 _ rfl; refine zL ?_; refine blk_put (cs := #[.bool false, .int .u64 0, .int .u64 0]) ?_ 0 _ rfl; refine zL ?_; exact BK248.out⟩
             have n2_ : Aside0 (Below w.heap.size w (((w40.setCell ⟨gb248, 0, none⟩ (.bool t244)).setCell ⟨gb248, 1, none⟩ (.int .u64 t245)).setCell ⟨gb248, 2, none⟩ (.int .u64 t246))) := ⟨zB HB⟩
             (try clear BK240)
             (try clear BK248)
             (try clear HB)
             generalize (((w40.setCell ⟨gb248, 0, none⟩ (.bool t244)).setCell ⟨gb248, 1, none⟩ (.int .u64 t245)).setCell ⟨gb248, 2, none⟩ (.int .u64 t246)) = w43 at n0_ n1_ n2_ ⊢
             have BK240 := n0_
             have BK248 := n1_
             have HB := n2_
             clear n0_ n1_ n2_
             replace BK240 := Aside0.mk (blk_drew BK240.out)
             replace BK248 := Aside0.mk (blk_drew BK248.out)
             replace HB := Aside0.mk (below_drew1 HB.out)
             refine start_ (n := 6) (S := fun w' => w'.cell? ⟨gb248, 0, none⟩ = some (.bool t244) ∧ w'.cell? ⟨gb248, 1, none⟩ = some (.int .u64 t245) ∧ w'.cell? ⟨gb248, 2, none⟩ = some (.int .u64 t246)) (ds := []) #[false, false, false, false, false, false] (by kernel_rfl) rfl rfl ⟨zc BK248 0, zc BK248 1, zc BK248 2⟩ (fun hHeld => ?_)
             generalize w43.drew = w44 at BK240 BK248 HB hHeld ⊢
             refine zt0 0 30 hHeld ?_; refine zt0 1 31 hHeld ?_
             refine join_ (σ := Nat) 1 #[true, true, true, true, true, false] (fun s_ => [(32, .int .i64 t249), (9, .pointer (some ⟨s_, 0, none⟩)), (33, .agg #[.bool t244, .int .u64 t245, .int .u64 t246, .int .i64 t249])]) (fun s_ w' => (w'.cell? ⟨gb248, 0, none⟩ = some (.bool t244) ∧ w'.cell? ⟨gb248, 1, none⟩ = some (.int .u64 t245) ∧ w'.cell? ⟨gb248, 2, none⟩ = some (.int .u64 t246)) ∧ (w'.heap[gb240]? = some (.cells #[.bool false, .int .u64 0, .int .u64 0, .int .i64 0] 33 (0, 0))) ∧ (w'.heap[gb248]? = some (.cells #[.bool t244, .int .u64 t245, .int .u64 t246] 31 (0, 0))) ∧ (w'.heap[s_]? = some (.cells #[.bool false, .int .u64 0, .int .u64 0, .int .i64 0] 33 (0, 0))) ∧ (w.heap.size ≤ s_) ∧ (w.heap.size ≤ s_) ∧ (gb240 ≠ s_) ∧ (s_ ≠ gb240) ∧ (gb248 ≠ s_) ∧ (s_ ≠ gb248) ∧ (Below w.heap.size w w')) ?_ ?_
             rotate_left
             · intro hCont
               refine two_ (i := 2) (j := 4) (Ni := some 32) (Nj := some 9) #[true, true, true, false, false, false] #[true, true, false, false, true, false] rfl rfl rfl rfl (by kernel_rfl) (by decide) (by decide) (fun K hK => ?_) (fun K hK => ?_)
               · skip
                 refine zg Tryz.func92 #[.agg #[.bool t244, .int .u64 t245, .int .u64 t246]] ?_
                 with_reducible refine (address_size.calls t244 t245 t246 t249 _ A8.out).mono ?_
                 rintro e w45 ⟨rfl, hb⟩
                 refine ⟨_, rfl, ?_⟩
                 replace BK240 := Aside0.mk (blk_below (g := gb240) (o := .cells #[.bool false, .int .u64 0, .int .u64 0, .int .i64 0] 33 (0, 0)) (zK BK240) hb)
                 replace BK248 := Aside0.mk (blk_below (g := gb248) (o := .cells #[.bool t244, .int .u64 t245, .int .u64 t246] 31 (0, 0)) (zK BK248) hb)
                 replace HB := Aside0.mk (below_step (zB HB) hb)
                 (try clear hb)
                 refine hK.out _ _ ⟨zc BK248 0, zc BK248 1, zc BK248 2⟩ (fun hHeld => ?_)
                 clear hK K
                 refine zn 32 ?_; refine zp0 3 33 ?_; refine zo0 4 9 (fun K hK => ?_)
                 refine box_step ?hg (N := 9) ?hd (cs := #[.bool false, .int .u64 0, .int .u64 0, .int .i64 0]) (t := 33) ?hr ?_; (case hd => rfl); (case hg => rfl); (case hr => first | (go_simp; done) | (go_simp; rfl))
                 intro gb250 hg w46 hbox hb
                 have BK250 := Aside0.mk (hbox)
                 have GW250 := Aside0.mk ((by rw [hg]; exact (below_size (zB HB)) : w.heap.size ≤ gb250))
                 have GE250 := Aside0.mk ((by rw [hg]; exact (below_size (zB HB)) : w.heap.size ≤ gb250))
                 replace HB := Aside0.mk (below_step (zB HB) hb)
                 have NB240_250 := Aside0.mk ((by rw [hg]; exact Nat.ne_of_lt (blk_lt (g := gb240) (o := .cells #[.bool false, .int .u64 0, .int .u64 0, .int .i64 0] 33 (0, 0)) (zK BK240)) : gb240 ≠ gb250))
                 have NB250_240 := Aside0.mk ((by rw [hg]; exact Nat.ne_of_gt (blk_lt (g := gb240) (o := .cells #[.bool false, .int .u64 0, .int .u64 0, .int .i64 0] 33 (0, 0)) (zK BK240)) : gb250 ≠ gb240))
                 replace BK240 := Aside0.mk (blk_below (g := gb240) (o := .cells #[.bool false, .int .u64 0, .int .u64 0, .int .i64 0] 33 (0, 0)) (zK BK240) hb)
                 have NB248_250 := Aside0.mk ((by rw [hg]; exact Nat.ne_of_lt (blk_lt (g := gb248) (o := .cells #[.bool t244, .int .u64 t245, .int .u64 t246] 31 (0, 0)) (zK BK248)) : gb248 ≠ gb250))
                 have NB250_248 := Aside0.mk ((by rw [hg]; exact Nat.ne_of_gt (blk_lt (g := gb248) (o := .cells #[.bool t244, .int .u64 t245, .int .u64 t246] 31 (0, 0)) (zK BK248)) : gb250 ≠ gb248))
                 replace BK248 := Aside0.mk (blk_below (g := gb248) (o := .cells #[.bool t244, .int .u64 t245, .int .u64 t246] 31 (0, 0)) (zK BK248) hb)
                 clear hb hbox hg
                 refine hK.out _ _ ⟨zc BK248 0, zc BK248 1, zc BK248 2⟩ (fun hHeld => ?_)
                 clear hK K
                 refine zn 9 ?_
                 exact norm_ (by simp only [putAll, Act.put, List.setIfInBounds_toArray, List.set_cons_zero, List.set_cons_succ]) (hCont (gb250) _ ⟨hHeld, (zK BK240), (zK BK248), (zK BK250), GW250.out, GE250.out, NB240_250.out, NB250_240.out, NB248_250.out, NB250_248.out, (zB HB)⟩)
               · skip
                 refine box_step ?hg (N := 9) ?hd (cs := #[.bool false, .int .u64 0, .int .u64 0, .int .i64 0]) (t := 33) ?hr ?_; (case hd => rfl); (case hg => rfl); (case hr => first | (go_simp; done) | (go_simp; rfl))
                 intro gb250 hg w45 hbox hb
                 have BK250 := Aside0.mk (hbox)
                 have GW250 := Aside0.mk ((by rw [hg]; exact (below_size (zB HB)) : w.heap.size ≤ gb250))
                 have GE250 := Aside0.mk ((by rw [hg]; exact (below_size (zB HB)) : w.heap.size ≤ gb250))
                 replace HB := Aside0.mk (below_step (zB HB) hb)
                 have NB240_250 := Aside0.mk ((by rw [hg]; exact Nat.ne_of_lt (blk_lt (g := gb240) (o := .cells #[.bool false, .int .u64 0, .int .u64 0, .int .i64 0] 33 (0, 0)) (zK BK240)) : gb240 ≠ gb250))
                 have NB250_240 := Aside0.mk ((by rw [hg]; exact Nat.ne_of_gt (blk_lt (g := gb240) (o := .cells #[.bool false, .int .u64 0, .int .u64 0, .int .i64 0] 33 (0, 0)) (zK BK240)) : gb250 ≠ gb240))
                 replace BK240 := Aside0.mk (blk_below (g := gb240) (o := .cells #[.bool false, .int .u64 0, .int .u64 0, .int .i64 0] 33 (0, 0)) (zK BK240) hb)
                 have NB248_250 := Aside0.mk ((by rw [hg]; exact Nat.ne_of_lt (blk_lt (g := gb248) (o := .cells #[.bool t244, .int .u64 t245, .int .u64 t246] 31 (0, 0)) (zK BK248)) : gb248 ≠ gb250))
                 have NB250_248 := Aside0.mk ((by rw [hg]; exact Nat.ne_of_gt (blk_lt (g := gb248) (o := .cells #[.bool t244, .int .u64 t245, .int .u64 t246] 31 (0, 0)) (zK BK248)) : gb250 ≠ gb248))
                 replace BK248 := Aside0.mk (blk_below (g := gb248) (o := .cells #[.bool t244, .int .u64 t245, .int .u64 t246] 31 (0, 0)) (zK BK248) hb)
                 clear hb hbox hg
                 refine hK.out _ _ ⟨zc BK248 0, zc BK248 1, zc BK248 2⟩ (fun hHeld => ?_)
                 clear hK K
                 refine zn 9 ?_; refine zo0 2 32 (fun K hK => ?_)
                 refine zg Tryz.func92 #[.agg #[.bool t244, .int .u64 t245, .int .u64 t246]] ?_
                 with_reducible refine (address_size.calls t244 t245 t246 t249 _ A8.out).mono ?_
                 rintro e w46 ⟨rfl, hb⟩
                 refine ⟨_, rfl, ?_⟩
                 replace BK240 := Aside0.mk (blk_below (g := gb240) (o := .cells #[.bool false, .int .u64 0, .int .u64 0, .int .i64 0] 33 (0, 0)) (zK BK240) hb)
                 replace BK248 := Aside0.mk (blk_below (g := gb248) (o := .cells #[.bool t244, .int .u64 t245, .int .u64 t246] 31 (0, 0)) (zK BK248) hb)
                 replace BK250 := Aside0.mk (blk_below (g := gb250) (o := .cells #[.bool false, .int .u64 0, .int .u64 0, .int .i64 0] 33 (0, 0)) (zK BK250) hb)
                 replace HB := Aside0.mk (below_step (zB HB) hb)
                 (try clear hb)
                 refine hK.out _ _ ⟨zc BK248 0, zc BK248 1, zc BK248 2⟩ (fun hHeld => ?_)
                 clear hK K
                 refine zn 32 ?_; refine zp0 3 33 ?_
                 exact norm_ (by simp only [putAll, Act.put, List.setIfInBounds_toArray, List.set_cons_zero, List.set_cons_succ]) (hCont (gb250) _ ⟨hHeld, (zK BK240), (zK BK248), (zK BK250), GW250.out, GE250.out, NB240_250.out, NB250_240.out, NB248_250.out, NB250_248.out, (zB HB)⟩)
             rintro gb250 w47 ⟨hS_, h0_, h1_, h2_, h3_, h4_, h5_, h6_, h7_, h8_, h9_⟩
             have n0_ : Aside0 (w47.heap[gb240]? = some (.cells #[.bool false, .int .u64 0, .int .u64 0, .int .i64 0] 33 (0, 0))) := ⟨h0_⟩
             have n1_ : Aside0 (w47.heap[gb248]? = some (.cells #[.bool t244, .int .u64 t245, .int .u64 t246] 31 (0, 0))) := ⟨h1_⟩
             have n2_ : Aside0 (w47.heap[gb250]? = some (.cells #[.bool false, .int .u64 0, .int .u64 0, .int .i64 0] 33 (0, 0))) := ⟨h2_⟩
             have n3_ : Aside0 (w.heap.size ≤ gb250) := ⟨h3_⟩
             have n4_ : Aside0 (w.heap.size ≤ gb250) := ⟨h4_⟩
             have n5_ : Aside0 (gb240 ≠ gb250) := ⟨h5_⟩
             have n6_ : Aside0 (gb250 ≠ gb240) := ⟨h6_⟩
             have n7_ : Aside0 (gb248 ≠ gb250) := ⟨h7_⟩
             have n8_ : Aside0 (gb250 ≠ gb248) := ⟨h8_⟩
             have n9_ : Aside0 (Below w.heap.size w w47) := ⟨h9_⟩
             clear BK240
             clear BK248
             clear HB
             clear h0_ h1_ h2_ h3_ h4_ h5_ h6_ h7_ h8_ h9_
             have BK240 := n0_
             have BK248 := n1_
             have BK250 := n2_
             have GW250 := n3_
             have GE250 := n4_
             have NB240_250 := n5_
             have NB250_240 := n6_
             have NB248_250 := n7_
             have NB250_248 := n8_
             have HB := n9_
             clear n0_ n1_ n2_ n3_ n4_ n5_ n6_ n7_ n8_ n9_
             have hHeld : w47.cell? ⟨gb248, 0, none⟩ = some (.bool t244) ∧ w47.cell? ⟨gb248, 1, none⟩ = some (.int .u64 t245) ∧ w47.cell? ⟨gb248, 2, none⟩ = some (.int .u64 t246) := hS_
             refine norm_ (a' := ?_) ?_ ?_
             rotate_left
             · simp only [putAll, Act.put, List.setIfInBounds_toArray, List.set_cons_zero, List.set_cons_succ]
               rfl
             refine one_ (i := 5) (N := none) #[true, true, true, true, true, true] rfl rfl (by kernel_rfl) (by decide) (fun K hK => ?_)
             have hs48 : w47.cell? ⟨gb250, 0, none⟩ = some (.bool false) := zc BK250 0
             have hfs48 := blk_frozen BK250.out 0
             have hns48_0 := NB240_250.out
             have hns48_1 := NB248_250.out
             have hms48_0 := NB250_240.out
             have hms48_1 := NB250_248.out
             have hs49 : w47.cell? ⟨gb250, 1, none⟩ = some (.int .u64 0) := zc BK250 1
             have hfs49 := blk_frozen BK250.out 1
             have hns49_0 := NB240_250.out
             have hns49_1 := NB248_250.out
             have hms49_0 := NB250_240.out
             have hms49_1 := NB250_248.out
             have hs50 : w47.cell? ⟨gb250, 2, none⟩ = some (.int .u64 0) := zc BK250 2
             have hfs50 := blk_frozen BK250.out 2
             have hns50_0 := NB240_250.out
             have hns50_1 := NB248_250.out
             have hms50_0 := NB250_240.out
             have hms50_1 := NB250_248.out
             have hs51 : w47.cell? ⟨gb250, 3, none⟩ = some (.int .i64 0) := zc BK250 3
             have hfs51 := blk_frozen BK250.out 3
             have hns51_0 := NB240_250.out
             have hns51_1 := NB248_250.out
             have hms51_0 := NB250_240.out
             have hms51_1 := NB250_248.out
             refine skip_ (w1 := ?_) (by rfl) rfl ?_ ?_
             rotate_left
             · go_simp
               rfl
             refine hK.out _ _ ⟨((cell_far (p := ⟨gb250, _, none⟩) NB248_250.out _).trans (((cell_far (p := ⟨gb250, _, none⟩) NB248_250.out _).trans (((cell_far (p := ⟨gb250, _, none⟩) NB248_250.out _).trans (((cell_far (p := ⟨gb250, _, none⟩) NB248_250.out _).trans (hHeld.1)))))))), ((cell_far (p := ⟨gb250, _, none⟩) NB248_250.out _).trans (((cell_far (p := ⟨gb250, _, none⟩) NB248_250.out _).trans (((cell_far (p := ⟨gb250, _, none⟩) NB248_250.out _).trans (((cell_far (p := ⟨gb250, _, none⟩) NB248_250.out _).trans (hHeld.2.1)))))))), ((cell_far (p := ⟨gb250, _, none⟩) NB248_250.out _).trans (((cell_far (p := ⟨gb250, _, none⟩) NB248_250.out _).trans (((cell_far (p := ⟨gb250, _, none⟩) NB248_250.out _).trans (((cell_far (p := ⟨gb250, _, none⟩) NB248_250.out _).trans (hHeld.2.2))))))))⟩ (fun hHeld => ?_)
             clear hK K
             refine zd0 ?_
             try go_wp2_with (first | ((with_reducible refine gate_callee (f := 106) rfl ?_); refine goesL_ (some 37) rfl rfl Tryz.func106 (by kernel_rfl) rfl #[.string t242] rfl (by (try simp only [List.map_toArray, List.map_cons, List.map_nil]); first | done | rfl | (simp only [List.length_drop, List.length_take]; rfl)) ?_; (with_reducible refine (address_digits.calls k t242 t251 true _ A10.out).mono ?_); rintro e w52 ⟨rfl, hb⟩; refine ⟨_, rfl, ?_⟩; replace BK240 := Aside0.mk (blk_below (g := gb240) (o := .cells #[.bool false, .int .u64 0, .int .u64 0, .int .i64 0] 33 (0, 0)) (by refine zL ?_; refine blk_far ?_ NB240_250.out _; refine zL ?_; refine blk_far ?_ NB240_250.out _; refine zL ?_; refine blk_far ?_ NB240_250.out _; refine zL ?_; refine blk_far ?_ NB240_250.out _; refine zL ?_; exact BK240.out) hb); replace BK248 := Aside0.mk (blk_below (g := gb248) (o := .cells #[.bool t244, .int .u64 t245, .int .u64 t246] 31 (0, 0)) (by refine zL ?_; refine blk_far ?_ NB248_250.out _; refine zL ?_; refine blk_far ?_ NB248_250.out _; refine zL ?_; refine blk_far ?_ NB248_250.out _; refine zL ?_; refine blk_far ?_ NB248_250.out _; refine zL ?_; exact BK248.out) hb); replace BK250 := Aside0.mk (blk_below (g := gb250) (o := .cells #[.bool t244, .int .u64 t245, .int .u64 t246, .int .i64 t249] 33 (0, 0)) (by refine zL ?_; refine blk_put (cs := #[.bool t244, .int .u64 t245, .int .u64 t246, .int .i64 0]) ?_ 3 _ rfl; refine zL ?_; refine blk_put (cs := #[.bool t244, .int .u64 t245, .int .u64 0, .int .i64 0]) ?_ 2 _ rfl; refine zL ?_; refine blk_put (cs := #[.bool t244, .int .u64 0, .int .u64 0, .int .i64 0]) ?_ 1 _ rfl; refine zL ?_; refine blk_put (cs := #[.bool false, .int .u64 0, .int .u64 0, .int .i64 0]) ?_ 0 _ rfl; refine zL ?_; exact BK250.out) hb); replace HB := Aside0.mk (below_step (zB HB) hb); (try clear hb); have hnb53 := NB248_250.out; have hnc53 := NB250_248.out; obtain ⟨hcz54_0, hcz54_1, hcz54_2⟩ := zc3 BK248; obtain ⟨hfz54_0, hfz54_1, hfz54_2⟩ := zf3 BK248) | ((with_reducible refine gate_callee (f := 92) rfl ?_); refine goesL_ (some 47) rfl rfl Tryz.func92 (by kernel_rfl) rfl #[.agg #[.bool t244, .int .u64 t245, .int .u64 t246]] rfl (by (try simp only [List.map_toArray, List.map_cons, List.map_nil]); first | done | rfl | (simp only [List.length_drop, List.length_take]; rfl)) ?_; (with_reducible refine (address_size.calls t244 t245 t246 t253 _ A12.out).mono ?_); rintro e w55 ⟨rfl, hb⟩; refine ⟨_, rfl, ?_⟩; replace BK240 := Aside0.mk (blk_below (g := gb240) (o := .cells #[.bool false, .int .u64 0, .int .u64 0, .int .i64 0] 33 (0, 0)) (zK BK240) hb); replace BK248 := Aside0.mk (blk_below (g := gb248) (o := .cells #[.bool t244, .int .u64 t245, .int .u64 t246] 31 (0, 0)) (zK BK248) hb); replace BK250 := Aside0.mk (blk_below (g := gb250) (o := .cells #[.bool t244, .int .u64 t245, .int .u64 t246, .int .i64 t249] 33 (0, 0)) (zK BK250) hb); replace HB := Aside0.mk (below_step (zB HB) hb); (try clear hb); have hnb56 := NB250_240.out; have hnc56 := NB240_250.out; obtain ⟨hcz57_0, hcz57_1, hcz57_2, hcz57_3⟩ := zc4 BK250; obtain ⟨hfz57_0, hfz57_1, hfz57_2, hfz57_3⟩ := zf4 BK250) | ((with_reducible refine gate_callee (f := 56) rfl ?_); refine goesL_ (some 53) rfl rfl Tryz.func56 (by kernel_rfl) rfl #[.agg #[.bool t244, .int .u64 t245, .int .u64 t246, .int .i64 t251]] rfl (by (try simp only [List.map_toArray, List.map_cons, List.map_nil]); first | done | rfl | (simp only [List.length_drop, List.length_take]; rfl)) ?_; (with_reducible refine (address_ValidPrefix.calls t244 t245 t246 t251 true _ A35.out).mono ?_); rintro e w58 ⟨rfl, hb⟩; refine ⟨_, rfl, ?_⟩; replace BK240 := Aside0.mk (blk_below (g := gb240) (o := .cells #[.bool false, .int .u64 0, .int .u64 0, .int .i64 0] 33 (0, 0)) (by refine zL ?_; refine blk_far ?_ NB240_250.out _; refine zL ?_; exact BK240.out) hb); replace BK248 := Aside0.mk (blk_below (g := gb248) (o := .cells #[.bool t244, .int .u64 t245, .int .u64 t246] 31 (0, 0)) (by refine zL ?_; refine blk_far ?_ NB248_250.out _; refine zL ?_; exact BK248.out) hb); replace BK250 := Aside0.mk (blk_below (g := gb250) (o := .cells #[.bool t244, .int .u64 t245, .int .u64 t246, .int .i64 t251] 33 (0, 0)) (by refine zL ?_; refine blk_put (cs := #[.bool t244, .int .u64 t245, .int .u64 t246, .int .i64 t249]) ?_ 3 _ rfl; refine zL ?_; exact BK250.out) hb); replace HB := Aside0.mk (below_step (zB HB) hb); (try clear hb); obtain ⟨hcz59_0, hcz59_1, hcz59_2, hcz59_3⟩ := zc4 BK250; obtain ⟨hfz59_0, hfz59_1, hfz59_2, hfz59_3⟩ := zf4 BK250; obtain ⟨hcz60_0, hcz60_1, hcz60_2, hcz60_3⟩ := zc4 BK240; obtain ⟨hfz60_0, hfz60_1, hfz60_2, hfz60_3⟩ := zf4 BK240))
             refine bodyPost_ret (results_ct rfl _ _ gb240 33 #[.bool t244, .int .u64 t245, .int .u64 t246, .int .i64 t251] (0, 0) _ rfl (by refine zL ?_; refine blk_put (cs := #[.bool t244, .int .u64 t245, .int .u64 t246, .int .i64 0]) ?_ 3 _ rfl; refine zL ?_; refine blk_put (cs := #[.bool t244, .int .u64 t245, .int .u64 0, .int .i64 0]) ?_ 2 _ rfl; refine zL ?_; refine blk_put (cs := #[.bool t244, .int .u64 0, .int .u64 0, .int .i64 0]) ?_ 1 _ rfl; refine zL ?_; refine blk_put (cs := #[.bool false, .int .u64 0, .int .u64 0, .int .i64 0]) ?_ 0 _ rfl; refine zL ?_; exact BK240.out) Tryz.underlying33 rfl (by kernel_rfl)) rfl ?_
             exact ⟨by first | rfl | (simp [errW_none, errW_some] <;> rfl) | (simp [*, errW_none, errW_some] <;> rfl), by repeat (first | (with_reducible first | exact HB.out | apply below_alloc | apply pw_below_drewN | apply below_drew1 | refine below_set ?_ GE240.out | refine below_set ?_ GE248.out | refine below_set ?_ GE250.out) | exact HB.out)⟩
           · replace c36 := Bool.eq_false_iff.mpr c36
             subst c36
             rw [if_neg zF] at H
             simp only [Option.some.injEq, Prod.mk.injEq] at H
             obtain ⟨rfl, rfl, rfl, rfl, rfl⟩ := H
             go_enter Tryz.func72, Tryz.ntmps72
             try go_wp2_with (first | ((with_reducible refine gate_dst (N := 2) rfl ?_); refine zx 2 #[.bool false, .int .u64 0, .int .u64 0, .int .i64 0] 33 ?_; intro gb240 hg w61 hbox hb; have BK240 := Aside0.mk (hbox); have GW240 := Aside0.mk ((by rw [hg]; exact (below_size (zB HB)) : w.heap.size ≤ gb240)); have GE240 := Aside0.mk ((by rw [hg]; exact (below_size (zB HB)) : w.heap.size ≤ gb240)); replace HB := Aside0.mk (below_step (zB HB) hb); clear hb hbox hg) | ((with_reducible refine gate_callee (f := 104) rfl ?_); refine goesL_ (some 18) rfl rfl Tryz.func104 (by kernel_rfl) rfl #[.string a0, .string (⟨#[47]⟩ : ByteArray)] rfl (by (try simp only [List.map_toArray, List.map_cons, List.map_nil]); first | done | rfl | (simp only [List.length_drop, List.length_take]; rfl)) ?_; (with_reducible refine (strings_Cut.calls a0 (⟨#[47]⟩ : ByteArray) t241 t242 true _ A5.out (WOK.below hW_ (zB HB))).mono ?_); rintro e w62 ⟨rfl, hb⟩; refine ⟨_, rfl, ?_⟩; replace BK240 := Aside0.mk (blk_below (g := gb240) (o := .cells #[.bool false, .int .u64 0, .int .u64 0, .int .i64 0] 33 (0, 0)) (zK BK240) hb); replace HB := Aside0.mk (below_step (zB HB) hb); (try clear hb)) | ((with_reducible refine gate_callee (f := 105) rfl ?_); refine goesL_ (some 24) rfl rfl Tryz.func105 (by kernel_rfl) rfl #[.string t241] rfl (by (try simp only [List.map_toArray, List.map_cons, List.map_nil]); first | done | rfl | (simp only [List.length_drop, List.length_take]; rfl)) ?_; (with_reducible refine (address_Parse.calls k t241 t244 t245 t246 t247 _ A6.out (WOK.below hW_ (zB HB))).mono ?_); rintro e w63 ⟨rfl, hb⟩; refine ⟨_, rfl, ?_⟩; replace BK240 := Aside0.mk (blk_below (g := gb240) (o := .cells #[.bool false, .int .u64 0, .int .u64 0, .int .i64 0] 33 (0, 0)) (zK BK240) hb); replace HB := Aside0.mk (below_step (zB HB) hb); (try clear hb)) | ((with_reducible refine gate_dst (N := 7) rfl ?_); refine zx 7 #[.bool false, .int .u64 0, .int .u64 0] 31 ?_; intro gb248 hg w64 hbox hb; have BK248 := Aside0.mk (hbox); have GW248 := Aside0.mk ((by rw [hg]; exact (below_size (zB HB)) : w.heap.size ≤ gb248)); have GE248 := Aside0.mk ((by rw [hg]; exact (below_size (zB HB)) : w.heap.size ≤ gb248)); replace HB := Aside0.mk (below_step (zB HB) hb); have NB240_248 := Aside0.mk ((by rw [hg]; exact Nat.ne_of_lt (blk_lt (g := gb240) (o := .cells #[.bool false, .int .u64 0, .int .u64 0, .int .i64 0] 33 (0, 0)) (zK BK240)) : gb240 ≠ gb248)); have NB248_240 := Aside0.mk ((by rw [hg]; exact Nat.ne_of_gt (blk_lt (g := gb240) (o := .cells #[.bool false, .int .u64 0, .int .u64 0, .int .i64 0] 33 (0, 0)) (zK BK240)) : gb248 ≠ gb240)); replace BK240 := Aside0.mk (blk_below (g := gb240) (o := .cells #[.bool false, .int .u64 0, .int .u64 0, .int .i64 0] 33 (0, 0)) (zK BK240) hb); clear hb hbox hg; have hnb65 := NB248_240.out; have hnc65 := NB240_248.out; obtain ⟨hcz66_0, hcz66_1, hcz66_2⟩ := zc3 BK248; obtain ⟨hfz66_0, hfz66_1, hfz66_2⟩ := zf3 BK248))
             have n0_ : Aside0 ((((w64.setCell ⟨gb248, 0, none⟩ (.bool t244)).setCell ⟨gb248, 1, none⟩ (.int .u64 t245)).setCell ⟨gb248, 2, none⟩ (.int .u64 t246)).heap[gb240]? = some (.cells #[.bool false, .int .u64 0, .int .u64 0, .int .i64 0] 33 (0, 0))) := ⟨by refine zL ?_; refine blk_far ?_ NB240_248.out _; refine zL ?_; refine blk_far ?_ NB240_248.out _; refine zL ?_; refine blk_far ?_ NB240_248.out _; refine zL ?_; exact BK240.out⟩
             have n1_ : Aside0 ((((w64.setCell ⟨gb248, 0, none⟩ (.bool t244)).setCell ⟨gb248, 1, none⟩ (.int .u64 t245)).setCell ⟨gb248, 2, none⟩ (.int .u64 t246)).heap[gb248]? = some (.cells #[.bool t244, .int .u64 t245, .int .u64 t246] 31 (0, 0))) := ⟨by refine zL ?_; refine blk_put (cs := #[.bool t244, .int .u64 t245, .int .u64 0]) ?_ 2 _ rfl; refine zL ?_; refine blk_put (cs := #[.bool t244, .int .u64 0, .int .u64 0]) ?_ 1 _ rfl; refine zL ?_; refine blk_put (cs := #[.bool false, .int .u64 0, .int .u64 0]) ?_ 0 _ rfl; refine zL ?_; exact BK248.out⟩
             have n2_ : Aside0 (Below w.heap.size w (((w64.setCell ⟨gb248, 0, none⟩ (.bool t244)).setCell ⟨gb248, 1, none⟩ (.int .u64 t245)).setCell ⟨gb248, 2, none⟩ (.int .u64 t246))) := ⟨zB HB⟩
             (try clear BK240)
             (try clear BK248)
             (try clear HB)
             generalize (((w64.setCell ⟨gb248, 0, none⟩ (.bool t244)).setCell ⟨gb248, 1, none⟩ (.int .u64 t245)).setCell ⟨gb248, 2, none⟩ (.int .u64 t246)) = w67 at n0_ n1_ n2_ ⊢
             have BK240 := n0_
             have BK248 := n1_
             have HB := n2_
             clear n0_ n1_ n2_
             replace BK240 := Aside0.mk (blk_drew BK240.out)
             replace BK248 := Aside0.mk (blk_drew BK248.out)
             replace HB := Aside0.mk (below_drew1 HB.out)
             refine start_ (n := 6) (S := fun w' => w'.cell? ⟨gb248, 0, none⟩ = some (.bool t244) ∧ w'.cell? ⟨gb248, 1, none⟩ = some (.int .u64 t245) ∧ w'.cell? ⟨gb248, 2, none⟩ = some (.int .u64 t246)) (ds := []) #[false, false, false, false, false, false] (by kernel_rfl) rfl rfl ⟨zc BK248 0, zc BK248 1, zc BK248 2⟩ (fun hHeld => ?_)
             generalize w67.drew = w68 at BK240 BK248 HB hHeld ⊢
             refine zt0 0 30 hHeld ?_; refine zt0 1 31 hHeld ?_
             refine join_ (σ := Nat) 1 #[true, true, true, true, true, false] (fun s_ => [(32, .int .i64 t249), (9, .pointer (some ⟨s_, 0, none⟩)), (33, .agg #[.bool t244, .int .u64 t245, .int .u64 t246, .int .i64 t249])]) (fun s_ w' => (w'.cell? ⟨gb248, 0, none⟩ = some (.bool t244) ∧ w'.cell? ⟨gb248, 1, none⟩ = some (.int .u64 t245) ∧ w'.cell? ⟨gb248, 2, none⟩ = some (.int .u64 t246)) ∧ (w'.heap[gb240]? = some (.cells #[.bool false, .int .u64 0, .int .u64 0, .int .i64 0] 33 (0, 0))) ∧ (w'.heap[gb248]? = some (.cells #[.bool t244, .int .u64 t245, .int .u64 t246] 31 (0, 0))) ∧ (w'.heap[s_]? = some (.cells #[.bool false, .int .u64 0, .int .u64 0, .int .i64 0] 33 (0, 0))) ∧ (w.heap.size ≤ s_) ∧ (w.heap.size ≤ s_) ∧ (gb240 ≠ s_) ∧ (s_ ≠ gb240) ∧ (gb248 ≠ s_) ∧ (s_ ≠ gb248) ∧ (Below w.heap.size w w')) ?_ ?_
             rotate_left
             · intro hCont
               refine two_ (i := 2) (j := 4) (Ni := some 32) (Nj := some 9) #[true, true, true, false, false, false] #[true, true, false, false, true, false] rfl rfl rfl rfl (by kernel_rfl) (by decide) (by decide) (fun K hK => ?_) (fun K hK => ?_)
               · skip
                 refine zg Tryz.func92 #[.agg #[.bool t244, .int .u64 t245, .int .u64 t246]] ?_
                 with_reducible refine (address_size.calls t244 t245 t246 t249 _ A8.out).mono ?_
                 rintro e w69 ⟨rfl, hb⟩
                 refine ⟨_, rfl, ?_⟩
                 replace BK240 := Aside0.mk (blk_below (g := gb240) (o := .cells #[.bool false, .int .u64 0, .int .u64 0, .int .i64 0] 33 (0, 0)) (zK BK240) hb)
                 replace BK248 := Aside0.mk (blk_below (g := gb248) (o := .cells #[.bool t244, .int .u64 t245, .int .u64 t246] 31 (0, 0)) (zK BK248) hb)
                 replace HB := Aside0.mk (below_step (zB HB) hb)
                 (try clear hb)
                 refine hK.out _ _ ⟨zc BK248 0, zc BK248 1, zc BK248 2⟩ (fun hHeld => ?_)
                 clear hK K
                 refine zn 32 ?_; refine zp0 3 33 ?_; refine zo0 4 9 (fun K hK => ?_)
                 refine box_step ?hg (N := 9) ?hd (cs := #[.bool false, .int .u64 0, .int .u64 0, .int .i64 0]) (t := 33) ?hr ?_; (case hd => rfl); (case hg => rfl); (case hr => first | (go_simp; done) | (go_simp; rfl))
                 intro gb250 hg w70 hbox hb
                 have BK250 := Aside0.mk (hbox)
                 have GW250 := Aside0.mk ((by rw [hg]; exact (below_size (zB HB)) : w.heap.size ≤ gb250))
                 have GE250 := Aside0.mk ((by rw [hg]; exact (below_size (zB HB)) : w.heap.size ≤ gb250))
                 replace HB := Aside0.mk (below_step (zB HB) hb)
                 have NB240_250 := Aside0.mk ((by rw [hg]; exact Nat.ne_of_lt (blk_lt (g := gb240) (o := .cells #[.bool false, .int .u64 0, .int .u64 0, .int .i64 0] 33 (0, 0)) (zK BK240)) : gb240 ≠ gb250))
                 have NB250_240 := Aside0.mk ((by rw [hg]; exact Nat.ne_of_gt (blk_lt (g := gb240) (o := .cells #[.bool false, .int .u64 0, .int .u64 0, .int .i64 0] 33 (0, 0)) (zK BK240)) : gb250 ≠ gb240))
                 replace BK240 := Aside0.mk (blk_below (g := gb240) (o := .cells #[.bool false, .int .u64 0, .int .u64 0, .int .i64 0] 33 (0, 0)) (zK BK240) hb)
                 have NB248_250 := Aside0.mk ((by rw [hg]; exact Nat.ne_of_lt (blk_lt (g := gb248) (o := .cells #[.bool t244, .int .u64 t245, .int .u64 t246] 31 (0, 0)) (zK BK248)) : gb248 ≠ gb250))
                 have NB250_248 := Aside0.mk ((by rw [hg]; exact Nat.ne_of_gt (blk_lt (g := gb248) (o := .cells #[.bool t244, .int .u64 t245, .int .u64 t246] 31 (0, 0)) (zK BK248)) : gb250 ≠ gb248))
                 replace BK248 := Aside0.mk (blk_below (g := gb248) (o := .cells #[.bool t244, .int .u64 t245, .int .u64 t246] 31 (0, 0)) (zK BK248) hb)
                 clear hb hbox hg
                 refine hK.out _ _ ⟨zc BK248 0, zc BK248 1, zc BK248 2⟩ (fun hHeld => ?_)
                 clear hK K
                 refine zn 9 ?_
                 exact norm_ (by simp only [putAll, Act.put, List.setIfInBounds_toArray, List.set_cons_zero, List.set_cons_succ]) (hCont (gb250) _ ⟨hHeld, (zK BK240), (zK BK248), (zK BK250), GW250.out, GE250.out, NB240_250.out, NB250_240.out, NB248_250.out, NB250_248.out, (zB HB)⟩)
               · skip
                 refine box_step ?hg (N := 9) ?hd (cs := #[.bool false, .int .u64 0, .int .u64 0, .int .i64 0]) (t := 33) ?hr ?_; (case hd => rfl); (case hg => rfl); (case hr => first | (go_simp; done) | (go_simp; rfl))
                 intro gb250 hg w69 hbox hb
                 have BK250 := Aside0.mk (hbox)
                 have GW250 := Aside0.mk ((by rw [hg]; exact (below_size (zB HB)) : w.heap.size ≤ gb250))
                 have GE250 := Aside0.mk ((by rw [hg]; exact (below_size (zB HB)) : w.heap.size ≤ gb250))
                 replace HB := Aside0.mk (below_step (zB HB) hb)
                 have NB240_250 := Aside0.mk ((by rw [hg]; exact Nat.ne_of_lt (blk_lt (g := gb240) (o := .cells #[.bool false, .int .u64 0, .int .u64 0, .int .i64 0] 33 (0, 0)) (zK BK240)) : gb240 ≠ gb250))
                 have NB250_240 := Aside0.mk ((by rw [hg]; exact Nat.ne_of_gt (blk_lt (g := gb240) (o := .cells #[.bool false, .int .u64 0, .int .u64 0, .int .i64 0] 33 (0, 0)) (zK BK240)) : gb250 ≠ gb240))
                 replace BK240 := Aside0.mk (blk_below (g := gb240) (o := .cells #[.bool false, .int .u64 0, .int .u64 0, .int .i64 0] 33 (0, 0)) (zK BK240) hb)
                 have NB248_250 := Aside0.mk ((by rw [hg]; exact Nat.ne_of_lt (blk_lt (g := gb248) (o := .cells #[.bool t244, .int .u64 t245, .int .u64 t246] 31 (0, 0)) (zK BK248)) : gb248 ≠ gb250))
                 have NB250_248 := Aside0.mk ((by rw [hg]; exact Nat.ne_of_gt (blk_lt (g := gb248) (o := .cells #[.bool t244, .int .u64 t245, .int .u64 t246] 31 (0, 0)) (zK BK248)) : gb250 ≠ gb248))
                 replace BK248 := Aside0.mk (blk_below (g := gb248) (o := .cells #[.bool t244, .int .u64 t245, .int .u64 t246] 31 (0, 0)) (zK BK248) hb)
                 clear hb hbox hg
                 refine hK.out _ _ ⟨zc BK248 0, zc BK248 1, zc BK248 2⟩ (fun hHeld => ?_)
                 clear hK K
                 refine zn 9 ?_; refine zo0 2 32 (fun K hK => ?_)
                 refine zg Tryz.func92 #[.agg #[.bool t244, .int .u64 t245, .int .u64 t246]] ?_
                 with_reducible refine (address_size.calls t244 t245 t246 t249 _ A8.out).mono ?_
                 rintro e w70 ⟨rfl, hb⟩
                 refine ⟨_, rfl, ?_⟩
                 replace BK240 := Aside0.mk (blk_below (g := gb240) (o := .cells #[.bool false, .int .u64 0, .int .u64 0, .int .i64 0] 33 (0, 0)) (zK BK240) hb)
                 replace BK248 := Aside0.mk (blk_below (g := gb248) (o := .cells #[.bool t244, .int .u64 t245, .int .u64 t246] 31 (0, 0)) (zK BK248) hb)
                 replace BK250 := Aside0.mk (blk_below (g := gb250) (o := .cells #[.bool false, .int .u64 0, .int .u64 0, .int .i64 0] 33 (0, 0)) (zK BK250) hb)
                 replace HB := Aside0.mk (below_step (zB HB) hb)
                 (try clear hb)
                 refine hK.out _ _ ⟨zc BK248 0, zc BK248 1, zc BK248 2⟩ (fun hHeld => ?_)
                 clear hK K
                 refine zn 32 ?_; refine zp0 3 33 ?_
                 exact norm_ (by simp only [putAll, Act.put, List.setIfInBounds_toArray, List.set_cons_zero, List.set_cons_succ]) (hCont (gb250) _ ⟨hHeld, (zK BK240), (zK BK248), (zK BK250), GW250.out, GE250.out, NB240_250.out, NB250_240.out, NB248_250.out, NB250_248.out, (zB HB)⟩)
             rintro gb250 w71 ⟨hS_, h0_, h1_, h2_, h3_, h4_, h5_, h6_, h7_, h8_, h9_⟩
             have n0_ : Aside0 (w71.heap[gb240]? = some (.cells #[.bool false, .int .u64 0, .int .u64 0, .int .i64 0] 33 (0, 0))) := ⟨h0_⟩
             have n1_ : Aside0 (w71.heap[gb248]? = some (.cells #[.bool t244, .int .u64 t245, .int .u64 t246] 31 (0, 0))) := ⟨h1_⟩
             have n2_ : Aside0 (w71.heap[gb250]? = some (.cells #[.bool false, .int .u64 0, .int .u64 0, .int .i64 0] 33 (0, 0))) := ⟨h2_⟩
             have n3_ : Aside0 (w.heap.size ≤ gb250) := ⟨h3_⟩
             have n4_ : Aside0 (w.heap.size ≤ gb250) := ⟨h4_⟩
             have n5_ : Aside0 (gb240 ≠ gb250) := ⟨h5_⟩
             have n6_ : Aside0 (gb250 ≠ gb240) := ⟨h6_⟩
             have n7_ : Aside0 (gb248 ≠ gb250) := ⟨h7_⟩
             have n8_ : Aside0 (gb250 ≠ gb248) := ⟨h8_⟩
             have n9_ : Aside0 (Below w.heap.size w w71) := ⟨h9_⟩
             clear BK240
             clear BK248
             clear HB
             clear h0_ h1_ h2_ h3_ h4_ h5_ h6_ h7_ h8_ h9_
             have BK240 := n0_
             have BK248 := n1_
             have BK250 := n2_
             have GW250 := n3_
             have GE250 := n4_
             have NB240_250 := n5_
             have NB250_240 := n6_
             have NB248_250 := n7_
             have NB250_248 := n8_
             have HB := n9_
             clear n0_ n1_ n2_ n3_ n4_ n5_ n6_ n7_ n8_ n9_
             have hHeld : w71.cell? ⟨gb248, 0, none⟩ = some (.bool t244) ∧ w71.cell? ⟨gb248, 1, none⟩ = some (.int .u64 t245) ∧ w71.cell? ⟨gb248, 2, none⟩ = some (.int .u64 t246) := hS_
             refine norm_ (a' := ?_) ?_ ?_
             rotate_left
             · simp only [putAll, Act.put, List.setIfInBounds_toArray, List.set_cons_zero, List.set_cons_succ]
               rfl
             refine one_ (i := 5) (N := none) #[true, true, true, true, true, true] rfl rfl (by kernel_rfl) (by decide) (fun K hK => ?_)
             have hs72 : w71.cell? ⟨gb250, 0, none⟩ = some (.bool false) := zc BK250 0
             have hfs72 := blk_frozen BK250.out 0
             have hns72_0 := NB240_250.out
             have hns72_1 := NB248_250.out
             have hms72_0 := NB250_240.out
             have hms72_1 := NB250_248.out
             have hs73 : w71.cell? ⟨gb250, 1, none⟩ = some (.int .u64 0) := zc BK250 1
             have hfs73 := blk_frozen BK250.out 1
             have hns73_0 := NB240_250.out
             have hns73_1 := NB248_250.out
             have hms73_0 := NB250_240.out
             have hms73_1 := NB250_248.out
             have hs74 : w71.cell? ⟨gb250, 2, none⟩ = some (.int .u64 0) := zc BK250 2
             have hfs74 := blk_frozen BK250.out 2
             have hns74_0 := NB240_250.out
             have hns74_1 := NB248_250.out
             have hms74_0 := NB250_240.out
             have hms74_1 := NB250_248.out
             have hs75 : w71.cell? ⟨gb250, 3, none⟩ = some (.int .i64 0) := zc BK250 3
             have hfs75 := blk_frozen BK250.out 3
             have hns75_0 := NB240_250.out
             have hns75_1 := NB248_250.out
             have hms75_0 := NB250_240.out
             have hms75_1 := NB250_248.out
             refine skip_ (w1 := ?_) (by rfl) rfl ?_ ?_
             rotate_left
             · go_simp
               rfl
             refine hK.out _ _ ⟨((cell_far (p := ⟨gb250, _, none⟩) NB248_250.out _).trans (((cell_far (p := ⟨gb250, _, none⟩) NB248_250.out _).trans (((cell_far (p := ⟨gb250, _, none⟩) NB248_250.out _).trans (((cell_far (p := ⟨gb250, _, none⟩) NB248_250.out _).trans (hHeld.1)))))))), ((cell_far (p := ⟨gb250, _, none⟩) NB248_250.out _).trans (((cell_far (p := ⟨gb250, _, none⟩) NB248_250.out _).trans (((cell_far (p := ⟨gb250, _, none⟩) NB248_250.out _).trans (((cell_far (p := ⟨gb250, _, none⟩) NB248_250.out _).trans (hHeld.2.1)))))))), ((cell_far (p := ⟨gb250, _, none⟩) NB248_250.out _).trans (((cell_far (p := ⟨gb250, _, none⟩) NB248_250.out _).trans (((cell_far (p := ⟨gb250, _, none⟩) NB248_250.out _).trans (((cell_far (p := ⟨gb250, _, none⟩) NB248_250.out _).trans (hHeld.2.2))))))))⟩ (fun hHeld => ?_)
             clear hK K
             refine zd0 ?_
             try go_wp2_with (first | ((with_reducible refine gate_callee (f := 106) rfl ?_); refine goesL_ (some 37) rfl rfl Tryz.func106 (by kernel_rfl) rfl #[.string t242] rfl (by (try simp only [List.map_toArray, List.map_cons, List.map_nil]); first | done | rfl | (simp only [List.length_drop, List.length_take]; rfl)) ?_; (with_reducible refine (address_digits.calls k t242 t251 true _ A10.out).mono ?_); rintro e w76 ⟨rfl, hb⟩; refine ⟨_, rfl, ?_⟩; replace BK240 := Aside0.mk (blk_below (g := gb240) (o := .cells #[.bool false, .int .u64 0, .int .u64 0, .int .i64 0] 33 (0, 0)) (by refine zL ?_; refine blk_far ?_ NB240_250.out _; refine zL ?_; refine blk_far ?_ NB240_250.out _; refine zL ?_; refine blk_far ?_ NB240_250.out _; refine zL ?_; refine blk_far ?_ NB240_250.out _; refine zL ?_; exact BK240.out) hb); replace BK248 := Aside0.mk (blk_below (g := gb248) (o := .cells #[.bool t244, .int .u64 t245, .int .u64 t246] 31 (0, 0)) (by refine zL ?_; refine blk_far ?_ NB248_250.out _; refine zL ?_; refine blk_far ?_ NB248_250.out _; refine zL ?_; refine blk_far ?_ NB248_250.out _; refine zL ?_; refine blk_far ?_ NB248_250.out _; refine zL ?_; exact BK248.out) hb); replace BK250 := Aside0.mk (blk_below (g := gb250) (o := .cells #[.bool t244, .int .u64 t245, .int .u64 t246, .int .i64 t249] 33 (0, 0)) (by refine zL ?_; refine blk_put (cs := #[.bool t244, .int .u64 t245, .int .u64 t246, .int .i64 0]) ?_ 3 _ rfl; refine zL ?_; refine blk_put (cs := #[.bool t244, .int .u64 t245, .int .u64 0, .int .i64 0]) ?_ 2 _ rfl; refine zL ?_; refine blk_put (cs := #[.bool t244, .int .u64 0, .int .u64 0, .int .i64 0]) ?_ 1 _ rfl; refine zL ?_; refine blk_put (cs := #[.bool false, .int .u64 0, .int .u64 0, .int .i64 0]) ?_ 0 _ rfl; refine zL ?_; exact BK250.out) hb); replace HB := Aside0.mk (below_step (zB HB) hb); (try clear hb); have hnb77 := NB248_250.out; have hnc77 := NB250_248.out; obtain ⟨hcz78_0, hcz78_1, hcz78_2⟩ := zc3 BK248; obtain ⟨hfz78_0, hfz78_1, hfz78_2⟩ := zf3 BK248) | ((with_reducible refine gate_callee (f := 92) rfl ?_); refine goesL_ (some 47) rfl rfl Tryz.func92 (by kernel_rfl) rfl #[.agg #[.bool t244, .int .u64 t245, .int .u64 t246]] rfl (by (try simp only [List.map_toArray, List.map_cons, List.map_nil]); first | done | rfl | (simp only [List.length_drop, List.length_take]; rfl)) ?_; (with_reducible refine (address_size.calls t244 t245 t246 t253 _ A12.out).mono ?_); rintro e w79 ⟨rfl, hb⟩; refine ⟨_, rfl, ?_⟩; replace BK240 := Aside0.mk (blk_below (g := gb240) (o := .cells #[.bool false, .int .u64 0, .int .u64 0, .int .i64 0] 33 (0, 0)) (zK BK240) hb); replace BK248 := Aside0.mk (blk_below (g := gb248) (o := .cells #[.bool t244, .int .u64 t245, .int .u64 t246] 31 (0, 0)) (zK BK248) hb); replace BK250 := Aside0.mk (blk_below (g := gb250) (o := .cells #[.bool t244, .int .u64 t245, .int .u64 t246, .int .i64 t249] 33 (0, 0)) (zK BK250) hb); replace HB := Aside0.mk (below_step (zB HB) hb); (try clear hb); have hnb80 := NB250_240.out; have hnc80 := NB240_250.out; obtain ⟨hcz81_0, hcz81_1, hcz81_2, hcz81_3⟩ := zc4 BK250; obtain ⟨hfz81_0, hfz81_1, hfz81_2, hfz81_3⟩ := zf4 BK250) | ((with_reducible refine gate_callee (f := 56) rfl ?_); refine goesL_ (some 53) rfl rfl Tryz.func56 (by kernel_rfl) rfl #[.agg #[.bool t244, .int .u64 t245, .int .u64 t246, .int .i64 t251]] rfl (by (try simp only [List.map_toArray, List.map_cons, List.map_nil]); first | done | rfl | (simp only [List.length_drop, List.length_take]; rfl)) ?_; (with_reducible refine (address_ValidPrefix.calls t244 t245 t246 t251 false _ A35.out).mono ?_); rintro e w82 ⟨rfl, hb⟩; refine ⟨_, rfl, ?_⟩; replace BK240 := Aside0.mk (blk_below (g := gb240) (o := .cells #[.bool false, .int .u64 0, .int .u64 0, .int .i64 0] 33 (0, 0)) (by refine zL ?_; refine blk_far ?_ NB240_250.out _; refine zL ?_; exact BK240.out) hb); replace BK248 := Aside0.mk (blk_below (g := gb248) (o := .cells #[.bool t244, .int .u64 t245, .int .u64 t246] 31 (0, 0)) (by refine zL ?_; refine blk_far ?_ NB248_250.out _; refine zL ?_; exact BK248.out) hb); replace BK250 := Aside0.mk (blk_below (g := gb250) (o := .cells #[.bool t244, .int .u64 t245, .int .u64 t246, .int .i64 t251] 33 (0, 0)) (by refine zL ?_; refine blk_put (cs := #[.bool t244, .int .u64 t245, .int .u64 t246, .int .i64 t249]) ?_ 3 _ rfl; refine zL ?_; exact BK250.out) hb); replace HB := Aside0.mk (below_step (zB HB) hb); (try clear hb); obtain ⟨hcz83_0, hcz83_1, hcz83_2, hcz83_3⟩ := zc4 BK240; obtain ⟨hfz83_0, hfz83_1, hfz83_2, hfz83_3⟩ := zf4 BK240))
             refine bodyPost_ret (results_ct rfl _ _ gb240 33 #[.bool false, .int .u64 0, .int .u64 0, .int .i64 0] (0, 0) _ rfl (by refine zL ?_; refine blk_put (cs := #[.bool false, .int .u64 0, .int .u64 0, .int .i64 0]) ?_ 3 _ rfl; refine zL ?_; refine blk_put (cs := #[.bool false, .int .u64 0, .int .u64 0, .int .i64 0]) ?_ 2 _ rfl; refine zL ?_; refine blk_put (cs := #[.bool false, .int .u64 0, .int .u64 0, .int .i64 0]) ?_ 1 _ rfl; refine zL ?_; refine blk_put (cs := #[.bool false, .int .u64 0, .int .u64 0, .int .i64 0]) ?_ 0 _ rfl; refine zL ?_; exact BK240.out) Tryz.underlying33 rfl (by kernel_rfl)) rfl ?_
             exact ⟨by first | rfl | (simp [errW_none, errW_some] <;> rfl) | (simp [*, errW_none, errW_some] <;> rfl), by repeat (first | (with_reducible first | exact HB.out | apply below_alloc | apply pw_below_drewN | apply below_drew1 | refine below_set ?_ GE240.out | refine below_set ?_ GE248.out | refine below_set ?_ GE250.out) | exact HB.out)⟩
       · replace c11 := Bool.eq_false_iff.mpr c11
         subst c11
         rw [if_neg zF] at H
         simp only [Option.some.injEq, Prod.mk.injEq] at H
         obtain ⟨rfl, rfl, rfl, rfl, rfl⟩ := H
         go_enter Tryz.func72, Tryz.ntmps72
         try go_wp2_with (first | ((with_reducible refine gate_dst (N := 2) rfl ?_); refine zx 2 #[.bool false, .int .u64 0, .int .u64 0, .int .i64 0] 33 ?_; intro gb240 hg w84 hbox hb; have BK240 := Aside0.mk (hbox); have GW240 := Aside0.mk ((by rw [hg]; exact (below_size (zB HB)) : w.heap.size ≤ gb240)); have GE240 := Aside0.mk ((by rw [hg]; exact (below_size (zB HB)) : w.heap.size ≤ gb240)); replace HB := Aside0.mk (below_step (zB HB) hb); clear hb hbox hg) | ((with_reducible refine gate_callee (f := 104) rfl ?_); refine goesL_ (some 18) rfl rfl Tryz.func104 (by kernel_rfl) rfl #[.string a0, .string (⟨#[47]⟩ : ByteArray)] rfl (by (try simp only [List.map_toArray, List.map_cons, List.map_nil]); first | done | rfl | (simp only [List.length_drop, List.length_take]; rfl)) ?_; (with_reducible refine (strings_Cut.calls a0 (⟨#[47]⟩ : ByteArray) t241 t242 true _ A5.out (WOK.below hW_ (zB HB))).mono ?_); rintro e w85 ⟨rfl, hb⟩; refine ⟨_, rfl, ?_⟩; replace BK240 := Aside0.mk (blk_below (g := gb240) (o := .cells #[.bool false, .int .u64 0, .int .u64 0, .int .i64 0] 33 (0, 0)) (zK BK240) hb); replace HB := Aside0.mk (below_step (zB HB) hb); (try clear hb)) | ((with_reducible refine gate_callee (f := 105) rfl ?_); refine goesL_ (some 24) rfl rfl Tryz.func105 (by kernel_rfl) rfl #[.string t241] rfl (by (try simp only [List.map_toArray, List.map_cons, List.map_nil]); first | done | rfl | (simp only [List.length_drop, List.length_take]; rfl)) ?_; (with_reducible refine (address_Parse.calls k t241 t244 t245 t246 t247 _ A6.out (WOK.below hW_ (zB HB))).mono ?_); rintro e w86 ⟨rfl, hb⟩; refine ⟨_, rfl, ?_⟩; replace BK240 := Aside0.mk (blk_below (g := gb240) (o := .cells #[.bool false, .int .u64 0, .int .u64 0, .int .i64 0] 33 (0, 0)) (zK BK240) hb); replace HB := Aside0.mk (below_step (zB HB) hb); (try clear hb)) | ((with_reducible refine gate_dst (N := 7) rfl ?_); refine zx 7 #[.bool false, .int .u64 0, .int .u64 0] 31 ?_; intro gb248 hg w87 hbox hb; have BK248 := Aside0.mk (hbox); have GW248 := Aside0.mk ((by rw [hg]; exact (below_size (zB HB)) : w.heap.size ≤ gb248)); have GE248 := Aside0.mk ((by rw [hg]; exact (below_size (zB HB)) : w.heap.size ≤ gb248)); replace HB := Aside0.mk (below_step (zB HB) hb); have NB240_248 := Aside0.mk ((by rw [hg]; exact Nat.ne_of_lt (blk_lt (g := gb240) (o := .cells #[.bool false, .int .u64 0, .int .u64 0, .int .i64 0] 33 (0, 0)) (zK BK240)) : gb240 ≠ gb248)); have NB248_240 := Aside0.mk ((by rw [hg]; exact Nat.ne_of_gt (blk_lt (g := gb240) (o := .cells #[.bool false, .int .u64 0, .int .u64 0, .int .i64 0] 33 (0, 0)) (zK BK240)) : gb248 ≠ gb240)); replace BK240 := Aside0.mk (blk_below (g := gb240) (o := .cells #[.bool false, .int .u64 0, .int .u64 0, .int .i64 0] 33 (0, 0)) (zK BK240) hb); clear hb hbox hg; have hnb88 := NB248_240.out; have hnc88 := NB240_248.out; obtain ⟨hcz89_0, hcz89_1, hcz89_2⟩ := zc3 BK248; obtain ⟨hfz89_0, hfz89_1, hfz89_2⟩ := zf3 BK248))
         have n0_ : Aside0 ((((w87.setCell ⟨gb248, 0, none⟩ (.bool t244)).setCell ⟨gb248, 1, none⟩ (.int .u64 t245)).setCell ⟨gb248, 2, none⟩ (.int .u64 t246)).heap[gb240]? = some (.cells #[.bool false, .int .u64 0, .int .u64 0, .int .i64 0] 33 (0, 0))) := ⟨by refine zL ?_; refine blk_far ?_ NB240_248.out _; refine zL ?_; refine blk_far ?_ NB240_248.out _; refine zL ?_; refine blk_far ?_ NB240_248.out _; refine zL ?_; exact BK240.out⟩
         have n1_ : Aside0 ((((w87.setCell ⟨gb248, 0, none⟩ (.bool t244)).setCell ⟨gb248, 1, none⟩ (.int .u64 t245)).setCell ⟨gb248, 2, none⟩ (.int .u64 t246)).heap[gb248]? = some (.cells #[.bool t244, .int .u64 t245, .int .u64 t246] 31 (0, 0))) := ⟨by refine zL ?_; refine blk_put (cs := #[.bool t244, .int .u64 t245, .int .u64 0]) ?_ 2 _ rfl; refine zL ?_; refine blk_put (cs := #[.bool t244, .int .u64 0, .int .u64 0]) ?_ 1 _ rfl; refine zL ?_; refine blk_put (cs := #[.bool false, .int .u64 0, .int .u64 0]) ?_ 0 _ rfl; refine zL ?_; exact BK248.out⟩
         have n2_ : Aside0 (Below w.heap.size w (((w87.setCell ⟨gb248, 0, none⟩ (.bool t244)).setCell ⟨gb248, 1, none⟩ (.int .u64 t245)).setCell ⟨gb248, 2, none⟩ (.int .u64 t246))) := ⟨zB HB⟩
         (try clear BK240)
         (try clear BK248)
         (try clear HB)
         generalize (((w87.setCell ⟨gb248, 0, none⟩ (.bool t244)).setCell ⟨gb248, 1, none⟩ (.int .u64 t245)).setCell ⟨gb248, 2, none⟩ (.int .u64 t246)) = w90 at n0_ n1_ n2_ ⊢
         have BK240 := n0_
         have BK248 := n1_
         have HB := n2_
         clear n0_ n1_ n2_
         replace BK240 := Aside0.mk (blk_drew BK240.out)
         replace BK248 := Aside0.mk (blk_drew BK248.out)
         replace HB := Aside0.mk (below_drew1 HB.out)
         refine start_ (n := 6) (S := fun w' => w'.cell? ⟨gb248, 0, none⟩ = some (.bool t244) ∧ w'.cell? ⟨gb248, 1, none⟩ = some (.int .u64 t245) ∧ w'.cell? ⟨gb248, 2, none⟩ = some (.int .u64 t246)) (ds := []) #[false, false, false, false, false, false] (by kernel_rfl) rfl rfl ⟨zc BK248 0, zc BK248 1, zc BK248 2⟩ (fun hHeld => ?_)
         generalize w90.drew = w91 at BK240 BK248 HB hHeld ⊢
         refine zt0 0 30 hHeld ?_; refine zt0 1 31 hHeld ?_
         refine join_ (σ := Nat) 1 #[true, true, true, true, true, false] (fun s_ => [(32, .int .i64 t249), (9, .pointer (some ⟨s_, 0, none⟩)), (33, .agg #[.bool t244, .int .u64 t245, .int .u64 t246, .int .i64 t249])]) (fun s_ w' => (w'.cell? ⟨gb248, 0, none⟩ = some (.bool t244) ∧ w'.cell? ⟨gb248, 1, none⟩ = some (.int .u64 t245) ∧ w'.cell? ⟨gb248, 2, none⟩ = some (.int .u64 t246)) ∧ (w'.heap[gb240]? = some (.cells #[.bool false, .int .u64 0, .int .u64 0, .int .i64 0] 33 (0, 0))) ∧ (w'.heap[gb248]? = some (.cells #[.bool t244, .int .u64 t245, .int .u64 t246] 31 (0, 0))) ∧ (w'.heap[s_]? = some (.cells #[.bool false, .int .u64 0, .int .u64 0, .int .i64 0] 33 (0, 0))) ∧ (w.heap.size ≤ s_) ∧ (w.heap.size ≤ s_) ∧ (gb240 ≠ s_) ∧ (s_ ≠ gb240) ∧ (gb248 ≠ s_) ∧ (s_ ≠ gb248) ∧ (Below w.heap.size w w')) ?_ ?_
         rotate_left
         · intro hCont
           refine two_ (i := 2) (j := 4) (Ni := some 32) (Nj := some 9) #[true, true, true, false, false, false] #[true, true, false, false, true, false] rfl rfl rfl rfl (by kernel_rfl) (by decide) (by decide) (fun K hK => ?_) (fun K hK => ?_)
           · skip
             refine zg Tryz.func92 #[.agg #[.bool t244, .int .u64 t245, .int .u64 t246]] ?_
             with_reducible refine (address_size.calls t244 t245 t246 t249 _ A8.out).mono ?_
             rintro e w92 ⟨rfl, hb⟩
             refine ⟨_, rfl, ?_⟩
             replace BK240 := Aside0.mk (blk_below (g := gb240) (o := .cells #[.bool false, .int .u64 0, .int .u64 0, .int .i64 0] 33 (0, 0)) (zK BK240) hb)
             replace BK248 := Aside0.mk (blk_below (g := gb248) (o := .cells #[.bool t244, .int .u64 t245, .int .u64 t246] 31 (0, 0)) (zK BK248) hb)
             replace HB := Aside0.mk (below_step (zB HB) hb)
             (try clear hb)
             refine hK.out _ _ ⟨zc BK248 0, zc BK248 1, zc BK248 2⟩ (fun hHeld => ?_)
             clear hK K
             refine zn 32 ?_; refine zp0 3 33 ?_; refine zo0 4 9 (fun K hK => ?_)
             refine box_step ?hg (N := 9) ?hd (cs := #[.bool false, .int .u64 0, .int .u64 0, .int .i64 0]) (t := 33) ?hr ?_; (case hd => rfl); (case hg => rfl); (case hr => first | (go_simp; done) | (go_simp; rfl))
             intro gb250 hg w93 hbox hb
             have BK250 := Aside0.mk (hbox)
             have GW250 := Aside0.mk ((by rw [hg]; exact (below_size (zB HB)) : w.heap.size ≤ gb250))
             have GE250 := Aside0.mk ((by rw [hg]; exact (below_size (zB HB)) : w.heap.size ≤ gb250))
             replace HB := Aside0.mk (below_step (zB HB) hb)
             have NB240_250 := Aside0.mk ((by rw [hg]; exact Nat.ne_of_lt (blk_lt (g := gb240) (o := .cells #[.bool false, .int .u64 0, .int .u64 0, .int .i64 0] 33 (0, 0)) (zK BK240)) : gb240 ≠ gb250))
             have NB250_240 := Aside0.mk ((by rw [hg]; exact Nat.ne_of_gt (blk_lt (g := gb240) (o := .cells #[.bool false, .int .u64 0, .int .u64 0, .int .i64 0] 33 (0, 0)) (zK BK240)) : gb250 ≠ gb240))
             replace BK240 := Aside0.mk (blk_below (g := gb240) (o := .cells #[.bool false, .int .u64 0, .int .u64 0, .int .i64 0] 33 (0, 0)) (zK BK240) hb)
             have NB248_250 := Aside0.mk ((by rw [hg]; exact Nat.ne_of_lt (blk_lt (g := gb248) (o := .cells #[.bool t244, .int .u64 t245, .int .u64 t246] 31 (0, 0)) (zK BK248)) : gb248 ≠ gb250))
             have NB250_248 := Aside0.mk ((by rw [hg]; exact Nat.ne_of_gt (blk_lt (g := gb248) (o := .cells #[.bool t244, .int .u64 t245, .int .u64 t246] 31 (0, 0)) (zK BK248)) : gb250 ≠ gb248))
             replace BK248 := Aside0.mk (blk_below (g := gb248) (o := .cells #[.bool t244, .int .u64 t245, .int .u64 t246] 31 (0, 0)) (zK BK248) hb)
             clear hb hbox hg
             refine hK.out _ _ ⟨zc BK248 0, zc BK248 1, zc BK248 2⟩ (fun hHeld => ?_)
             clear hK K
             refine zn 9 ?_
             exact norm_ (by simp only [putAll, Act.put, List.setIfInBounds_toArray, List.set_cons_zero, List.set_cons_succ]) (hCont (gb250) _ ⟨hHeld, (zK BK240), (zK BK248), (zK BK250), GW250.out, GE250.out, NB240_250.out, NB250_240.out, NB248_250.out, NB250_248.out, (zB HB)⟩)
           · skip
             refine box_step ?hg (N := 9) ?hd (cs := #[.bool false, .int .u64 0, .int .u64 0, .int .i64 0]) (t := 33) ?hr ?_; (case hd => rfl); (case hg => rfl); (case hr => first | (go_simp; done) | (go_simp; rfl))
             intro gb250 hg w92 hbox hb
             have BK250 := Aside0.mk (hbox)
             have GW250 := Aside0.mk ((by rw [hg]; exact (below_size (zB HB)) : w.heap.size ≤ gb250))
             have GE250 := Aside0.mk ((by rw [hg]; exact (below_size (zB HB)) : w.heap.size ≤ gb250))
             replace HB := Aside0.mk (below_step (zB HB) hb)
             have NB240_250 := Aside0.mk ((by rw [hg]; exact Nat.ne_of_lt (blk_lt (g := gb240) (o := .cells #[.bool false, .int .u64 0, .int .u64 0, .int .i64 0] 33 (0, 0)) (zK BK240)) : gb240 ≠ gb250))
             have NB250_240 := Aside0.mk ((by rw [hg]; exact Nat.ne_of_gt (blk_lt (g := gb240) (o := .cells #[.bool false, .int .u64 0, .int .u64 0, .int .i64 0] 33 (0, 0)) (zK BK240)) : gb250 ≠ gb240))
             replace BK240 := Aside0.mk (blk_below (g := gb240) (o := .cells #[.bool false, .int .u64 0, .int .u64 0, .int .i64 0] 33 (0, 0)) (zK BK240) hb)
             have NB248_250 := Aside0.mk ((by rw [hg]; exact Nat.ne_of_lt (blk_lt (g := gb248) (o := .cells #[.bool t244, .int .u64 t245, .int .u64 t246] 31 (0, 0)) (zK BK248)) : gb248 ≠ gb250))
             have NB250_248 := Aside0.mk ((by rw [hg]; exact Nat.ne_of_gt (blk_lt (g := gb248) (o := .cells #[.bool t244, .int .u64 t245, .int .u64 t246] 31 (0, 0)) (zK BK248)) : gb250 ≠ gb248))
             replace BK248 := Aside0.mk (blk_below (g := gb248) (o := .cells #[.bool t244, .int .u64 t245, .int .u64 t246] 31 (0, 0)) (zK BK248) hb)
             clear hb hbox hg
             refine hK.out _ _ ⟨zc BK248 0, zc BK248 1, zc BK248 2⟩ (fun hHeld => ?_)
             clear hK K
             refine zn 9 ?_; refine zo0 2 32 (fun K hK => ?_)
             refine zg Tryz.func92 #[.agg #[.bool t244, .int .u64 t245, .int .u64 t246]] ?_
             with_reducible refine (address_size.calls t244 t245 t246 t249 _ A8.out).mono ?_
             rintro e w93 ⟨rfl, hb⟩
             refine ⟨_, rfl, ?_⟩
             replace BK240 := Aside0.mk (blk_below (g := gb240) (o := .cells #[.bool false, .int .u64 0, .int .u64 0, .int .i64 0] 33 (0, 0)) (zK BK240) hb)
             replace BK248 := Aside0.mk (blk_below (g := gb248) (o := .cells #[.bool t244, .int .u64 t245, .int .u64 t246] 31 (0, 0)) (zK BK248) hb)
             replace BK250 := Aside0.mk (blk_below (g := gb250) (o := .cells #[.bool false, .int .u64 0, .int .u64 0, .int .i64 0] 33 (0, 0)) (zK BK250) hb)
             replace HB := Aside0.mk (below_step (zB HB) hb)
             (try clear hb)
             refine hK.out _ _ ⟨zc BK248 0, zc BK248 1, zc BK248 2⟩ (fun hHeld => ?_)
             clear hK K
             refine zn 32 ?_; refine zp0 3 33 ?_
             exact norm_ (by simp only [putAll, Act.put, List.setIfInBounds_toArray, List.set_cons_zero, List.set_cons_succ]) (hCont (gb250) _ ⟨hHeld, (zK BK240), (zK BK248), (zK BK250), GW250.out, GE250.out, NB240_250.out, NB250_240.out, NB248_250.out, NB250_248.out, (zB HB)⟩)
         rintro gb250 w94 ⟨hS_, h0_, h1_, h2_, h3_, h4_, h5_, h6_, h7_, h8_, h9_⟩
         have n0_ : Aside0 (w94.heap[gb240]? = some (.cells #[.bool false, .int .u64 0, .int .u64 0, .int .i64 0] 33 (0, 0))) := ⟨h0_⟩
         have n1_ : Aside0 (w94.heap[gb248]? = some (.cells #[.bool t244, .int .u64 t245, .int .u64 t246] 31 (0, 0))) := ⟨h1_⟩
         have n2_ : Aside0 (w94.heap[gb250]? = some (.cells #[.bool false, .int .u64 0, .int .u64 0, .int .i64 0] 33 (0, 0))) := ⟨h2_⟩
         have n3_ : Aside0 (w.heap.size ≤ gb250) := ⟨h3_⟩
         have n4_ : Aside0 (w.heap.size ≤ gb250) := ⟨h4_⟩
         have n5_ : Aside0 (gb240 ≠ gb250) := ⟨h5_⟩
         have n6_ : Aside0 (gb250 ≠ gb240) := ⟨h6_⟩
         have n7_ : Aside0 (gb248 ≠ gb250) := ⟨h7_⟩
         have n8_ : Aside0 (gb250 ≠ gb248) := ⟨h8_⟩
         have n9_ : Aside0 (Below w.heap.size w w94) := ⟨h9_⟩
         clear BK240
         clear BK248
         clear HB
         clear h0_ h1_ h2_ h3_ h4_ h5_ h6_ h7_ h8_ h9_
         have BK240 := n0_
         have BK248 := n1_
         have BK250 := n2_
         have GW250 := n3_
         have GE250 := n4_
         have NB240_250 := n5_
         have NB250_240 := n6_
         have NB248_250 := n7_
         have NB250_248 := n8_
         have HB := n9_
         clear n0_ n1_ n2_ n3_ n4_ n5_ n6_ n7_ n8_ n9_
         have hHeld : w94.cell? ⟨gb248, 0, none⟩ = some (.bool t244) ∧ w94.cell? ⟨gb248, 1, none⟩ = some (.int .u64 t245) ∧ w94.cell? ⟨gb248, 2, none⟩ = some (.int .u64 t246) := hS_
         refine norm_ (a' := ?_) ?_ ?_
         rotate_left
         · simp only [putAll, Act.put, List.setIfInBounds_toArray, List.set_cons_zero, List.set_cons_succ]
           rfl
         refine one_ (i := 5) (N := none) #[true, true, true, true, true, true] rfl rfl (by kernel_rfl) (by decide) (fun K hK => ?_)
         have hs95 : w94.cell? ⟨gb250, 0, none⟩ = some (.bool false) := zc BK250 0
         have hfs95 := blk_frozen BK250.out 0
         have hns95_0 := NB240_250.out
         have hns95_1 := NB248_250.out
         have hms95_0 := NB250_240.out
         have hms95_1 := NB250_248.out
         have hs96 : w94.cell? ⟨gb250, 1, none⟩ = some (.int .u64 0) := zc BK250 1
         have hfs96 := blk_frozen BK250.out 1
         have hns96_0 := NB240_250.out
         have hns96_1 := NB248_250.out
         have hms96_0 := NB250_240.out
         have hms96_1 := NB250_248.out
         have hs97 : w94.cell? ⟨gb250, 2, none⟩ = some (.int .u64 0) := zc BK250 2
         have hfs97 := blk_frozen BK250.out 2
         have hns97_0 := NB240_250.out
         have hns97_1 := NB248_250.out
         have hms97_0 := NB250_240.out
         have hms97_1 := NB250_248.out
         have hs98 : w94.cell? ⟨gb250, 3, none⟩ = some (.int .i64 0) := zc BK250 3
         have hfs98 := blk_frozen BK250.out 3
         have hns98_0 := NB240_250.out
         have hns98_1 := NB248_250.out
         have hms98_0 := NB250_240.out
         have hms98_1 := NB250_248.out
         refine skip_ (w1 := ?_) (by rfl) rfl ?_ ?_
         rotate_left
         · go_simp
           rfl
         refine hK.out _ _ ⟨((cell_far (p := ⟨gb250, _, none⟩) NB248_250.out _).trans (((cell_far (p := ⟨gb250, _, none⟩) NB248_250.out _).trans (((cell_far (p := ⟨gb250, _, none⟩) NB248_250.out _).trans (((cell_far (p := ⟨gb250, _, none⟩) NB248_250.out _).trans (hHeld.1)))))))), ((cell_far (p := ⟨gb250, _, none⟩) NB248_250.out _).trans (((cell_far (p := ⟨gb250, _, none⟩) NB248_250.out _).trans (((cell_far (p := ⟨gb250, _, none⟩) NB248_250.out _).trans (((cell_far (p := ⟨gb250, _, none⟩) NB248_250.out _).trans (hHeld.2.1)))))))), ((cell_far (p := ⟨gb250, _, none⟩) NB248_250.out _).trans (((cell_far (p := ⟨gb250, _, none⟩) NB248_250.out _).trans (((cell_far (p := ⟨gb250, _, none⟩) NB248_250.out _).trans (((cell_far (p := ⟨gb250, _, none⟩) NB248_250.out _).trans (hHeld.2.2))))))))⟩ (fun hHeld => ?_)
         clear hK K
         refine zd0 ?_
         try go_wp2_with (first | ((with_reducible refine gate_callee (f := 106) rfl ?_); refine goesL_ (some 37) rfl rfl Tryz.func106 (by kernel_rfl) rfl #[.string t242] rfl (by (try simp only [List.map_toArray, List.map_cons, List.map_nil]); first | done | rfl | (simp only [List.length_drop, List.length_take]; rfl)) ?_; (with_reducible refine (address_digits.calls k t242 t251 false _ A10.out).mono ?_); rintro e w99 ⟨rfl, hb⟩; refine ⟨_, rfl, ?_⟩; replace BK240 := Aside0.mk (blk_below (g := gb240) (o := .cells #[.bool false, .int .u64 0, .int .u64 0, .int .i64 0] 33 (0, 0)) (by refine zL ?_; refine blk_far ?_ NB240_250.out _; refine zL ?_; refine blk_far ?_ NB240_250.out _; refine zL ?_; refine blk_far ?_ NB240_250.out _; refine zL ?_; refine blk_far ?_ NB240_250.out _; refine zL ?_; exact BK240.out) hb); replace BK248 := Aside0.mk (blk_below (g := gb248) (o := .cells #[.bool t244, .int .u64 t245, .int .u64 t246] 31 (0, 0)) (by refine zL ?_; refine blk_far ?_ NB248_250.out _; refine zL ?_; refine blk_far ?_ NB248_250.out _; refine zL ?_; refine blk_far ?_ NB248_250.out _; refine zL ?_; refine blk_far ?_ NB248_250.out _; refine zL ?_; exact BK248.out) hb); replace BK250 := Aside0.mk (blk_below (g := gb250) (o := .cells #[.bool t244, .int .u64 t245, .int .u64 t246, .int .i64 t249] 33 (0, 0)) (by refine zL ?_; refine blk_put (cs := #[.bool t244, .int .u64 t245, .int .u64 t246, .int .i64 0]) ?_ 3 _ rfl; refine zL ?_; refine blk_put (cs := #[.bool t244, .int .u64 t245, .int .u64 0, .int .i64 0]) ?_ 2 _ rfl; refine zL ?_; refine blk_put (cs := #[.bool t244, .int .u64 0, .int .u64 0, .int .i64 0]) ?_ 1 _ rfl; refine zL ?_; refine blk_put (cs := #[.bool false, .int .u64 0, .int .u64 0, .int .i64 0]) ?_ 0 _ rfl; refine zL ?_; exact BK250.out) hb); replace HB := Aside0.mk (below_step (zB HB) hb); (try clear hb); have hnb100 := NB240_250.out; have hnc100 := NB250_240.out; obtain ⟨hcz101_0, hcz101_1, hcz101_2, hcz101_3⟩ := zc4 BK240; obtain ⟨hfz101_0, hfz101_1, hfz101_2, hfz101_3⟩ := zf4 BK240))
         refine bodyPost_ret (results_ct rfl _ _ gb240 33 #[.bool false, .int .u64 0, .int .u64 0, .int .i64 0] (0, 0) _ rfl (by refine zL ?_; refine blk_put (cs := #[.bool false, .int .u64 0, .int .u64 0, .int .i64 0]) ?_ 3 _ rfl; refine zL ?_; refine blk_put (cs := #[.bool false, .int .u64 0, .int .u64 0, .int .i64 0]) ?_ 2 _ rfl; refine zL ?_; refine blk_put (cs := #[.bool false, .int .u64 0, .int .u64 0, .int .i64 0]) ?_ 1 _ rfl; refine zL ?_; refine blk_put (cs := #[.bool false, .int .u64 0, .int .u64 0, .int .i64 0]) ?_ 0 _ rfl; refine zL ?_; exact BK240.out) Tryz.underlying33 rfl (by kernel_rfl)) rfl ?_
         exact ⟨by first | rfl | (simp [errW_none, errW_some] <;> rfl) | (simp [*, errW_none, errW_some] <;> rfl), by repeat (first | (with_reducible first | exact HB.out | apply below_alloc | apply pw_below_drewN | apply below_drew1 | refine below_set ?_ GE240.out | refine below_set ?_ GE248.out | refine below_set ?_ GE250.out) | exact HB.out)⟩
     · replace c9 := Bool.eq_false_iff.mpr c9
       subst c9
       rw [if_neg zF] at H
       replace H := Option.bind_eq_some_iff.mp H
       obtain ⟨t255, A1020, H⟩ := H
       replace H : (if t255 = true then (some (t244, t245, t246, t249, 0)) else (some (false, 0, 0, 0, 2))) = some (r1, r2, r3, r4, r5) := H
       have A102 := Aside0.mk A1020
       clear A1020
       by_cases c103 : t255 = true
       · subst c103
         rw [if_pos rfl] at H
         simp only [Option.some.injEq, Prod.mk.injEq] at H
         obtain ⟨rfl, rfl, rfl, rfl, rfl⟩ := H
         go_enter Tryz.func72, Tryz.ntmps72
         try go_wp2_with (first | ((with_reducible refine gate_dst (N := 2) rfl ?_); refine zx 2 #[.bool false, .int .u64 0, .int .u64 0, .int .i64 0] 33 ?_; intro gb240 hg w104 hbox hb; have BK240 := Aside0.mk (hbox); have GW240 := Aside0.mk ((by rw [hg]; exact (below_size (zB HB)) : w.heap.size ≤ gb240)); have GE240 := Aside0.mk ((by rw [hg]; exact (below_size (zB HB)) : w.heap.size ≤ gb240)); replace HB := Aside0.mk (below_step (zB HB) hb); clear hb hbox hg) | ((with_reducible refine gate_callee (f := 104) rfl ?_); refine goesL_ (some 18) rfl rfl Tryz.func104 (by kernel_rfl) rfl #[.string a0, .string (⟨#[47]⟩ : ByteArray)] rfl (by (try simp only [List.map_toArray, List.map_cons, List.map_nil]); first | done | rfl | (simp only [List.length_drop, List.length_take]; rfl)) ?_; (with_reducible refine (strings_Cut.calls a0 (⟨#[47]⟩ : ByteArray) t241 t242 false _ A5.out (WOK.below hW_ (zB HB))).mono ?_); rintro e w105 ⟨rfl, hb⟩; refine ⟨_, rfl, ?_⟩; replace BK240 := Aside0.mk (blk_below (g := gb240) (o := .cells #[.bool false, .int .u64 0, .int .u64 0, .int .i64 0] 33 (0, 0)) (zK BK240) hb); replace HB := Aside0.mk (below_step (zB HB) hb); (try clear hb)) | ((with_reducible refine gate_callee (f := 105) rfl ?_); refine goesL_ (some 24) rfl rfl Tryz.func105 (by kernel_rfl) rfl #[.string t241] rfl (by (try simp only [List.map_toArray, List.map_cons, List.map_nil]); first | done | rfl | (simp only [List.length_drop, List.length_take]; rfl)) ?_; (with_reducible refine (address_Parse.calls k t241 t244 t245 t246 t247 _ A6.out (WOK.below hW_ (zB HB))).mono ?_); rintro e w106 ⟨rfl, hb⟩; refine ⟨_, rfl, ?_⟩; replace BK240 := Aside0.mk (blk_below (g := gb240) (o := .cells #[.bool false, .int .u64 0, .int .u64 0, .int .i64 0] 33 (0, 0)) (zK BK240) hb); replace HB := Aside0.mk (below_step (zB HB) hb); (try clear hb)) | ((with_reducible refine gate_dst (N := 7) rfl ?_); refine zx 7 #[.bool false, .int .u64 0, .int .u64 0] 31 ?_; intro gb248 hg w107 hbox hb; have BK248 := Aside0.mk (hbox); have GW248 := Aside0.mk ((by rw [hg]; exact (below_size (zB HB)) : w.heap.size ≤ gb248)); have GE248 := Aside0.mk ((by rw [hg]; exact (below_size (zB HB)) : w.heap.size ≤ gb248)); replace HB := Aside0.mk (below_step (zB HB) hb); have NB240_248 := Aside0.mk ((by rw [hg]; exact Nat.ne_of_lt (blk_lt (g := gb240) (o := .cells #[.bool false, .int .u64 0, .int .u64 0, .int .i64 0] 33 (0, 0)) (zK BK240)) : gb240 ≠ gb248)); have NB248_240 := Aside0.mk ((by rw [hg]; exact Nat.ne_of_gt (blk_lt (g := gb240) (o := .cells #[.bool false, .int .u64 0, .int .u64 0, .int .i64 0] 33 (0, 0)) (zK BK240)) : gb248 ≠ gb240)); replace BK240 := Aside0.mk (blk_below (g := gb240) (o := .cells #[.bool false, .int .u64 0, .int .u64 0, .int .i64 0] 33 (0, 0)) (zK BK240) hb); clear hb hbox hg; have hnb108 := NB248_240.out; have hnc108 := NB240_248.out; obtain ⟨hcz109_0, hcz109_1, hcz109_2⟩ := zc3 BK248; obtain ⟨hfz109_0, hfz109_1, hfz109_2⟩ := zf3 BK248))
         have n0_ : Aside0 ((((w107.setCell ⟨gb248, 0, none⟩ (.bool t244)).setCell ⟨gb248, 1, none⟩ (.int .u64 t245)).setCell ⟨gb248, 2, none⟩ (.int .u64 t246)).heap[gb240]? = some (.cells #[.bool false, .int .u64 0, .int .u64 0, .int .i64 0] 33 (0, 0))) := ⟨by refine zL ?_; refine blk_far ?_ NB240_248.out _; refine zL ?_; refine blk_far ?_ NB240_248.out _; refine zL ?_; refine blk_far ?_ NB240_248.out _; refine zL ?_; exact BK240.out⟩
         have n1_ : Aside0 ((((w107.setCell ⟨gb248, 0, none⟩ (.bool t244)).setCell ⟨gb248, 1, none⟩ (.int .u64 t245)).setCell ⟨gb248, 2, none⟩ (.int .u64 t246)).heap[gb248]? = some (.cells #[.bool t244, .int .u64 t245, .int .u64 t246] 31 (0, 0))) := ⟨by refine zL ?_; refine blk_put (cs := #[.bool t244, .int .u64 t245, .int .u64 0]) ?_ 2 _ rfl; refine zL ?_; refine blk_put (cs := #[.bool t244, .int .u64 0, .int .u64 0]) ?_ 1 _ rfl; refine zL ?_; refine blk_put (cs := #[.bool false, .int .u64 0, .int .u64 0]) ?_ 0 _ rfl; refine zL ?_; exact BK248.out⟩
         have n2_ : Aside0 (Below w.heap.size w (((w107.setCell ⟨gb248, 0, none⟩ (.bool t244)).setCell ⟨gb248, 1, none⟩ (.int .u64 t245)).setCell ⟨gb248, 2, none⟩ (.int .u64 t246))) := ⟨zB HB⟩
         (try clear BK240)
         (try clear BK248)
         (try clear HB)
         generalize (((w107.setCell ⟨gb248, 0, none⟩ (.bool t244)).setCell ⟨gb248, 1, none⟩ (.int .u64 t245)).setCell ⟨gb248, 2, none⟩ (.int .u64 t246)) = w110 at n0_ n1_ n2_ ⊢
         have BK240 := n0_
         have BK248 := n1_
         have HB := n2_
         clear n0_ n1_ n2_
         replace BK240 := Aside0.mk (blk_drew BK240.out)
         replace BK248 := Aside0.mk (blk_drew BK248.out)
         replace HB := Aside0.mk (below_drew1 HB.out)
         refine start_ (n := 6) (S := fun w' => w'.cell? ⟨gb248, 0, none⟩ = some (.bool t244) ∧ w'.cell? ⟨gb248, 1, none⟩ = some (.int .u64 t245) ∧ w'.cell? ⟨gb248, 2, none⟩ = some (.int .u64 t246)) (ds := []) #[false, false, false, false, false, false] (by kernel_rfl) rfl rfl ⟨zc BK248 0, zc BK248 1, zc BK248 2⟩ (fun hHeld => ?_)
         generalize w110.drew = w111 at BK240 BK248 HB hHeld ⊢
         refine zt0 0 30 hHeld ?_; refine zt0 1 31 hHeld ?_
         refine join_ (σ := Nat) 1 #[true, true, true, true, true, false] (fun s_ => [(32, .int .i64 t249), (9, .pointer (some ⟨s_, 0, none⟩)), (33, .agg #[.bool t244, .int .u64 t245, .int .u64 t246, .int .i64 t249])]) (fun s_ w' => (w'.cell? ⟨gb248, 0, none⟩ = some (.bool t244) ∧ w'.cell? ⟨gb248, 1, none⟩ = some (.int .u64 t245) ∧ w'.cell? ⟨gb248, 2, none⟩ = some (.int .u64 t246)) ∧ (w'.heap[gb240]? = some (.cells #[.bool false, .int .u64 0, .int .u64 0, .int .i64 0] 33 (0, 0))) ∧ (w'.heap[gb248]? = some (.cells #[.bool t244, .int .u64 t245, .int .u64 t246] 31 (0, 0))) ∧ (w'.heap[s_]? = some (.cells #[.bool false, .int .u64 0, .int .u64 0, .int .i64 0] 33 (0, 0))) ∧ (w.heap.size ≤ s_) ∧ (w.heap.size ≤ s_) ∧ (gb240 ≠ s_) ∧ (s_ ≠ gb240) ∧ (gb248 ≠ s_) ∧ (s_ ≠ gb248) ∧ (Below w.heap.size w w')) ?_ ?_
         rotate_left
         · intro hCont
           refine two_ (i := 2) (j := 4) (Ni := some 32) (Nj := some 9) #[true, true, true, false, false, false] #[true, true, false, false, true, false] rfl rfl rfl rfl (by kernel_rfl) (by decide) (by decide) (fun K hK => ?_) (fun K hK => ?_)
           · skip
             refine zg Tryz.func92 #[.agg #[.bool t244, .int .u64 t245, .int .u64 t246]] ?_
             with_reducible refine (address_size.calls t244 t245 t246 t249 _ A8.out).mono ?_
             rintro e w112 ⟨rfl, hb⟩
             refine ⟨_, rfl, ?_⟩
             replace BK240 := Aside0.mk (blk_below (g := gb240) (o := .cells #[.bool false, .int .u64 0, .int .u64 0, .int .i64 0] 33 (0, 0)) (zK BK240) hb)
             replace BK248 := Aside0.mk (blk_below (g := gb248) (o := .cells #[.bool t244, .int .u64 t245, .int .u64 t246] 31 (0, 0)) (zK BK248) hb)
             replace HB := Aside0.mk (below_step (zB HB) hb)
             (try clear hb)
             refine hK.out _ _ ⟨zc BK248 0, zc BK248 1, zc BK248 2⟩ (fun hHeld => ?_)
             clear hK K
             refine zn 32 ?_; refine zp0 3 33 ?_; refine zo0 4 9 (fun K hK => ?_)
             refine box_step ?hg (N := 9) ?hd (cs := #[.bool false, .int .u64 0, .int .u64 0, .int .i64 0]) (t := 33) ?hr ?_; (case hd => rfl); (case hg => rfl); (case hr => first | (go_simp; done) | (go_simp; rfl))
             intro gb250 hg w113 hbox hb
             have BK250 := Aside0.mk (hbox)
             have GW250 := Aside0.mk ((by rw [hg]; exact (below_size (zB HB)) : w.heap.size ≤ gb250))
             have GE250 := Aside0.mk ((by rw [hg]; exact (below_size (zB HB)) : w.heap.size ≤ gb250))
             replace HB := Aside0.mk (below_step (zB HB) hb)
             have NB240_250 := Aside0.mk ((by rw [hg]; exact Nat.ne_of_lt (blk_lt (g := gb240) (o := .cells #[.bool false, .int .u64 0, .int .u64 0, .int .i64 0] 33 (0, 0)) (zK BK240)) : gb240 ≠ gb250))
             have NB250_240 := Aside0.mk ((by rw [hg]; exact Nat.ne_of_gt (blk_lt (g := gb240) (o := .cells #[.bool false, .int .u64 0, .int .u64 0, .int .i64 0] 33 (0, 0)) (zK BK240)) : gb250 ≠ gb240))
             replace BK240 := Aside0.mk (blk_below (g := gb240) (o := .cells #[.bool false, .int .u64 0, .int .u64 0, .int .i64 0] 33 (0, 0)) (zK BK240) hb)
             have NB248_250 := Aside0.mk ((by rw [hg]; exact Nat.ne_of_lt (blk_lt (g := gb248) (o := .cells #[.bool t244, .int .u64 t245, .int .u64 t246] 31 (0, 0)) (zK BK248)) : gb248 ≠ gb250))
             have NB250_248 := Aside0.mk ((by rw [hg]; exact Nat.ne_of_gt (blk_lt (g := gb248) (o := .cells #[.bool t244, .int .u64 t245, .int .u64 t246] 31 (0, 0)) (zK BK248)) : gb250 ≠ gb248))
             replace BK248 := Aside0.mk (blk_below (g := gb248) (o := .cells #[.bool t244, .int .u64 t245, .int .u64 t246] 31 (0, 0)) (zK BK248) hb)
             clear hb hbox hg
             refine hK.out _ _ ⟨zc BK248 0, zc BK248 1, zc BK248 2⟩ (fun hHeld => ?_)
             clear hK K
             refine zn 9 ?_
             exact norm_ (by simp only [putAll, Act.put, List.setIfInBounds_toArray, List.set_cons_zero, List.set_cons_succ]) (hCont (gb250) _ ⟨hHeld, (zK BK240), (zK BK248), (zK BK250), GW250.out, GE250.out, NB240_250.out, NB250_240.out, NB248_250.out, NB250_248.out, (zB HB)⟩)
           · skip
             refine box_step ?hg (N := 9) ?hd (cs := #[.bool false, .int .u64 0, .int .u64 0, .int .i64 0]) (t := 33) ?hr ?_; (case hd => rfl); (case hg => rfl); (case hr => first | (go_simp; done) | (go_simp; rfl))
             intro gb250 hg w112 hbox hb
             have BK250 := Aside0.mk (hbox)
             have GW250 := Aside0.mk ((by rw [hg]; exact (below_size (zB HB)) : w.heap.size ≤ gb250))
             have GE250 := Aside0.mk ((by rw [hg]; exact (below_size (zB HB)) : w.heap.size ≤ gb250))
             replace HB := Aside0.mk (below_step (zB HB) hb)
             have NB240_250 := Aside0.mk ((by rw [hg]; exact Nat.ne_of_lt (blk_lt (g := gb240) (o := .cells #[.bool false, .int .u64 0, .int .u64 0, .int .i64 0] 33 (0, 0)) (zK BK240)) : gb240 ≠ gb250))
             have NB250_240 := Aside0.mk ((by rw [hg]; exact Nat.ne_of_gt (blk_lt (g := gb240) (o := .cells #[.bool false, .int .u64 0, .int .u64 0, .int .i64 0] 33 (0, 0)) (zK BK240)) : gb250 ≠ gb240))
             replace BK240 := Aside0.mk (blk_below (g := gb240) (o := .cells #[.bool false, .int .u64 0, .int .u64 0, .int .i64 0] 33 (0, 0)) (zK BK240) hb)
             have NB248_250 := Aside0.mk ((by rw [hg]; exact Nat.ne_of_lt (blk_lt (g := gb248) (o := .cells #[.bool t244, .int .u64 t245, .int .u64 t246] 31 (0, 0)) (zK BK248)) : gb248 ≠ gb250))
             have NB250_248 := Aside0.mk ((by rw [hg]; exact Nat.ne_of_gt (blk_lt (g := gb248) (o := .cells #[.bool t244, .int .u64 t245, .int .u64 t246] 31 (0, 0)) (zK BK248)) : gb250 ≠ gb248))
             replace BK248 := Aside0.mk (blk_below (g := gb248) (o := .cells #[.bool t244, .int .u64 t245, .int .u64 t246] 31 (0, 0)) (zK BK248) hb)
             clear hb hbox hg
             refine hK.out _ _ ⟨zc BK248 0, zc BK248 1, zc BK248 2⟩ (fun hHeld => ?_)
             clear hK K
             refine zn 9 ?_; refine zo0 2 32 (fun K hK => ?_)
             refine zg Tryz.func92 #[.agg #[.bool t244, .int .u64 t245, .int .u64 t246]] ?_
             with_reducible refine (address_size.calls t244 t245 t246 t249 _ A8.out).mono ?_
             rintro e w113 ⟨rfl, hb⟩
             refine ⟨_, rfl, ?_⟩
             replace BK240 := Aside0.mk (blk_below (g := gb240) (o := .cells #[.bool false, .int .u64 0, .int .u64 0, .int .i64 0] 33 (0, 0)) (zK BK240) hb)
             replace BK248 := Aside0.mk (blk_below (g := gb248) (o := .cells #[.bool t244, .int .u64 t245, .int .u64 t246] 31 (0, 0)) (zK BK248) hb)
             replace BK250 := Aside0.mk (blk_below (g := gb250) (o := .cells #[.bool false, .int .u64 0, .int .u64 0, .int .i64 0] 33 (0, 0)) (zK BK250) hb)
             replace HB := Aside0.mk (below_step (zB HB) hb)
             (try clear hb)
             refine hK.out _ _ ⟨zc BK248 0, zc BK248 1, zc BK248 2⟩ (fun hHeld => ?_)
             clear hK K
             refine zn 32 ?_; refine zp0 3 33 ?_
             exact norm_ (by simp only [putAll, Act.put, List.setIfInBounds_toArray, List.set_cons_zero, List.set_cons_succ]) (hCont (gb250) _ ⟨hHeld, (zK BK240), (zK BK248), (zK BK250), GW250.out, GE250.out, NB240_250.out, NB250_240.out, NB248_250.out, NB250_248.out, (zB HB)⟩)
         rintro gb250 w114 ⟨hS_, h0_, h1_, h2_, h3_, h4_, h5_, h6_, h7_, h8_, h9_⟩
         have n0_ : Aside0 (w114.heap[gb240]? = some (.cells #[.bool false, .int .u64 0, .int .u64 0, .int .i64 0] 33 (0, 0))) := ⟨h0_⟩
         have n1_ : Aside0 (w114.heap[gb248]? = some (.cells #[.bool t244, .int .u64 t245, .int .u64 t246] 31 (0, 0))) := ⟨h1_⟩
         have n2_ : Aside0 (w114.heap[gb250]? = some (.cells #[.bool false, .int .u64 0, .int .u64 0, .int .i64 0] 33 (0, 0))) := ⟨h2_⟩
         have n3_ : Aside0 (w.heap.size ≤ gb250) := ⟨h3_⟩
         have n4_ : Aside0 (w.heap.size ≤ gb250) := ⟨h4_⟩
         have n5_ : Aside0 (gb240 ≠ gb250) := ⟨h5_⟩
         have n6_ : Aside0 (gb250 ≠ gb240) := ⟨h6_⟩
         have n7_ : Aside0 (gb248 ≠ gb250) := ⟨h7_⟩
         have n8_ : Aside0 (gb250 ≠ gb248) := ⟨h8_⟩
         have n9_ : Aside0 (Below w.heap.size w w114) := ⟨h9_⟩
         clear BK240
         clear BK248
         clear HB
         clear h0_ h1_ h2_ h3_ h4_ h5_ h6_ h7_ h8_ h9_
         have BK240 := n0_
         have BK248 := n1_
         have BK250 := n2_
         have GW250 := n3_
         have GE250 := n4_
         have NB240_250 := n5_
         have NB250_240 := n6_
         have NB248_250 := n7_
         have NB250_248 := n8_
         have HB := n9_
         clear n0_ n1_ n2_ n3_ n4_ n5_ n6_ n7_ n8_ n9_
         have hHeld : w114.cell? ⟨gb248, 0, none⟩ = some (.bool t244) ∧ w114.cell? ⟨gb248, 1, none⟩ = some (.int .u64 t245) ∧ w114.cell? ⟨gb248, 2, none⟩ = some (.int .u64 t246) := hS_
         refine norm_ (a' := ?_) ?_ ?_
         rotate_left
         · simp only [putAll, Act.put, List.setIfInBounds_toArray, List.set_cons_zero, List.set_cons_succ]
           rfl
         refine one_ (i := 5) (N := none) #[true, true, true, true, true, true] rfl rfl (by kernel_rfl) (by decide) (fun K hK => ?_)
         have hs115 : w114.cell? ⟨gb250, 0, none⟩ = some (.bool false) := zc BK250 0
         have hfs115 := blk_frozen BK250.out 0
         have hns115_0 := NB240_250.out
         have hns115_1 := NB248_250.out
         have hms115_0 := NB250_240.out
         have hms115_1 := NB250_248.out
         have hs116 : w114.cell? ⟨gb250, 1, none⟩ = some (.int .u64 0) := zc BK250 1
         have hfs116 := blk_frozen BK250.out 1
         have hns116_0 := NB240_250.out
         have hns116_1 := NB248_250.out
         have hms116_0 := NB250_240.out
         have hms116_1 := NB250_248.out
         have hs117 : w114.cell? ⟨gb250, 2, none⟩ = some (.int .u64 0) := zc BK250 2
         have hfs117 := blk_frozen BK250.out 2
         have hns117_0 := NB240_250.out
         have hns117_1 := NB248_250.out
         have hms117_0 := NB250_240.out
         have hms117_1 := NB250_248.out
         have hs118 : w114.cell? ⟨gb250, 3, none⟩ = some (.int .i64 0) := zc BK250 3
         have hfs118 := blk_frozen BK250.out 3
         have hns118_0 := NB240_250.out
         have hns118_1 := NB248_250.out
         have hms118_0 := NB250_240.out
         have hms118_1 := NB250_248.out
         refine skip_ (w1 := ?_) (by rfl) rfl ?_ ?_
         rotate_left
         · go_simp
           rfl
         refine hK.out _ _ ⟨((cell_far (p := ⟨gb250, _, none⟩) NB248_250.out _).trans (((cell_far (p := ⟨gb250, _, none⟩) NB248_250.out _).trans (((cell_far (p := ⟨gb250, _, none⟩) NB248_250.out _).trans (((cell_far (p := ⟨gb250, _, none⟩) NB248_250.out _).trans (hHeld.1)))))))), ((cell_far (p := ⟨gb250, _, none⟩) NB248_250.out _).trans (((cell_far (p := ⟨gb250, _, none⟩) NB248_250.out _).trans (((cell_far (p := ⟨gb250, _, none⟩) NB248_250.out _).trans (((cell_far (p := ⟨gb250, _, none⟩) NB248_250.out _).trans (hHeld.2.1)))))))), ((cell_far (p := ⟨gb250, _, none⟩) NB248_250.out _).trans (((cell_far (p := ⟨gb250, _, none⟩) NB248_250.out _).trans (((cell_far (p := ⟨gb250, _, none⟩) NB248_250.out _).trans (((cell_far (p := ⟨gb250, _, none⟩) NB248_250.out _).trans (hHeld.2.2))))))))⟩ (fun hHeld => ?_)
         clear hK K
         refine zd0 ?_
         have hnb119 := NB250_240.out
         have hnc119 := NB240_250.out
         have hnb120 := NB250_248.out
         have hnc120 := NB248_250.out
         obtain ⟨hcz121_0, hcz121_1, hcz121_2, hcz121_3⟩ := zc4 BK250
         obtain ⟨hfz121_0, hfz121_1, hfz121_2, hfz121_3⟩ := zf4 BK250
         try go_wp2_with (first | ((with_reducible refine gate_callee (f := 56) rfl ?_); refine goesL_ (some 53) rfl rfl Tryz.func56 (by kernel_rfl) rfl #[.agg #[.bool t244, .int .u64 t245, .int .u64 t246, .int .i64 t249]] rfl (by (try simp only [List.map_toArray, List.map_cons, List.map_nil]); first | done | rfl | (simp only [List.length_drop, List.length_take]; rfl)) ?_; (with_reducible refine (address_ValidPrefix.calls t244 t245 t246 t249 true _ A102.out).mono ?_); rintro e w122 ⟨rfl, hb⟩; refine ⟨_, rfl, ?_⟩; replace BK240 := Aside0.mk (blk_below (g := gb240) (o := .cells #[.bool false, .int .u64 0, .int .u64 0, .int .i64 0] 33 (0, 0)) (by refine zL ?_; refine blk_far ?_ NB240_250.out _; refine zL ?_; refine blk_far ?_ NB240_250.out _; refine zL ?_; refine blk_far ?_ NB240_250.out _; refine zL ?_; refine blk_far ?_ NB240_250.out _; refine zL ?_; exact BK240.out) hb); replace BK248 := Aside0.mk (blk_below (g := gb248) (o := .cells #[.bool t244, .int .u64 t245, .int .u64 t246] 31 (0, 0)) (by refine zL ?_; refine blk_far ?_ NB248_250.out _; refine zL ?_; refine blk_far ?_ NB248_250.out _; refine zL ?_; refine blk_far ?_ NB248_250.out _; refine zL ?_; refine blk_far ?_ NB248_250.out _; refine zL ?_; exact BK248.out) hb); replace BK250 := Aside0.mk (blk_below (g := gb250) (o := .cells #[.bool t244, .int .u64 t245, .int .u64 t246, .int .i64 t249] 33 (0, 0)) (by refine zL ?_; refine blk_put (cs := #[.bool t244, .int .u64 t245, .int .u64 t246, .int .i64 0]) ?_ 3 _ rfl; refine zL ?_; refine blk_put (cs := #[.bool t244, .int .u64 t245, .int .u64 0, .int .i64 0]) ?_ 2 _ rfl; refine zL ?_; refine blk_put (cs := #[.bool t244, .int .u64 0, .int .u64 0, .int .i64 0]) ?_ 1 _ rfl; refine zL ?_; refine blk_put (cs := #[.bool false, .int .u64 0, .int .u64 0, .int .i64 0]) ?_ 0 _ rfl; refine zL ?_; exact BK250.out) hb); replace HB := Aside0.mk (below_step (zB HB) hb); (try clear hb); obtain ⟨hcz123_0, hcz123_1, hcz123_2, hcz123_3⟩ := zc4 BK250; obtain ⟨hfz123_0, hfz123_1, hfz123_2, hfz123_3⟩ := zf4 BK250; obtain ⟨hcz124_0, hcz124_1, hcz124_2, hcz124_3⟩ := zc4 BK240; obtain ⟨hfz124_0, hfz124_1, hfz124_2, hfz124_3⟩ := zf4 BK240))
         refine bodyPost_ret (results_ct rfl _ _ gb240 33 #[.bool t244, .int .u64 t245, .int .u64 t246, .int .i64 t249] (0, 0) _ rfl (by refine zL ?_; refine blk_put (cs := #[.bool t244, .int .u64 t245, .int .u64 t246, .int .i64 0]) ?_ 3 _ rfl; refine zL ?_; refine blk_put (cs := #[.bool t244, .int .u64 t245, .int .u64 0, .int .i64 0]) ?_ 2 _ rfl; refine zL ?_; refine blk_put (cs := #[.bool t244, .int .u64 0, .int .u64 0, .int .i64 0]) ?_ 1 _ rfl; refine zL ?_; refine blk_put (cs := #[.bool false, .int .u64 0, .int .u64 0, .int .i64 0]) ?_ 0 _ rfl; refine zL ?_; exact BK240.out) Tryz.underlying33 rfl (by kernel_rfl)) rfl ?_
         exact ⟨by first | rfl | (simp [errW_none, errW_some] <;> rfl) | (simp [*, errW_none, errW_some] <;> rfl), by repeat (first | (with_reducible first | exact HB.out | apply below_alloc | apply pw_below_drewN | apply below_drew1 | refine below_set ?_ GE240.out | refine below_set ?_ GE248.out | refine below_set ?_ GE250.out) | exact HB.out)⟩
       · replace c103 := Bool.eq_false_iff.mpr c103
         subst c103
         rw [if_neg zF] at H
         simp only [Option.some.injEq, Prod.mk.injEq] at H
         obtain ⟨rfl, rfl, rfl, rfl, rfl⟩ := H
         go_enter Tryz.func72, Tryz.ntmps72
         try go_wp2_with (first | ((with_reducible refine gate_dst (N := 2) rfl ?_); refine zx 2 #[.bool false, .int .u64 0, .int .u64 0, .int .i64 0] 33 ?_; intro gb240 hg w125 hbox hb; have BK240 := Aside0.mk (hbox); have GW240 := Aside0.mk ((by rw [hg]; exact (below_size (zB HB)) : w.heap.size ≤ gb240)); have GE240 := Aside0.mk ((by rw [hg]; exact (below_size (zB HB)) : w.heap.size ≤ gb240)); replace HB := Aside0.mk (below_step (zB HB) hb); clear hb hbox hg) | ((with_reducible refine gate_callee (f := 104) rfl ?_); refine goesL_ (some 18) rfl rfl Tryz.func104 (by kernel_rfl) rfl #[.string a0, .string (⟨#[47]⟩ : ByteArray)] rfl (by (try simp only [List.map_toArray, List.map_cons, List.map_nil]); first | done | rfl | (simp only [List.length_drop, List.length_take]; rfl)) ?_; (with_reducible refine (strings_Cut.calls a0 (⟨#[47]⟩ : ByteArray) t241 t242 false _ A5.out (WOK.below hW_ (zB HB))).mono ?_); rintro e w126 ⟨rfl, hb⟩; refine ⟨_, rfl, ?_⟩; replace BK240 := Aside0.mk (blk_below (g := gb240) (o := .cells #[.bool false, .int .u64 0, .int .u64 0, .int .i64 0] 33 (0, 0)) (zK BK240) hb); replace HB := Aside0.mk (below_step (zB HB) hb); (try clear hb)) | ((with_reducible refine gate_callee (f := 105) rfl ?_); refine goesL_ (some 24) rfl rfl Tryz.func105 (by kernel_rfl) rfl #[.string t241] rfl (by (try simp only [List.map_toArray, List.map_cons, List.map_nil]); first | done | rfl | (simp only [List.length_drop, List.length_take]; rfl)) ?_; (with_reducible refine (address_Parse.calls k t241 t244 t245 t246 t247 _ A6.out (WOK.below hW_ (zB HB))).mono ?_); rintro e w127 ⟨rfl, hb⟩; refine ⟨_, rfl, ?_⟩; replace BK240 := Aside0.mk (blk_below (g := gb240) (o := .cells #[.bool false, .int .u64 0, .int .u64 0, .int .i64 0] 33 (0, 0)) (zK BK240) hb); replace HB := Aside0.mk (below_step (zB HB) hb); (try clear hb)) | ((with_reducible refine gate_dst (N := 7) rfl ?_); refine zx 7 #[.bool false, .int .u64 0, .int .u64 0] 31 ?_; intro gb248 hg w128 hbox hb; have BK248 := Aside0.mk (hbox); have GW248 := Aside0.mk ((by rw [hg]; exact (below_size (zB HB)) : w.heap.size ≤ gb248)); have GE248 := Aside0.mk ((by rw [hg]; exact (below_size (zB HB)) : w.heap.size ≤ gb248)); replace HB := Aside0.mk (below_step (zB HB) hb); have NB240_248 := Aside0.mk ((by rw [hg]; exact Nat.ne_of_lt (blk_lt (g := gb240) (o := .cells #[.bool false, .int .u64 0, .int .u64 0, .int .i64 0] 33 (0, 0)) (zK BK240)) : gb240 ≠ gb248)); have NB248_240 := Aside0.mk ((by rw [hg]; exact Nat.ne_of_gt (blk_lt (g := gb240) (o := .cells #[.bool false, .int .u64 0, .int .u64 0, .int .i64 0] 33 (0, 0)) (zK BK240)) : gb248 ≠ gb240)); replace BK240 := Aside0.mk (blk_below (g := gb240) (o := .cells #[.bool false, .int .u64 0, .int .u64 0, .int .i64 0] 33 (0, 0)) (zK BK240) hb); clear hb hbox hg; have hnb129 := NB248_240.out; have hnc129 := NB240_248.out; obtain ⟨hcz130_0, hcz130_1, hcz130_2⟩ := zc3 BK248; obtain ⟨hfz130_0, hfz130_1, hfz130_2⟩ := zf3 BK248))
         have n0_ : Aside0 ((((w128.setCell ⟨gb248, 0, none⟩ (.bool t244)).setCell ⟨gb248, 1, none⟩ (.int .u64 t245)).setCell ⟨gb248, 2, none⟩ (.int .u64 t246)).heap[gb240]? = some (.cells #[.bool false, .int .u64 0, .int .u64 0, .int .i64 0] 33 (0, 0))) := ⟨by refine zL ?_; refine blk_far ?_ NB240_248.out _; refine zL ?_; refine blk_far ?_ NB240_248.out _; refine zL ?_; refine blk_far ?_ NB240_248.out _; refine zL ?_; exact BK240.out⟩
         have n1_ : Aside0 ((((w128.setCell ⟨gb248, 0, none⟩ (.bool t244)).setCell ⟨gb248, 1, none⟩ (.int .u64 t245)).setCell ⟨gb248, 2, none⟩ (.int .u64 t246)).heap[gb248]? = some (.cells #[.bool t244, .int .u64 t245, .int .u64 t246] 31 (0, 0))) := ⟨by refine zL ?_; refine blk_put (cs := #[.bool t244, .int .u64 t245, .int .u64 0]) ?_ 2 _ rfl; refine zL ?_; refine blk_put (cs := #[.bool t244, .int .u64 0, .int .u64 0]) ?_ 1 _ rfl; refine zL ?_; refine blk_put (cs := #[.bool false, .int .u64 0, .int .u64 0]) ?_ 0 _ rfl; refine zL ?_; exact BK248.out⟩
         have n2_ : Aside0 (Below w.heap.size w (((w128.setCell ⟨gb248, 0, none⟩ (.bool t244)).setCell ⟨gb248, 1, none⟩ (.int .u64 t245)).setCell ⟨gb248, 2, none⟩ (.int .u64 t246))) := ⟨zB HB⟩
         (try clear BK240)
         (try clear BK248)
         (try clear HB)
         generalize (((w128.setCell ⟨gb248, 0, none⟩ (.bool t244)).setCell ⟨gb248, 1, none⟩ (.int .u64 t245)).setCell ⟨gb248, 2, none⟩ (.int .u64 t246)) = w131 at n0_ n1_ n2_ ⊢
         have BK240 := n0_
         have BK248 := n1_
         have HB := n2_
         clear n0_ n1_ n2_
         replace BK240 := Aside0.mk (blk_drew BK240.out)
         replace BK248 := Aside0.mk (blk_drew BK248.out)
         replace HB := Aside0.mk (below_drew1 HB.out)
         refine start_ (n := 6) (S := fun w' => w'.cell? ⟨gb248, 0, none⟩ = some (.bool t244) ∧ w'.cell? ⟨gb248, 1, none⟩ = some (.int .u64 t245) ∧ w'.cell? ⟨gb248, 2, none⟩ = some (.int .u64 t246)) (ds := []) #[false, false, false, false, false, false] (by kernel_rfl) rfl rfl ⟨zc BK248 0, zc BK248 1, zc BK248 2⟩ (fun hHeld => ?_)
         generalize w131.drew = w132 at BK240 BK248 HB hHeld ⊢
         refine zt0 0 30 hHeld ?_; refine zt0 1 31 hHeld ?_
         refine join_ (σ := Nat) 1 #[true, true, true, true, true, false] (fun s_ => [(32, .int .i64 t249), (9, .pointer (some ⟨s_, 0, none⟩)), (33, .agg #[.bool t244, .int .u64 t245, .int .u64 t246, .int .i64 t249])]) (fun s_ w' => (w'.cell? ⟨gb248, 0, none⟩ = some (.bool t244) ∧ w'.cell? ⟨gb248, 1, none⟩ = some (.int .u64 t245) ∧ w'.cell? ⟨gb248, 2, none⟩ = some (.int .u64 t246)) ∧ (w'.heap[gb240]? = some (.cells #[.bool false, .int .u64 0, .int .u64 0, .int .i64 0] 33 (0, 0))) ∧ (w'.heap[gb248]? = some (.cells #[.bool t244, .int .u64 t245, .int .u64 t246] 31 (0, 0))) ∧ (w'.heap[s_]? = some (.cells #[.bool false, .int .u64 0, .int .u64 0, .int .i64 0] 33 (0, 0))) ∧ (w.heap.size ≤ s_) ∧ (w.heap.size ≤ s_) ∧ (gb240 ≠ s_) ∧ (s_ ≠ gb240) ∧ (gb248 ≠ s_) ∧ (s_ ≠ gb248) ∧ (Below w.heap.size w w')) ?_ ?_
         rotate_left
         · intro hCont
           refine two_ (i := 2) (j := 4) (Ni := some 32) (Nj := some 9) #[true, true, true, false, false, false] #[true, true, false, false, true, false] rfl rfl rfl rfl (by kernel_rfl) (by decide) (by decide) (fun K hK => ?_) (fun K hK => ?_)
           · skip
             refine zg Tryz.func92 #[.agg #[.bool t244, .int .u64 t245, .int .u64 t246]] ?_
             with_reducible refine (address_size.calls t244 t245 t246 t249 _ A8.out).mono ?_
             rintro e w133 ⟨rfl, hb⟩
             refine ⟨_, rfl, ?_⟩
             replace BK240 := Aside0.mk (blk_below (g := gb240) (o := .cells #[.bool false, .int .u64 0, .int .u64 0, .int .i64 0] 33 (0, 0)) (zK BK240) hb)
             replace BK248 := Aside0.mk (blk_below (g := gb248) (o := .cells #[.bool t244, .int .u64 t245, .int .u64 t246] 31 (0, 0)) (zK BK248) hb)
             replace HB := Aside0.mk (below_step (zB HB) hb)
             (try clear hb)
             refine hK.out _ _ ⟨zc BK248 0, zc BK248 1, zc BK248 2⟩ (fun hHeld => ?_)
             clear hK K
             refine zn 32 ?_; refine zp0 3 33 ?_; refine zo0 4 9 (fun K hK => ?_)
             refine box_step ?hg (N := 9) ?hd (cs := #[.bool false, .int .u64 0, .int .u64 0, .int .i64 0]) (t := 33) ?hr ?_; (case hd => rfl); (case hg => rfl); (case hr => first | (go_simp; done) | (go_simp; rfl))
             intro gb250 hg w134 hbox hb
             have BK250 := Aside0.mk (hbox)
             have GW250 := Aside0.mk ((by rw [hg]; exact (below_size (zB HB)) : w.heap.size ≤ gb250))
             have GE250 := Aside0.mk ((by rw [hg]; exact (below_size (zB HB)) : w.heap.size ≤ gb250))
             replace HB := Aside0.mk (below_step (zB HB) hb)
             have NB240_250 := Aside0.mk ((by rw [hg]; exact Nat.ne_of_lt (blk_lt (g := gb240) (o := .cells #[.bool false, .int .u64 0, .int .u64 0, .int .i64 0] 33 (0, 0)) (zK BK240)) : gb240 ≠ gb250))
             have NB250_240 := Aside0.mk ((by rw [hg]; exact Nat.ne_of_gt (blk_lt (g := gb240) (o := .cells #[.bool false, .int .u64 0, .int .u64 0, .int .i64 0] 33 (0, 0)) (zK BK240)) : gb250 ≠ gb240))
             replace BK240 := Aside0.mk (blk_below (g := gb240) (o := .cells #[.bool false, .int .u64 0, .int .u64 0, .int .i64 0] 33 (0, 0)) (zK BK240) hb)
             have NB248_250 := Aside0.mk ((by rw [hg]; exact Nat.ne_of_lt (blk_lt (g := gb248) (o := .cells #[.bool t244, .int .u64 t245, .int .u64 t246] 31 (0, 0)) (zK BK248)) : gb248 ≠ gb250))
             have NB250_248 := Aside0.mk ((by rw [hg]; exact Nat.ne_of_gt (blk_lt (g := gb248) (o := .cells #[.bool t244, .int .u64 t245, .int .u64 t246] 31 (0, 0)) (zK BK248)) : gb250 ≠ gb248))
             replace BK248 := Aside0.mk (blk_below (g := gb248) (o := .cells #[.bool t244, .int .u64 t245, .int .u64 t246] 31 (0, 0)) (zK BK248) hb)
             clear hb hbox hg
             refine hK.out _ _ ⟨zc BK248 0, zc BK248 1, zc BK248 2⟩ (fun hHeld => ?_)
             clear hK K
             refine zn 9 ?_
             exact norm_ (by simp only [putAll, Act.put, List.setIfInBounds_toArray, List.set_cons_zero, List.set_cons_succ]) (hCont (gb250) _ ⟨hHeld, (zK BK240), (zK BK248), (zK BK250), GW250.out, GE250.out, NB240_250.out, NB250_240.out, NB248_250.out, NB250_248.out, (zB HB)⟩)
           · skip
             refine box_step ?hg (N := 9) ?hd (cs := #[.bool false, .int .u64 0, .int .u64 0, .int .i64 0]) (t := 33) ?hr ?_; (case hd => rfl); (case hg => rfl); (case hr => first | (go_simp; done) | (go_simp; rfl))
             intro gb250 hg w133 hbox hb
             have BK250 := Aside0.mk (hbox)
             have GW250 := Aside0.mk ((by rw [hg]; exact (below_size (zB HB)) : w.heap.size ≤ gb250))
             have GE250 := Aside0.mk ((by rw [hg]; exact (below_size (zB HB)) : w.heap.size ≤ gb250))
             replace HB := Aside0.mk (below_step (zB HB) hb)
             have NB240_250 := Aside0.mk ((by rw [hg]; exact Nat.ne_of_lt (blk_lt (g := gb240) (o := .cells #[.bool false, .int .u64 0, .int .u64 0, .int .i64 0] 33 (0, 0)) (zK BK240)) : gb240 ≠ gb250))
             have NB250_240 := Aside0.mk ((by rw [hg]; exact Nat.ne_of_gt (blk_lt (g := gb240) (o := .cells #[.bool false, .int .u64 0, .int .u64 0, .int .i64 0] 33 (0, 0)) (zK BK240)) : gb250 ≠ gb240))
             replace BK240 := Aside0.mk (blk_below (g := gb240) (o := .cells #[.bool false, .int .u64 0, .int .u64 0, .int .i64 0] 33 (0, 0)) (zK BK240) hb)
             have NB248_250 := Aside0.mk ((by rw [hg]; exact Nat.ne_of_lt (blk_lt (g := gb248) (o := .cells #[.bool t244, .int .u64 t245, .int .u64 t246] 31 (0, 0)) (zK BK248)) : gb248 ≠ gb250))
             have NB250_248 := Aside0.mk ((by rw [hg]; exact Nat.ne_of_gt (blk_lt (g := gb248) (o := .cells #[.bool t244, .int .u64 t245, .int .u64 t246] 31 (0, 0)) (zK BK248)) : gb250 ≠ gb248))
             replace BK248 := Aside0.mk (blk_below (g := gb248) (o := .cells #[.bool t244, .int .u64 t245, .int .u64 t246] 31 (0, 0)) (zK BK248) hb)
             clear hb hbox hg
             refine hK.out _ _ ⟨zc BK248 0, zc BK248 1, zc BK248 2⟩ (fun hHeld => ?_)
             clear hK K
             refine zn 9 ?_; refine zo0 2 32 (fun K hK => ?_)
             refine zg Tryz.func92 #[.agg #[.bool t244, .int .u64 t245, .int .u64 t246]] ?_
             with_reducible refine (address_size.calls t244 t245 t246 t249 _ A8.out).mono ?_
             rintro e w134 ⟨rfl, hb⟩
             refine ⟨_, rfl, ?_⟩
             replace BK240 := Aside0.mk (blk_below (g := gb240) (o := .cells #[.bool false, .int .u64 0, .int .u64 0, .int .i64 0] 33 (0, 0)) (zK BK240) hb)
             replace BK248 := Aside0.mk (blk_below (g := gb248) (o := .cells #[.bool t244, .int .u64 t245, .int .u64 t246] 31 (0, 0)) (zK BK248) hb)
             replace BK250 := Aside0.mk (blk_below (g := gb250) (o := .cells #[.bool false, .int .u64 0, .int .u64 0, .int .i64 0] 33 (0, 0)) (zK BK250) hb)
             replace HB := Aside0.mk (below_step (zB HB) hb)
             (try clear hb)
             refine hK.out _ _ ⟨zc BK248 0, zc BK248 1, zc BK248 2⟩ (fun hHeld => ?_)
             clear hK K
             refine zn 32 ?_; refine zp0 3 33 ?_
             exact norm_ (by simp only [putAll, Act.put, List.setIfInBounds_toArray, List.set_cons_zero, List.set_cons_succ]) (hCont (gb250) _ ⟨hHeld, (zK BK240), (zK BK248), (zK BK250), GW250.out, GE250.out, NB240_250.out, NB250_240.out, NB248_250.out, NB250_248.out, (zB HB)⟩)
         rintro gb250 w135 ⟨hS_, h0_, h1_, h2_, h3_, h4_, h5_, h6_, h7_, h8_, h9_⟩
         have n0_ : Aside0 (w135.heap[gb240]? = some (.cells #[.bool false, .int .u64 0, .int .u64 0, .int .i64 0] 33 (0, 0))) := ⟨h0_⟩
         have n1_ : Aside0 (w135.heap[gb248]? = some (.cells #[.bool t244, .int .u64 t245, .int .u64 t246] 31 (0, 0))) := ⟨h1_⟩
         have n2_ : Aside0 (w135.heap[gb250]? = some (.cells #[.bool false, .int .u64 0, .int .u64 0, .int .i64 0] 33 (0, 0))) := ⟨h2_⟩
         have n3_ : Aside0 (w.heap.size ≤ gb250) := ⟨h3_⟩
         have n4_ : Aside0 (w.heap.size ≤ gb250) := ⟨h4_⟩
         have n5_ : Aside0 (gb240 ≠ gb250) := ⟨h5_⟩
         have n6_ : Aside0 (gb250 ≠ gb240) := ⟨h6_⟩
         have n7_ : Aside0 (gb248 ≠ gb250) := ⟨h7_⟩
         have n8_ : Aside0 (gb250 ≠ gb248) := ⟨h8_⟩
         have n9_ : Aside0 (Below w.heap.size w w135) := ⟨h9_⟩
         clear BK240
         clear BK248
         clear HB
         clear h0_ h1_ h2_ h3_ h4_ h5_ h6_ h7_ h8_ h9_
         have BK240 := n0_
         have BK248 := n1_
         have BK250 := n2_
         have GW250 := n3_
         have GE250 := n4_
         have NB240_250 := n5_
         have NB250_240 := n6_
         have NB248_250 := n7_
         have NB250_248 := n8_
         have HB := n9_
         clear n0_ n1_ n2_ n3_ n4_ n5_ n6_ n7_ n8_ n9_
         have hHeld : w135.cell? ⟨gb248, 0, none⟩ = some (.bool t244) ∧ w135.cell? ⟨gb248, 1, none⟩ = some (.int .u64 t245) ∧ w135.cell? ⟨gb248, 2, none⟩ = some (.int .u64 t246) := hS_
         refine norm_ (a' := ?_) ?_ ?_
         rotate_left
         · simp only [putAll, Act.put, List.setIfInBounds_toArray, List.set_cons_zero, List.set_cons_succ]
           rfl
         refine one_ (i := 5) (N := none) #[true, true, true, true, true, true] rfl rfl (by kernel_rfl) (by decide) (fun K hK => ?_)
         have hs136 : w135.cell? ⟨gb250, 0, none⟩ = some (.bool false) := zc BK250 0
         have hfs136 := blk_frozen BK250.out 0
         have hns136_0 := NB240_250.out
         have hns136_1 := NB248_250.out
         have hms136_0 := NB250_240.out
         have hms136_1 := NB250_248.out
         have hs137 : w135.cell? ⟨gb250, 1, none⟩ = some (.int .u64 0) := zc BK250 1
         have hfs137 := blk_frozen BK250.out 1
         have hns137_0 := NB240_250.out
         have hns137_1 := NB248_250.out
         have hms137_0 := NB250_240.out
         have hms137_1 := NB250_248.out
         have hs138 : w135.cell? ⟨gb250, 2, none⟩ = some (.int .u64 0) := zc BK250 2
         have hfs138 := blk_frozen BK250.out 2
         have hns138_0 := NB240_250.out
         have hns138_1 := NB248_250.out
         have hms138_0 := NB250_240.out
         have hms138_1 := NB250_248.out
         have hs139 : w135.cell? ⟨gb250, 3, none⟩ = some (.int .i64 0) := zc BK250 3
         have hfs139 := blk_frozen BK250.out 3
         have hns139_0 := NB240_250.out
         have hns139_1 := NB248_250.out
         have hms139_0 := NB250_240.out
         have hms139_1 := NB250_248.out
         refine skip_ (w1 := ?_) (by rfl) rfl ?_ ?_
         rotate_left
         · go_simp
           rfl
         refine hK.out _ _ ⟨((cell_far (p := ⟨gb250, _, none⟩) NB248_250.out _).trans (((cell_far (p := ⟨gb250, _, none⟩) NB248_250.out _).trans (((cell_far (p := ⟨gb250, _, none⟩) NB248_250.out _).trans (((cell_far (p := ⟨gb250, _, none⟩) NB248_250.out _).trans (hHeld.1)))))))), ((cell_far (p := ⟨gb250, _, none⟩) NB248_250.out _).trans (((cell_far (p := ⟨gb250, _, none⟩) NB248_250.out _).trans (((cell_far (p := ⟨gb250, _, none⟩) NB248_250.out _).trans (((cell_far (p := ⟨gb250, _, none⟩) NB248_250.out _).trans (hHeld.2.1)))))))), ((cell_far (p := ⟨gb250, _, none⟩) NB248_250.out _).trans (((cell_far (p := ⟨gb250, _, none⟩) NB248_250.out _).trans (((cell_far (p := ⟨gb250, _, none⟩) NB248_250.out _).trans (((cell_far (p := ⟨gb250, _, none⟩) NB248_250.out _).trans (hHeld.2.2))))))))⟩ (fun hHeld => ?_)
         clear hK K
         refine zd0 ?_
         have hnb140 := NB250_240.out
         have hnc140 := NB240_250.out
         have hnb141 := NB250_248.out
         have hnc141 := NB248_250.out
         obtain ⟨hcz142_0, hcz142_1, hcz142_2, hcz142_3⟩ := zc4 BK250
         obtain ⟨hfz142_0, hfz142_1, hfz142_2, hfz142_3⟩ := zf4 BK250
         try go_wp2_with (first | ((with_reducible refine gate_callee (f := 56) rfl ?_); refine goesL_ (some 53) rfl rfl Tryz.func56 (by kernel_rfl) rfl #[.agg #[.bool t244, .int .u64 t245, .int .u64 t246, .int .i64 t249]] rfl (by (try simp only [List.map_toArray, List.map_cons, List.map_nil]); first | done | rfl | (simp only [List.length_drop, List.length_take]; rfl)) ?_; (with_reducible refine (address_ValidPrefix.calls t244 t245 t246 t249 false _ A102.out).mono ?_); rintro e w143 ⟨rfl, hb⟩; refine ⟨_, rfl, ?_⟩; replace BK240 := Aside0.mk (blk_below (g := gb240) (o := .cells #[.bool false, .int .u64 0, .int .u64 0, .int .i64 0] 33 (0, 0)) (by refine zL ?_; refine blk_far ?_ NB240_250.out _; refine zL ?_; refine blk_far ?_ NB240_250.out _; refine zL ?_; refine blk_far ?_ NB240_250.out _; refine zL ?_; refine blk_far ?_ NB240_250.out _; refine zL ?_; exact BK240.out) hb); replace BK248 := Aside0.mk (blk_below (g := gb248) (o := .cells #[.bool t244, .int .u64 t245, .int .u64 t246] 31 (0, 0)) (by refine zL ?_; refine blk_far ?_ NB248_250.out _; refine zL ?_; refine blk_far ?_ NB248_250.out _; refine zL ?_; refine blk_far ?_ NB248_250.out _; refine zL ?_; refine blk_far ?_ NB248_250.out _; refine zL ?_; exact BK248.out) hb); replace BK250 := Aside0.mk (blk_below (g := gb250) (o := .cells #[.bool t244, .int .u64 t245, .int .u64 t246, .int .i64 t249] 33 (0, 0)) (by refine zL ?_; refine blk_put (cs := #[.bool t244, .int .u64 t245, .int .u64 t246, .int .i64 0]) ?_ 3 _ rfl; refine zL ?_; refine blk_put (cs := #[.bool t244, .int .u64 t245, .int .u64 0, .int .i64 0]) ?_ 2 _ rfl; refine zL ?_; refine blk_put (cs := #[.bool t244, .int .u64 0, .int .u64 0, .int .i64 0]) ?_ 1 _ rfl; refine zL ?_; refine blk_put (cs := #[.bool false, .int .u64 0, .int .u64 0, .int .i64 0]) ?_ 0 _ rfl; refine zL ?_; exact BK250.out) hb); replace HB := Aside0.mk (below_step (zB HB) hb); (try clear hb); obtain ⟨hcz144_0, hcz144_1, hcz144_2, hcz144_3⟩ := zc4 BK240; obtain ⟨hfz144_0, hfz144_1, hfz144_2, hfz144_3⟩ := zf4 BK240))
         refine bodyPost_ret (results_ct rfl _ _ gb240 33 #[.bool false, .int .u64 0, .int .u64 0, .int .i64 0] (0, 0) _ rfl (by refine zL ?_; refine blk_put (cs := #[.bool false, .int .u64 0, .int .u64 0, .int .i64 0]) ?_ 3 _ rfl; refine zL ?_; refine blk_put (cs := #[.bool false, .int .u64 0, .int .u64 0, .int .i64 0]) ?_ 2 _ rfl; refine zL ?_; refine blk_put (cs := #[.bool false, .int .u64 0, .int .u64 0, .int .i64 0]) ?_ 1 _ rfl; refine zL ?_; refine blk_put (cs := #[.bool false, .int .u64 0, .int .u64 0, .int .i64 0]) ?_ 0 _ rfl; refine zL ?_; exact BK240.out) Tryz.underlying33 rfl (by kernel_rfl)) rfl ?_
         exact ⟨by first | rfl | (simp [errW_none, errW_some] <;> rfl) | (simp [*, errW_none, errW_some] <;> rfl), by repeat (first | (with_reducible first | exact HB.out | apply below_alloc | apply pw_below_drewN | apply below_drew1 | refine below_set ?_ GE240.out | refine below_set ?_ GE248.out | refine below_set ?_ GE250.out) | exact HB.out)⟩
   · rw [if_neg c7] at H
     have c7b0 : (t247 == 0) = false := beq_eq_false_iff_ne.mpr c7
     have c7b1 : (t247 != 0) = true := bne_iff_ne.mpr c7
     simp only [Option.some.injEq, Prod.mk.injEq] at H
     obtain ⟨rfl, rfl, rfl, rfl, rfl⟩ := H
     go_enter Tryz.func72, Tryz.ntmps72
     go_wp2_with (first | ((with_reducible refine gate_dst (N := 2) rfl ?_); refine zx 2 #[.bool false, .int .u64 0, .int .u64 0, .int .i64 0] 33 ?_; intro gb240 hg w145 hbox hb; have BK240 := Aside0.mk (hbox); have GW240 := Aside0.mk ((by rw [hg]; exact (below_size (zB HB)) : w.heap.size ≤ gb240)); have GE240 := Aside0.mk ((by rw [hg]; exact (below_size (zB HB)) : w.heap.size ≤ gb240)); replace HB := Aside0.mk (below_step (zB HB) hb); clear hb hbox hg) | ((with_reducible refine gate_callee (f := 104) rfl ?_); refine goesL_ (some 18) rfl rfl Tryz.func104 (by kernel_rfl) rfl #[.string a0, .string (⟨#[47]⟩ : ByteArray)] rfl (by (try simp only [List.map_toArray, List.map_cons, List.map_nil]); first | done | rfl | (simp only [List.length_drop, List.length_take]; rfl)) ?_; (with_reducible refine (strings_Cut.calls a0 (⟨#[47]⟩ : ByteArray) t241 t242 t243 _ A5.out (WOK.below hW_ (zB HB))).mono ?_); rintro e w146 ⟨rfl, hb⟩; refine ⟨_, rfl, ?_⟩; replace BK240 := Aside0.mk (blk_below (g := gb240) (o := .cells #[.bool false, .int .u64 0, .int .u64 0, .int .i64 0] 33 (0, 0)) (zK BK240) hb); replace HB := Aside0.mk (below_step (zB HB) hb); (try clear hb)) | ((with_reducible refine gate_callee (f := 105) rfl ?_); refine goesL_ (some 24) rfl rfl Tryz.func105 (by kernel_rfl) rfl #[.string t241] rfl (by (try simp only [List.map_toArray, List.map_cons, List.map_nil]); first | done | rfl | (simp only [List.length_drop, List.length_take]; rfl)) ?_; (with_reducible refine (address_Parse.calls k t241 t244 t245 t246 t247 _ A6.out (WOK.below hW_ (zB HB))).mono ?_); rintro e w147 ⟨rfl, hb⟩; refine ⟨_, rfl, ?_⟩; replace BK240 := Aside0.mk (blk_below (g := gb240) (o := .cells #[.bool false, .int .u64 0, .int .u64 0, .int .i64 0] 33 (0, 0)) (zK BK240) hb); replace HB := Aside0.mk (below_step (zB HB) hb); (try clear hb)) | ((with_reducible refine gate_dst (N := 7) rfl ?_); refine zx 7 #[.bool false, .int .u64 0, .int .u64 0] 31 ?_; intro gb248 hg w148 hbox hb; have BK248 := Aside0.mk (hbox); have GW248 := Aside0.mk ((by rw [hg]; exact (below_size (zB HB)) : w.heap.size ≤ gb248)); have GE248 := Aside0.mk ((by rw [hg]; exact (below_size (zB HB)) : w.heap.size ≤ gb248)); replace HB := Aside0.mk (below_step (zB HB) hb); have NB240_248 := Aside0.mk ((by rw [hg]; exact Nat.ne_of_lt (blk_lt (g := gb240) (o := .cells #[.bool false, .int .u64 0, .int .u64 0, .int .i64 0] 33 (0, 0)) (zK BK240)) : gb240 ≠ gb248)); have NB248_240 := Aside0.mk ((by rw [hg]; exact Nat.ne_of_gt (blk_lt (g := gb240) (o := .cells #[.bool false, .int .u64 0, .int .u64 0, .int .i64 0] 33 (0, 0)) (zK BK240)) : gb248 ≠ gb240)); replace BK240 := Aside0.mk (blk_below (g := gb240) (o := .cells #[.bool false, .int .u64 0, .int .u64 0, .int .i64 0] 33 (0, 0)) (zK BK240) hb); clear hb hbox hg; have hnb149 := NB248_240.out; have hnc149 := NB240_248.out; obtain ⟨hcz150_0, hcz150_1, hcz150_2⟩ := zc3 BK248; obtain ⟨hfz150_0, hfz150_1, hfz150_2⟩ := zf3 BK248; obtain ⟨hcz151_0, hcz151_1, hcz151_2, hcz151_3⟩ := zc4 BK240; obtain ⟨hfz151_0, hfz151_1, hfz151_2, hfz151_3⟩ := zf4 BK240))
     refine bodyPost_ret (results_ct rfl _ _ gb240 33 #[.bool false, .int .u64 0, .int .u64 0, .int .i64 0] (0, 0) _ rfl (by refine zL ?_; refine blk_put (cs := #[.bool false, .int .u64 0, .int .u64 0, .int .i64 0]) ?_ 3 _ rfl; refine zL ?_; refine blk_put (cs := #[.bool false, .int .u64 0, .int .u64 0, .int .i64 0]) ?_ 2 _ rfl; refine zL ?_; refine blk_put (cs := #[.bool false, .int .u64 0, .int .u64 0, .int .i64 0]) ?_ 1 _ rfl; refine zL ?_; refine blk_put (cs := #[.bool false, .int .u64 0, .int .u64 0, .int .i64 0]) ?_ 0 _ rfl; refine zL ?_; refine blk_far ?_ NB240_248.out _; refine zL ?_; refine blk_far ?_ NB240_248.out _; refine zL ?_; refine blk_far ?_ NB240_248.out _; refine zL ?_; exact BK240.out) Tryz.underlying33 rfl (by kernel_rfl)) rfl ?_
     exact ⟨by first | rfl | (simp [errW_none, errW_some] <;> rfl) | (simp [*, errW_none, errW_some] <;> rfl), by repeat (first | (with_reducible first | exact HB.out | apply below_alloc | apply pw_below_drewN | apply below_drew1 | refine below_set ?_ GE240.out | refine below_set ?_ GE248.out) | exact HB.out)⟩
end Go.Proofs.YtnphnhkinjppjaaGreatDoor.Q
end

section
namespace Go.Proofs.YtnphnhkinjppjaaGreatDoor.Q
open Go.RowKit Go.Proofs.YtnphnhkinjppjaaGreatDoorW.PrintWords Go.Proofs.YtnphnhkinjppjaaGreatDoorW.PrintLast Go.Proofs.YtnphnhkinjppjaaGreatDoorW.PrintMore
attribute [local go_sem] max2_int min2_int max_two min_two max_three min_three max_four min_four
set_option linter.unusedVariables false
set_option linter.unusedSimpArgs false
def asset_policies.f  : Option (List ByteArray) := some (([(⟨#[102, 105, 114, 115, 116]⟩ : ByteArray), (⟨#[108, 97, 115, 116]⟩ : ByteArray), (⟨#[98, 115, 100]⟩ : ByteArray), (⟨#[108, 105, 110, 117, 120]⟩ : ByteArray), (⟨#[100, 114, 111, 112]⟩ : ByteArray)] : List ByteArray))
set_option maxHeartbeats 8000000 in
set_option maxRecDepth 100000 in
theorem asset_policies.calls  (r : List ByteArray) (w : World) (h : asset_policies.f  = some r) :
 Calls Tryz.prog 43 #[] w fun e w' => ∃ v0_ : Value, e = .returned (v0_) ∧ Kd.R Kd.string 9 w' w.heap.size (fun _ => True) v0_ r ∧ Below w.heap.size w w' := by
 have HB := Aside0.mk (Below.refl w.heap.size w)
 unfold asset_policies.f at h; have H := h
 clear h
 obtain ⟨y137, hy137⟩ : ∃ y_ : List ByteArray, y_ = (([(⟨#[102, 105, 114, 115, 116]⟩ : ByteArray), (⟨#[108, 97, 115, 116]⟩ : ByteArray), (⟨#[98, 115, 100]⟩ : ByteArray), (⟨#[108, 105, 110, 117, 120]⟩ : ByteArray), (⟨#[100, 114, 111, 112]⟩ : ByteArray)] : List ByteArray)) := ⟨_, rfl⟩
 rw [← hy137] at H; try dsimp only [Option.bind_some] at H
 have Ny137 := Aside0.mk hy137
 clear hy137
 obtain rfl := Option.some.inj H
 go_enter Tryz.func43, Tryz.ntmps43
 go_wp2_with (first | ((with_reducible refine gate_dst (N := 1) rfl ?_); refine Kd.R_lit Kd.string _ 9 ?hg (N := 1) ?hd (xs := ([(⟨#[102, 105, 114, 115, 116]⟩ : ByteArray), (⟨#[108, 97, 115, 116]⟩ : ByteArray), (⟨#[98, 115, 100]⟩ : ByteArray), (⟨#[108, 105, 110, 117, 120]⟩ : ByteArray), (⟨#[100, 114, 111, 112]⟩ : ByteArray)] : List ByteArray)) (inner := [.string (⟨#[102, 105, 114, 115, 116]⟩ : ByteArray), .string (⟨#[108, 97, 115, 116]⟩ : ByteArray), .string (⟨#[98, 115, 100]⟩ : ByteArray), .string (⟨#[108, 105, 110, 117, 120]⟩ : ByteArray), .string (⟨#[100, 114, 111, 112]⟩ : ByteArray)]) (ok := fun _ => True) (okp := fun _ => True) ?hr ?hp (fun _ hk => hk) trivial (Below.refl _ _) (Nat.le_refl _) (by simp) ?_; (case hd => rfl); (case hg => rfl); (case hr => first | (go_simp; done) | (go_simp; rfl)); (case hp => exact (Reps.one (show Kd.M Kd.string _ _ _ (⟨#[102, 105, 114, 115, 116]⟩ : ByteArray) [.string (⟨#[102, 105, 114, 115, 116]⟩ : ByteArray)] from rfl) (Reps.one (show Kd.M Kd.string _ _ _ (⟨#[108, 97, 115, 116]⟩ : ByteArray) [.string (⟨#[108, 97, 115, 116]⟩ : ByteArray)] from rfl) (Reps.one (show Kd.M Kd.string _ _ _ (⟨#[98, 115, 100]⟩ : ByteArray) [.string (⟨#[98, 115, 100]⟩ : ByteArray)] from rfl) (Reps.one (show Kd.M Kd.string _ _ _ (⟨#[108, 105, 110, 117, 120]⟩ : ByteArray) [.string (⟨#[108, 105, 110, 117, 120]⟩ : ByteArray)] from rfl) (Reps.one (show Kd.M Kd.string _ _ _ (⟨#[100, 114, 111, 112]⟩ : ByteArray) [.string (⟨#[100, 114, 111, 112]⟩ : ByteArray)] from rfl) (Reps.none _ _))))))); intro v138 w1 ho2 hb hg_ hnew_; clear hg_ hnew_; (first | rw [← Ny137.out] at ho2 | (simp only [Int.reduceToNat] at ho2; rw [← Ny137.out] at ho2)); have HO139 := Aside0.mk (Kd.R_lower ho2 (below_size (zB HB))); replace HB := Aside0.mk (below_step (zB HB) hb); clear hb ho2))
 go_ret
 exact ⟨_, by first | rfl | (simp [errW_none, errW_some] <;> rfl) | (simp [*, errW_none, errW_some] <;> rfl), by (with_reducible repeat (first | apply Kd.R_alloc | apply Kd.R_drewN | apply Kd.R_drew)); exact HO139.out, by repeat (first | (with_reducible first | exact HB.out | apply below_alloc | apply pw_below_drewN | apply below_drew1) | exact HB.out)⟩
end Go.Proofs.YtnphnhkinjppjaaGreatDoor.Q
end

section
namespace Go.Proofs.YtnphnhkinjppjaaGreatDoor.Q
open Go.RowKit Go.Proofs.YtnphnhkinjppjaaGreatDoorW.PrintWords Go.Proofs.YtnphnhkinjppjaaGreatDoorW.PrintLast Go.Proofs.YtnphnhkinjppjaaGreatDoorW.PrintMore
attribute [local go_sem] max2_int min2_int max_two min_two max_three min_three max_four min_four
set_option linter.unusedVariables false
set_option linter.unusedSimpArgs false
def asset_apps.f  : Option (List ByteArray) := some (([(⟨#[114, 97, 119]⟩ : ByteArray), (⟨#[104, 116, 116, 112]⟩ : ByteArray), (⟨#[115, 109, 116, 112]⟩ : ByteArray), (⟨#[116, 108, 115]⟩ : ByteArray), (⟨#[100, 110, 115]⟩ : ByteArray)] : List ByteArray))
set_option maxHeartbeats 8000000 in
set_option maxRecDepth 100000 in
theorem asset_apps.calls  (r : List ByteArray) (w : World) (h : asset_apps.f  = some r) :
 Calls Tryz.prog 44 #[] w fun e w' => ∃ v0_ : Value, e = .returned (v0_) ∧ Kd.R Kd.string 9 w' w.heap.size (fun _ => True) v0_ r ∧ Below w.heap.size w w' := by
 have HB := Aside0.mk (Below.refl w.heap.size w)
 unfold asset_apps.f at h; have H := h
 clear h
 obtain ⟨y144, hy144⟩ : ∃ y_ : List ByteArray, y_ = (([(⟨#[114, 97, 119]⟩ : ByteArray), (⟨#[104, 116, 116, 112]⟩ : ByteArray), (⟨#[115, 109, 116, 112]⟩ : ByteArray), (⟨#[116, 108, 115]⟩ : ByteArray), (⟨#[100, 110, 115]⟩ : ByteArray)] : List ByteArray)) := ⟨_, rfl⟩
 rw [← hy144] at H; try dsimp only [Option.bind_some] at H
 have Ny144 := Aside0.mk hy144
 clear hy144
 obtain rfl := Option.some.inj H
 go_enter Tryz.func44, Tryz.ntmps44
 go_wp2_with (first | ((with_reducible refine gate_dst (N := 1) rfl ?_); refine Kd.R_lit Kd.string _ 9 ?hg (N := 1) ?hd (xs := ([(⟨#[114, 97, 119]⟩ : ByteArray), (⟨#[104, 116, 116, 112]⟩ : ByteArray), (⟨#[115, 109, 116, 112]⟩ : ByteArray), (⟨#[116, 108, 115]⟩ : ByteArray), (⟨#[100, 110, 115]⟩ : ByteArray)] : List ByteArray)) (inner := [.string (⟨#[114, 97, 119]⟩ : ByteArray), .string (⟨#[104, 116, 116, 112]⟩ : ByteArray), .string (⟨#[115, 109, 116, 112]⟩ : ByteArray), .string (⟨#[116, 108, 115]⟩ : ByteArray), .string (⟨#[100, 110, 115]⟩ : ByteArray)]) (ok := fun _ => True) (okp := fun _ => True) ?hr ?hp (fun _ hk => hk) trivial (Below.refl _ _) (Nat.le_refl _) (by simp) ?_; (case hd => rfl); (case hg => rfl); (case hr => first | (go_simp; done) | (go_simp; rfl)); (case hp => exact (Reps.one (show Kd.M Kd.string _ _ _ (⟨#[114, 97, 119]⟩ : ByteArray) [.string (⟨#[114, 97, 119]⟩ : ByteArray)] from rfl) (Reps.one (show Kd.M Kd.string _ _ _ (⟨#[104, 116, 116, 112]⟩ : ByteArray) [.string (⟨#[104, 116, 116, 112]⟩ : ByteArray)] from rfl) (Reps.one (show Kd.M Kd.string _ _ _ (⟨#[115, 109, 116, 112]⟩ : ByteArray) [.string (⟨#[115, 109, 116, 112]⟩ : ByteArray)] from rfl) (Reps.one (show Kd.M Kd.string _ _ _ (⟨#[116, 108, 115]⟩ : ByteArray) [.string (⟨#[116, 108, 115]⟩ : ByteArray)] from rfl) (Reps.one (show Kd.M Kd.string _ _ _ (⟨#[100, 110, 115]⟩ : ByteArray) [.string (⟨#[100, 110, 115]⟩ : ByteArray)] from rfl) (Reps.none _ _))))))); intro v145 w1 ho2 hb hg_ hnew_; clear hg_ hnew_; (first | rw [← Ny144.out] at ho2 | (simp only [Int.reduceToNat] at ho2; rw [← Ny144.out] at ho2)); have HO146 := Aside0.mk (Kd.R_lower ho2 (below_size (zB HB))); replace HB := Aside0.mk (below_step (zB HB) hb); clear hb ho2))
 go_ret
 exact ⟨_, by first | rfl | (simp [errW_none, errW_some] <;> rfl) | (simp [*, errW_none, errW_some] <;> rfl), by (with_reducible repeat (first | apply Kd.R_alloc | apply Kd.R_drewN | apply Kd.R_drew)); exact HO146.out, by repeat (first | (with_reducible first | exact HB.out | apply below_alloc | apply pw_below_drewN | apply below_drew1) | exact HB.out)⟩
end Go.Proofs.YtnphnhkinjppjaaGreatDoor.Q
end
