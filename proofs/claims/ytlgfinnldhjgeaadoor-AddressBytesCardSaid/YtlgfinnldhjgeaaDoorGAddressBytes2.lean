/- The law AddressBytes answers true for every input and leaves its arguments as they were. No condition. (Part 2 of 3: the kit's printed words and walks, hand-made contracts and plain laws, joined in build order, without what the theorem does not reach.) -/
import Derived.Test.YtlgfinnldhjgeaaDoorGAddressBytes1
section
namespace Go.Proofs.YtlgfinnldhjgeaaDoor.Q
open Go.RowKit Go.Proofs.YtlgfinnldhjgeaaDoorW.PrintWords Go.Proofs.YtlgfinnldhjgeaaDoorW.PrintLast Go.Proofs.YtlgfinnldhjgeaaDoorW.PrintMore
attribute [local go_sem] max2_int min2_int max_two min_two max_three min_three max_four min_four
set_option linter.unusedVariables false
set_option linter.unusedSimpArgs false
mutual
def address_parse6.j2 : Nat → List Int → List Int → Option (Bool × Int × Int × Bool)
  | 0, _, _ => none
  | k + 1, x7, x9 => address_parse6.l0 k x7 x9
def address_parse6.l0 : Nat → List Int → List Int → Option (Bool × Int × Int × Bool)
  | 0, _, _ => none
  | k + 1, x7, x9 => if (wrap64 ((x7.length : Int) + (x9.length : Int))) < 8 then (if x7.length < 17592186044416 then (address_parse6.l0 k (x7 ++ [0]) x9) else (none)) else (if x7.length + x9.length < 17592186044416 then ((some (x7 ++ x9 : List Int)).bind fun y134 => (address_parse6.l1 k y134 (y134.length : Int) 0 true 0 0)) else (none))
def address_parse6.l1 : Nat → List Int → Int → Int → Bool → Int → Int → Option (Bool × Int × Int × Bool)
  | 0, _, _, _, _, _, _ => none
  | k + 1, x70, x71, x72, x134000, x134001, x134002 => if x72 < x71 then (if 0 ≤ x72 then (if x72 < (x70.length : Int) then (if x72 < 4 then (address_parse6.l1 k x70 x71 (wrap64 (x72 + 1)) x134000 (Go.bits .or .u64 (IntKind.u64.wrap (x134001 * 65536)) (rd x70 x72)) x134002) else (address_parse6.l1 k x70 x71 (wrap64 (x72 + 1)) x134000 x134001 (Go.bits .or .u64 (IntKind.u64.wrap (x134002 * 65536)) (rd x70 x72)))) else (none)) else (none)) else (some (x134000, x134001, x134002, true))
def address_parse6.j0 : Nat → Bool → List Int → List Int → Bool → Option (Bool × Int × Int × Bool)
  | 0, _, _, _, _ => none
  | k + 1, x6, x7, x9, x30 => if x30 = true then (some (false, 0, 0, false)) else (if x6 = true then (address_parse6.j1 k x6 x7 x9 false) else (address_parse6.j1 k x6 x7 x9 ((x7.length : Int) != 8)))
def address_parse6.j1 : Nat → Bool → List Int → List Int → Bool → Option (Bool × Int × Int × Bool)
  | 0, _, _, _, _ => none
  | k + 1, x6, x7, x9, x38 => if x38 = true then (some (false, 0, 0, false)) else (if x6 = true then (if (wrap64 ((x7.length : Int) + (x9.length : Int))) > 7 then (some (false, 0, 0, false)) else (address_parse6.j2 k x7 x9)) else (address_parse6.j2 k x7 x9))
end
def address_parse6.f (k : Nat) (a0 : ByteArray) : Option (Bool × Int × Int × Bool) := (strings_Cut.f a0 (⟨#[58, 58]⟩ : ByteArray)).bind fun bt119 => ((address_groups.f k bt119.1).bind fun bt122 => ((address_groups.f k bt119.2.1).bind fun bt126 => (if bt122.2 = true then (address_parse6.j0 k bt119.2.2 bt122.1 bt126.1 (!bt126.2)) else (address_parse6.j0 k bt119.2.2 bt122.1 bt126.1 true))))
theorem address_parse6.mono_l : ∀ k, (∀ y0 y1, LeO (address_parse6.j2 k y0 y1) (address_parse6.j2 (k + 1) y0 y1)) ∧ (∀ y0 y1, LeO (address_parse6.l0 k y0 y1) (address_parse6.l0 (k + 1) y0 y1)) ∧ (∀ y0 y1 y2 y3 y4 y5, LeO (address_parse6.l1 k y0 y1 y2 y3 y4 y5) (address_parse6.l1 (k + 1) y0 y1 y2 y3 y4 y5)) ∧ (∀ y0 y1 y2 y3, LeO (address_parse6.j0 k y0 y1 y2 y3) (address_parse6.j0 (k + 1) y0 y1 y2 y3)) ∧ (∀ y0 y1 y2 y3, LeO (address_parse6.j1 k y0 y1 y2 y3) (address_parse6.j1 (k + 1) y0 y1 y2 y3))
  | 0 => ⟨fun _ _ r h => by simp [address_parse6.j2] at h, fun _ _ r h => by simp [address_parse6.l0] at h, fun _ _ _ _ _ _ r h => by simp [address_parse6.l1] at h, fun _ _ _ _ r h => by simp [address_parse6.j0] at h, fun _ _ _ _ r h => by simp [address_parse6.j1] at h⟩
  | k + 1 => by
    obtain ⟨ih0, ih1, ih2, ih3, ih4⟩ := address_parse6.mono_l k
    refine ⟨?_, ?_, ?_, ?_, ?_⟩
    · intro y0 y1
      unfold address_parse6.j2
      repeat' first
      | (with_reducible exact ih0 _ _)
      | (with_reducible exact ih1 _ _)
      | (with_reducible exact ih2 _ _ _ _ _ _)
      | (with_reducible exact ih3 _ _ _ _)
      | (with_reducible exact ih4 _ _ _ _)
      | (with_reducible exact address_groups.mono _ _)
      | (with_reducible exact LeO.refl _)
      | (with_reducible exact LeO.none _)
      | (with_reducible refine LeO.ite ?_ ?_)
      | (with_reducible refine LeO.bind ?_ (fun _ => ?_))
      | exact ih0 _ _
      | exact ih1 _ _
      | exact ih2 _ _ _ _ _ _
      | exact ih3 _ _ _ _
      | exact ih4 _ _ _ _
      | exact address_groups.mono _ _
      | exact LeO.none _
      | refine LeO.ite ?_ ?_
      | refine LeO.bind ?_ (fun _ => ?_)
    · intro y0 y1
      unfold address_parse6.l0
      repeat' first
      | (with_reducible exact ih0 _ _)
      | (with_reducible exact ih1 _ _)
      | (with_reducible exact ih2 _ _ _ _ _ _)
      | (with_reducible exact ih3 _ _ _ _)
      | (with_reducible exact ih4 _ _ _ _)
      | (with_reducible exact address_groups.mono _ _)
      | (with_reducible exact LeO.refl _)
      | (with_reducible exact LeO.none _)
      | (with_reducible refine LeO.ite ?_ ?_)
      | (with_reducible refine LeO.bind ?_ (fun _ => ?_))
      | exact ih0 _ _
      | exact ih1 _ _
      | exact ih2 _ _ _ _ _ _
      | exact ih3 _ _ _ _
      | exact ih4 _ _ _ _
      | exact address_groups.mono _ _
      | exact LeO.none _
      | refine LeO.ite ?_ ?_
      | refine LeO.bind ?_ (fun _ => ?_)
    · intro y0 y1 y2 y3 y4 y5
      unfold address_parse6.l1
      repeat' first
      | (with_reducible exact ih0 _ _)
      | (with_reducible exact ih1 _ _)
      | (with_reducible exact ih2 _ _ _ _ _ _)
      | (with_reducible exact ih3 _ _ _ _)
      | (with_reducible exact ih4 _ _ _ _)
      | (with_reducible exact address_groups.mono _ _)
      | (with_reducible exact LeO.refl _)
      | (with_reducible exact LeO.none _)
      | (with_reducible refine LeO.ite ?_ ?_)
      | (with_reducible refine LeO.bind ?_ (fun _ => ?_))
      | exact ih0 _ _
      | exact ih1 _ _
      | exact ih2 _ _ _ _ _ _
      | exact ih3 _ _ _ _
      | exact ih4 _ _ _ _
      | exact address_groups.mono _ _
      | exact LeO.none _
      | refine LeO.ite ?_ ?_
      | refine LeO.bind ?_ (fun _ => ?_)
    · intro y0 y1 y2 y3
      unfold address_parse6.j0
      repeat' first
      | (with_reducible exact ih0 _ _)
      | (with_reducible exact ih1 _ _)
      | (with_reducible exact ih2 _ _ _ _ _ _)
      | (with_reducible exact ih3 _ _ _ _)
      | (with_reducible exact ih4 _ _ _ _)
      | (with_reducible exact address_groups.mono _ _)
      | (with_reducible exact LeO.refl _)
      | (with_reducible exact LeO.none _)
      | (with_reducible refine LeO.ite ?_ ?_)
      | (with_reducible refine LeO.bind ?_ (fun _ => ?_))
      | exact ih0 _ _
      | exact ih1 _ _
      | exact ih2 _ _ _ _ _ _
      | exact ih3 _ _ _ _
      | exact ih4 _ _ _ _
      | exact address_groups.mono _ _
      | exact LeO.none _
      | refine LeO.ite ?_ ?_
      | refine LeO.bind ?_ (fun _ => ?_)
    · intro y0 y1 y2 y3
      unfold address_parse6.j1
      repeat' first
      | (with_reducible exact ih0 _ _)
      | (with_reducible exact ih1 _ _)
      | (with_reducible exact ih2 _ _ _ _ _ _)
      | (with_reducible exact ih3 _ _ _ _)
      | (with_reducible exact ih4 _ _ _ _)
      | (with_reducible exact address_groups.mono _ _)
      | (with_reducible exact LeO.refl _)
      | (with_reducible exact LeO.none _)
      | (with_reducible refine LeO.ite ?_ ?_)
      | (with_reducible refine LeO.bind ?_ (fun _ => ?_))
      | exact ih0 _ _
      | exact ih1 _ _
      | exact ih2 _ _ _ _ _ _
      | exact ih3 _ _ _ _
      | exact ih4 _ _ _ _
      | exact address_groups.mono _ _
      | exact LeO.none _
      | refine LeO.ite ?_ ?_
      | refine LeO.bind ?_ (fun _ => ?_)
theorem address_parse6.mono : ∀ a0 k, LeO (address_parse6.f k a0) (address_parse6.f (k + 1) a0) := by
  intro a0 k
  obtain ⟨ih0, ih1, ih2, ih3, ih4⟩ := address_parse6.mono_l k
  unfold address_parse6.f
  repeat' first
      | (with_reducible exact ih0 _ _)
      | (with_reducible exact ih1 _ _)
      | (with_reducible exact ih2 _ _ _ _ _ _)
      | (with_reducible exact ih3 _ _ _ _)
      | (with_reducible exact ih4 _ _ _ _)
      | (with_reducible exact address_groups.mono _ _)
      | (with_reducible exact LeO.refl _)
      | (with_reducible exact LeO.none _)
      | (with_reducible refine LeO.ite ?_ ?_)
      | (with_reducible refine LeO.bind ?_ (fun _ => ?_))
      | exact ih0 _ _
      | exact ih1 _ _
      | exact ih2 _ _ _ _ _ _
      | exact ih3 _ _ _ _
      | exact ih4 _ _ _ _
      | exact address_groups.mono _ _
      | exact LeO.none _
      | refine LeO.ite ?_ ?_
      | refine LeO.bind ?_ (fun _ => ?_)
set_option maxHeartbeats 8000000 in
set_option maxRecDepth 100000 in
theorem address_parse6.calls (k : Nat) (a0 : ByteArray) (r1 : Bool) (r2 : Int) (r3 : Int) (r4 : Bool) (w : World) (h : address_parse6.f k a0 = some (r1, r2, r3, r4)) (hW_ : WOK w) :
 Calls Tryd.prog 40 #[.string a0] w fun e w' => e = .returned (.tuple #[.agg #[.bool r1, .int .u64 r2, .int .u64 r3], .bool r4]) ∧ Below w.heap.size w w' := by
 have hu25 := Tryd.underlying25
 have HB := Aside0.mk (Below.refl w.heap.size w)
 unfold address_parse6.f at h; have H := h
 clear h
 replace H := Option.bind_eq_some_iff.mp H
 obtain ⟨⟨t119, t120, t121⟩, A20, H⟩ := H
 replace H : ((address_groups.f k t119).bind fun bt122 => ((address_groups.f k t120).bind fun bt126 => (if bt122.2 = true then (address_parse6.j0 k t121 bt122.1 bt126.1 (!bt126.2)) else (address_parse6.j0 k t121 bt122.1 bt126.1 true)))) = some (r1, r2, r3, r4) := H
 have A2 := Aside0.mk A20
 clear A20
 replace H := Option.bind_eq_some_iff.mp H
 obtain ⟨⟨t122, t123⟩, A30, H⟩ := H
 replace H : ((address_groups.f k t120).bind fun bt126 => (if t123 = true then (address_parse6.j0 k t121 t122 bt126.1 (!bt126.2)) else (address_parse6.j0 k t121 t122 bt126.1 true))) = some (r1, r2, r3, r4) := H
 have A3 := Aside0.mk A30
 clear A30
 replace H := Option.bind_eq_some_iff.mp H
 obtain ⟨⟨t126, t127⟩, A40, H⟩ := H
 replace H : (if t123 = true then (address_parse6.j0 k t121 t122 t126 (!t127)) else (address_parse6.j0 k t121 t122 t126 true)) = some (r1, r2, r3, r4) := H
 have A4 := Aside0.mk A40
 clear A40
 have HC5 := Aside0.mk H
 clear H
 go_enter Tryd.func40, Tryd.ntmps40
 go_upto_block 0 with (first | ((with_reducible refine gate_dst (N := 2) rfl ?_); (try (refine gate_guard (by rfl) ?_; dsimp only)); refine zx 2 #[.bool false, .int .u64 0, .int .u64 0] 25 ?_; intro gb118 hg w6 hbox hb; have BK118 := Aside0.mk (hbox); have GW118 := Aside0.mk ((by rw [hg]; exact (below_size (zB HB)) : w.heap.size ≤ gb118)); have GE118 := Aside0.mk ((by rw [hg]; exact (below_size (zB HB)) : w.heap.size ≤ gb118)); replace HB := Aside0.mk (below_step (zB HB) hb); clear hb hbox hg) | ((with_reducible refine gate_callee (f := 43) rfl ?_); refine goesL_ (some 16) rfl rfl Tryd.func43 (by kernel_rfl) rfl #[.string a0, .string (⟨#[58, 58]⟩ : ByteArray)] rfl (by (try simp only [List.map_toArray, List.map_cons, List.map_nil]); first | done | rfl | (simp only [List.length_drop, List.length_take]; rfl)) ?_; (with_reducible refine (strings_Cut.calls a0 (⟨#[58, 58]⟩ : ByteArray) t119 t120 t121 _ A2.out (WOK.below hW_ (zB HB))).mono ?_); rintro e w7 ⟨rfl, hb⟩; refine ⟨_, rfl, ?_⟩; replace BK118 := Aside0.mk (blk_below (g := gb118) (o := .cells #[.bool false, .int .u64 0, .int .u64 0] 25 (0, 0)) (zK BK118) hb); replace HB := Aside0.mk (below_step (zB HB) hb); (try clear hb)) | ((with_reducible refine gate_callee (f := 65) rfl ?_); refine goesL_ (some 22) rfl rfl Tryd.func65 (by kernel_rfl) rfl #[.string t119] rfl (by (try simp only [List.map_toArray, List.map_cons, List.map_nil]); first | done | rfl | (simp only [List.length_drop, List.length_take]; rfl)) ?_; (with_reducible refine (address_groups.calls k t119 t122 t123 _ A3.out (WOK.below hW_ (zB HB))).mono ?_); rintro e w8 ⟨v124, rfl, ho0, hb⟩; refine ⟨_, rfl, ?_⟩; have HO125 := Aside0.mk (Kd.R_lower ho0 (below_size (zB HB))); replace BK118 := Aside0.mk (blk_below (g := gb118) (o := .cells #[.bool false, .int .u64 0, .int .u64 0] 25 (0, 0)) (zK BK118) hb); replace HB := Aside0.mk (below_step (zB HB) hb); (try clear hb); (try clear ho0)) | ((with_reducible refine gate_callee (f := 65) rfl ?_); refine goesL_ (some 27) rfl rfl Tryd.func65 (by kernel_rfl) rfl #[.string t120] rfl (by (try simp only [List.map_toArray, List.map_cons, List.map_nil]); first | done | rfl | (simp only [List.length_drop, List.length_take]; rfl)) ?_; (with_reducible refine (address_groups.calls k t120 t126 t127 _ A4.out (WOK.below hW_ (zB HB))).mono ?_); rintro e w9 ⟨v128, rfl, ho0, hb⟩; refine ⟨_, rfl, ?_⟩; have HO129 := Aside0.mk (Kd.R_lower (Kd.R_new' ho0 (Kd.R_lt (zR HO125))) (below_size (zB HB))); replace HO125 := Aside0.mk (Kd.R_elder' (zR HO125) (Kd.R_base ho0) hb); replace BK118 := Aside0.mk (blk_below (g := gb118) (o := .cells #[.bool false, .int .u64 0, .int .u64 0] 25 (0, 0)) (zK BK118) hb); replace HB := Aside0.mk (below_step (zB HB) hb); (try clear hb); (try clear ho0)))
 (try simp only [Act.put, List.setIfInBounds_toArray, List.set_cons_zero, List.set_cons_succ])
 go_cut [] (fun wc => ∃ (kq : Nat) (x119000_4 : Bool) (x119001_4 : Int) (x119002_4 : Int), Aside0 (address_parse6.j2 kq t122 t126 = some (r1, r2, r3, r4)) ∧ Aside0 (kq ≤ k) ∧ Aside0 (Kd.R (Kd.int .u64) 23 wc w.heap.size (fun k_ => some k_ ≠ (v128 : Value).ownBlock) v124 t122) ∧ Aside0 (Kd.R (Kd.int .u64) 23 wc w.heap.size (fun k_ => some k_ ≠ (v124 : Value).ownBlock) v128 t126) ∧ Aside0 (wc.heap[gb118]? = some (.cells #[.bool x119000_4, .int .u64 x119001_4, .int .u64 x119002_4] 25 (0, 0))) ∧ Aside0 (Below w.heap.size w wc))
 case first =>
  have H := HC5.out
  clear HC5
  have HC10 := Aside0.mk H
  clear H
  go_upto_region 4 with (fail)
  go_cut [30] (fun v30 wc => ∃ (kq : Nat) (x30_9 : Bool), v30 = .bool x30_9 ∧ Aside0 (address_parse6.j0 kq t121 t122 t126 x30_9 = some (r1, r2, r3, r4)) ∧ Aside0 (kq ≤ k) ∧ Aside0 (Kd.R (Kd.int .u64) 23 wc w.heap.size (fun k_ => some k_ ≠ (v128 : Value).ownBlock) v124 t122) ∧ Aside0 (Kd.R (Kd.int .u64) 23 wc w.heap.size (fun k_ => some k_ ≠ (v124 : Value).ownBlock) v128 t126) ∧ Aside0 (wc.heap[gb118]? = some (.cells #[.bool false, .int .u64 0, .int .u64 0] 25 (0, 0))) ∧ Aside0 (Below w.heap.size w wc))
  case first =>
   have H := HC10.out
   clear HC10
   by_cases c11 : t123 = true
   · subst c11
     rw [if_pos rfl] at H
     have H' := Aside0.mk H
     clear H
     go_wp2
     go_meet
     case rel => exact ⟨_, (!t127), (by first | rfl | (simp; done) | (simp [*]; done)), H', ⟨by first | omega | exact Nat.le_refl _⟩, ⟨by (with_reducible repeat (first | apply Kd.R_alloc | apply Kd.R_drewN | apply Kd.R_drew)); exact Kd.R_mono HO125.out (fun _ hk => hk.2)⟩, ⟨by (with_reducible repeat (first | apply Kd.R_alloc | apply Kd.R_drewN | apply Kd.R_drew)); exact Kd.R_mono HO129.out (fun _ hk => hk.2)⟩, ⟨zK BK118⟩, ⟨zB HB⟩⟩
   · replace c11 := Bool.eq_false_iff.mpr c11
     subst c11
     rw [if_neg zF] at H
     have H' := Aside0.mk H
     clear H
     go_wp2
     go_meet
     case rel => exact ⟨_, (true), (by first | rfl | (simp; done) | (simp [*]; done)), H', ⟨by first | omega | exact Nat.le_refl _⟩, ⟨by (with_reducible repeat (first | apply Kd.R_alloc | apply Kd.R_drewN | apply Kd.R_drew)); exact Kd.R_mono HO125.out (fun _ hk => hk.2)⟩, ⟨by (with_reducible repeat (first | apply Kd.R_alloc | apply Kd.R_drewN | apply Kd.R_drew)); exact Kd.R_mono HO129.out (fun _ hk => hk.2)⟩, ⟨zK BK118⟩, ⟨zB HB⟩⟩
  case rest =>
   clear HC10
   try clear c1
   try clear p2
   try clear c4
   try clear c6
   try clear c11
   obtain ⟨kq, x30_9, rfl, HA, HJ9, HO_7, HO_9, BK118, HB⟩ := hcut
   cases kq with
   | zero => exact absurd HA.out (by simp [address_parse6.j0])
   | succ kj9 =>
    have H := HA.out
    clear HA
    simp only [address_parse6.j0] at H
    by_cases c12 : x30_9 = true
    · subst c12
      rw [if_pos rfl] at H
      simp only [Option.some.injEq, Prod.mk.injEq] at H
      obtain ⟨rfl, rfl, rfl, rfl⟩ := H
      obtain ⟨hcz13_0, hcz13_1, hcz13_2⟩ := zc3 BK118
      obtain ⟨hfz13_0, hfz13_1, hfz13_2⟩ := zf3 BK118
      go_wp2
      refine bodyPost_ret (results_ct rfl _ _ gb118 25 #[.bool false, .int .u64 0, .int .u64 0] (0, 0) _ rfl (by refine zL ?_; refine blk_put (cs := #[.bool false, .int .u64 0, .int .u64 0]) ?_ 2 _ rfl; refine zL ?_; refine blk_put (cs := #[.bool false, .int .u64 0, .int .u64 0]) ?_ 1 _ rfl; refine zL ?_; refine blk_put (cs := #[.bool false, .int .u64 0, .int .u64 0]) ?_ 0 _ rfl; refine zL ?_; exact BK118.out) Tryd.underlying25 rfl (by kernel_rfl)) rfl ?_
      exact ⟨by first | rfl | (simp [errW_none, errW_some] <;> rfl) | (simp [*, errW_none, errW_some] <;> rfl), by repeat (first | (with_reducible first | exact HB.out | apply below_alloc | apply pw_below_drewN | apply below_drew1 | refine below_set ?_ GE118.out) | exact HB.out)⟩
    · replace c12 := Bool.eq_false_iff.mpr c12
      subst c12
      rw [if_neg zF] at H
      have HC14 := Aside0.mk H
      clear H
      go_upto_region 6 with (fail)
      go_cut [38] (fun v38 wc => ∃ (kq : Nat) (x38_13 : Bool), v38 = .bool x38_13 ∧ Aside0 (address_parse6.j1 kq t121 t122 t126 x38_13 = some (r1, r2, r3, r4)) ∧ Aside0 (kq ≤ kj9) ∧ Aside0 (Kd.R (Kd.int .u64) 23 wc w.heap.size (fun k_ => some k_ ≠ (v128 : Value).ownBlock) v124 t122) ∧ Aside0 (Kd.R (Kd.int .u64) 23 wc w.heap.size (fun k_ => some k_ ≠ (v124 : Value).ownBlock) v128 t126) ∧ Aside0 (wc.heap[gb118]? = some (.cells #[.bool false, .int .u64 0, .int .u64 0] 25 (0, 0))) ∧ Aside0 (Below w.heap.size w wc))
      case first =>
       have H := HC14.out
       clear HC14
       by_cases c15 : t121 = true
       · subst c15
         rw [if_pos rfl] at H
         have H' := Aside0.mk H
         clear H
         go_wp2
         go_meet
         case rel => exact ⟨_, (false), (by first | rfl | (simp; done) | (simp [*]; done)), H', ⟨by have := HJ9.out; first | omega | exact Nat.le_refl _⟩, ⟨zR HO_7⟩, ⟨zR HO_9⟩, ⟨zK BK118⟩, ⟨zB HB⟩⟩
       · replace c15 := Bool.eq_false_iff.mpr c15
         subst c15
         rw [if_neg zF] at H
         have H' := Aside0.mk H
         clear H
         obtain ⟨Ao16, co16, eo16⟩ := Kd.R_slice HO_7.out
         subst eo16
         go_wp2
         go_meet
         case rel => exact ⟨_, (((t122.length : Int) != 8)), (by first | rfl | (simp; done) | (simp [*]; done)), H', ⟨by have := HJ9.out; first | omega | exact Nat.le_refl _⟩, ⟨zR HO_7⟩, ⟨zR HO_9⟩, ⟨zK BK118⟩, ⟨zB HB⟩⟩
      case rest =>
       clear HC14
       try clear c1
       try clear p2
       try clear c4
       try clear c6
       try clear c11
       try clear c12
       try clear c15
       try clear hcz13_0
       try clear hcz13_1
       try clear hcz13_2
       try clear hfz13_0
       try clear hfz13_1
       try clear hfz13_2
       try clear p2
       obtain ⟨kq, x38_13, rfl, HA, HJ13, HO_7, HO_9, BK118, HB⟩ := hcut
       cases kq with
       | zero => exact absurd HA.out (by simp [address_parse6.j1])
       | succ kj13 =>
        have H := HA.out
        clear HA
        simp only [address_parse6.j1] at H
        by_cases c17 : x38_13 = true
        · subst c17
          rw [if_pos rfl] at H
          simp only [Option.some.injEq, Prod.mk.injEq] at H
          obtain ⟨rfl, rfl, rfl, rfl⟩ := H
          obtain ⟨hcz18_0, hcz18_1, hcz18_2⟩ := zc3 BK118
          obtain ⟨hfz18_0, hfz18_1, hfz18_2⟩ := zf3 BK118
          go_wp2
          refine bodyPost_ret (results_ct rfl _ _ gb118 25 #[.bool false, .int .u64 0, .int .u64 0] (0, 0) _ rfl (by refine zL ?_; refine blk_put (cs := #[.bool false, .int .u64 0, .int .u64 0]) ?_ 2 _ rfl; refine zL ?_; refine blk_put (cs := #[.bool false, .int .u64 0, .int .u64 0]) ?_ 1 _ rfl; refine zL ?_; refine blk_put (cs := #[.bool false, .int .u64 0, .int .u64 0]) ?_ 0 _ rfl; refine zL ?_; exact BK118.out) Tryd.underlying25 rfl (by kernel_rfl)) rfl ?_
          exact ⟨by first | rfl | (simp [errW_none, errW_some] <;> rfl) | (simp [*, errW_none, errW_some] <;> rfl), by repeat (first | (with_reducible first | exact HB.out | apply below_alloc | apply pw_below_drewN | apply below_drew1 | refine below_set ?_ GE118.out) | exact HB.out)⟩
        · replace c17 := Bool.eq_false_iff.mpr c17
          subst c17
          rw [if_neg zF] at H
          by_cases c19 : t121 = true
          · subst c19
            rw [if_pos rfl] at H
            by_cases c20 : (wrap64 ((t122.length : Int) + (t126.length : Int))) > 7
            · rw [if_pos c20] at H
              have c20b0 : decide (7 < (wrap64 ((t122.length : Int) + (t126.length : Int)))) = true := decide_eq_true c20
              clear c20
              simp only [Option.some.injEq, Prod.mk.injEq] at H
              obtain ⟨rfl, rfl, rfl, rfl⟩ := H
              obtain ⟨Ao21, co21, eo21⟩ := Kd.R_slice HO_7.out
              subst eo21
              obtain ⟨Ao22, co22, eo22⟩ := Kd.R_slice HO_9.out
              subst eo22
              obtain ⟨hcz23_0, hcz23_1, hcz23_2⟩ := zc3 BK118
              obtain ⟨hfz23_0, hfz23_1, hfz23_2⟩ := zf3 BK118
              go_wp2
              refine bodyPost_ret (results_ct rfl _ _ gb118 25 #[.bool false, .int .u64 0, .int .u64 0] (0, 0) _ rfl (by refine zL ?_; refine blk_put (cs := #[.bool false, .int .u64 0, .int .u64 0]) ?_ 2 _ rfl; refine zL ?_; refine blk_put (cs := #[.bool false, .int .u64 0, .int .u64 0]) ?_ 1 _ rfl; refine zL ?_; refine blk_put (cs := #[.bool false, .int .u64 0, .int .u64 0]) ?_ 0 _ rfl; refine zL ?_; exact BK118.out) Tryd.underlying25 rfl (by kernel_rfl)) rfl ?_
              exact ⟨by first | rfl | (simp [errW_none, errW_some] <;> rfl) | (simp [*, errW_none, errW_some] <;> rfl), by repeat (first | (with_reducible first | exact HB.out | apply below_alloc | apply pw_below_drewN | apply below_drew1 | refine below_set ?_ GE118.out) | exact HB.out)⟩
            · rw [if_neg c20] at H
              have c20b0 : decide (7 < (wrap64 ((t122.length : Int) + (t126.length : Int)))) = false := decide_eq_false c20
              clear c20
              have H' := Aside0.mk H
              clear H
              obtain ⟨Ao24, co24, eo24⟩ := Kd.R_slice HO_7.out
              subst eo24
              obtain ⟨Ao25, co25, eo25⟩ := Kd.R_slice HO_9.out
              subst eo25
              go_wp2
              go_meet
              case rel => exact ⟨_, (false), (0), (0), H', ⟨by have := HJ9.out; have := HJ13.out; first | omega | exact Nat.le_refl _⟩, ⟨zR HO_7⟩, ⟨zR HO_9⟩, ⟨zK BK118⟩, ⟨zB HB⟩⟩
          · replace c19 := Bool.eq_false_iff.mpr c19
            subst c19
            rw [if_neg zF] at H
            have H' := Aside0.mk H
            clear H
            go_wp2
            go_meet
            case rel => exact ⟨_, (false), (0), (0), H', ⟨by have := HJ9.out; have := HJ13.out; first | omega | exact Nat.le_refl _⟩, ⟨zR HO_7⟩, ⟨zR HO_9⟩, ⟨zK BK118⟩, ⟨zB HB⟩⟩
 case rest =>
  clear HC5
  try clear c1
  try clear c2
  try clear p2
  try clear c4
  try clear c6
  try clear p6
  try clear c11
  try clear c12
  try clear c15
  try clear c17
  try clear c19
  try clear c20
  try clear c20b0
  try clear hcz13_0
  try clear hcz13_1
  try clear hcz13_2
  try clear hcz18_0
  try clear hcz18_1
  try clear hcz18_2
  try clear hcz23_0
  try clear hcz23_1
  try clear hcz23_2
  try clear hfz13_0
  try clear hfz13_1
  try clear hfz13_2
  try clear hfz18_0
  try clear hfz18_1
  try clear hfz18_2
  try clear hfz23_0
  try clear hfz23_1
  try clear hfz23_2
  try clear p2
  obtain ⟨kq, x119000_4, x119001_4, x119002_4, HA, HJ4, HO_7, HO_9, BK118, HB⟩ := hcut
  cases kq with
  | zero => exact absurd HA.out (by simp [address_parse6.j2])
  | succ kj4 =>
   have H := HA.out
   clear HA
   simp only [address_parse6.j2] at H
   have H' := Aside0.mk H
   clear H
   go_wp2
   go_loopg [7] kj4 (fun kq v7 w' => ∃ (x7_2 : List Int), Aside0 (address_parse6.l0 kq x7_2 t126 = some (r1, r2, r3, r4)) ∧ Aside0 (kq ≤ kj4) ∧ Aside0 (Kd.R (Kd.int .u64) 23 w' w.heap.size (fun k_ => some k_ ≠ (v128 : Value).ownBlock) v7 x7_2) ∧ Aside0 (Kd.R (Kd.int .u64) 23 w' w.heap.size (fun k_ => some k_ ≠ (v7 : Value).ownBlock) v128 t126) ∧ Aside0 (w'.heap[gb118]? = some (.cells #[.bool x119000_4, .int .u64 x119001_4, .int .u64 x119002_4] 25 (0, 0))) ∧ Aside0 (Below w.heap.size w w'))
   case atStart => exact ⟨(t122), H', ⟨Nat.le_refl _⟩, ⟨zR HO_7⟩, ⟨zR HO_9⟩, ⟨zK BK118⟩, ⟨zB HB⟩⟩
   case round =>
    clear H'
    try clear c1
    try clear c2
    try clear p2
    try clear c4
    try clear c6
    try clear p6
    try clear c11
    try clear c12
    try clear c15
    try clear c17
    try clear c19
    try clear c20
    try clear c20b0
    try clear hcz13_0
    try clear hcz13_1
    try clear hcz13_2
    try clear hcz18_0
    try clear hcz18_1
    try clear hcz18_2
    try clear hcz23_0
    try clear hcz23_1
    try clear hcz23_2
    try clear hfz13_0
    try clear hfz13_1
    try clear hfz13_2
    try clear hfz18_0
    try clear hfz18_1
    try clear hfz18_2
    try clear hfz23_0
    try clear hfz23_1
    try clear hfz23_2
    try clear p2
    try clear p6
    obtain ⟨x7_2, HA, HK2, HO_7, HO_9, BK118, HB⟩ := hrel
    cases gk with
    | zero => exact absurd HA.out (by simp [address_parse6.l0])
    | succ k2 =>
     have H := HA.out
     clear HA
     simp only [address_parse6.l0] at H
     by_cases c26 : (wrap64 ((x7_2.length : Int) + (t126.length : Int))) < 8
     · rw [if_pos c26] at H
       have c26b0 : decide ((wrap64 ((x7_2.length : Int) + (t126.length : Int))) < 8) = true := decide_eq_true c26
       clear c26
       by_cases c27 : x7_2.length < 17592186044416
       · rw [if_pos c27] at H
         have LMc27 := Aside0.mk c27
         clear c27
         obtain ⟨y130, hy130⟩ : ∃ y_ : List Int, y_ = (x7_2 ++ [0]) := ⟨_, rfl⟩
         rw [← hy130] at H; try dsimp only [Option.bind_some] at H
         have Ny130 := Aside0.mk hy130
         clear hy130
         have H' := Aside0.mk H
         clear H
         obtain ⟨Ao28, co28, eo28⟩ := Kd.R_slice HO_7.out
         subst eo28
         obtain ⟨Ao29, co29, eo29⟩ := Kd.R_slice HO_9.out
         subst eo29
         go_wp2_with (first | ((with_reducible refine gate_builtin (b := .append) (xs := #[.tmp 64, .tmp 65]) rfl ?_); (try (refine gate_guard (by rfl) ?_; dsimp only)); at_builtin; refine Kd.R_append (Kd.int .u64) (w0 := w) w.heap.size rfl (.tmp 64) (.tmp 65) 78 23 (.int .u64 0) 8 rfl Tryd.underlying78 info23 rfl (by decide) (by omega) (.slice Ao28 x7_2.length co28) x7_2 0 [.int .u64 0] (fun k_ => some k_ ≠ (.slice Ao29 t126.length co29 : Value).ownBlock) (fun _ => False) rfl rfl ?aP (fun _ hk => hk.elim) ?aF ?aO ?aB ?aS ?aL ?_; (case aP => exact rfl); (case aB => exact (zB HB)); (case aF => exact (fun k_ hk => Kd.fresh' (Kd.R_lt (zR HO_9)) k_ hk)); (case aO => exact (zR HO_7)); (case aS => exact (below_size (zB HB))); (case aL => have := LMc27.out; omega); intro v131 w30 ho hb hg hat; rw [← Ny130.out] at ho; replace HO_9 := Aside0.mk (Kd.R_after (ok := (fun _ => True)) (by (with_reducible repeat (first | apply Kd.R_alloc | apply Kd.R_drewN | apply Kd.R_drew)); exact Kd.R_mono HO_9.out (fun _ hk => ⟨trivial, hk⟩)) hg hat); replace BK118 := Aside0.mk (blk_grown (g := gb118) (o := .cells #[.bool x119000_4, .int .u64 x119001_4, .int .u64 x119002_4] 25 (0, 0)) (zK BK118) hg (Kd.R_ne HO_7.out BK118.out (by decide))); replace HB := Aside0.mk (hb); have HO132 := Aside0.mk (ho); clear HO_7; clear ho hb hg hat))
         go_roundg k2
         case measure => have := HJ4.out; have := HK2.out; omega
         case rel => exact ⟨(y130), H', ⟨by have := HJ4.out; have := HK2.out; omega⟩, ⟨zR HO132⟩, ⟨by (with_reducible repeat (first | apply Kd.R_alloc | apply Kd.R_drewN | apply Kd.R_drew)); exact Kd.R_mono HO_9.out (fun _ hk => hk.2)⟩, ⟨zK BK118⟩, ⟨zB HB⟩⟩
       · rw [if_neg c27] at H
         exact absurd H (by simp)
     · rw [if_neg c26] at H
       have c26b0 : decide ((wrap64 ((x7_2.length : Int) + (t126.length : Int))) < 8) = false := decide_eq_false c26
       clear c26
       by_cases c31 : x7_2.length + t126.length < 17592186044416
       · rw [if_pos c31] at H
         have LMc31 := Aside0.mk c31
         clear c31
         obtain ⟨y134, hy134⟩ : ∃ y_ : List Int, y_ = (x7_2 ++ t126) := ⟨_, rfl⟩
         rw [← hy134] at H; try dsimp only [Option.bind_some] at H
         have Ny134 := Aside0.mk hy134
         clear hy134
         have H' := Aside0.mk H
         clear H
         obtain ⟨Ao32, co32, eo32⟩ := Kd.R_slice HO_7.out
         subst eo32
         obtain ⟨Ao33, co33, eo33⟩ := Kd.R_slice HO_9.out
         subst eo33
         go_wp2_with (first | ((with_reducible refine gate_dst (N := 11) rfl ?_); (try (refine gate_guard (by rfl) ?_; dsimp only)); refine zx 11 #[.bool false, .int .u64 0, .int .u64 0] 25 ?_; intro gb133 hg w34 hbox hb; replace HO_7 := Aside0.mk (Kd.R_below (zR HO_7) hb); replace HO_9 := Aside0.mk (Kd.R_below (zR HO_9) hb); have BK133 := Aside0.mk (hbox); have GW133 := Aside0.mk ((by rw [hg]; exact (below_size (zB HB)) : w.heap.size ≤ gb133)); have GE133 := Aside0.mk ((by rw [hg]; exact (below_size (zB HB)) : w.heap.size ≤ gb133)); replace HB := Aside0.mk (below_step (zB HB) hb); have NB118_133 := Aside0.mk ((by rw [hg]; exact Nat.ne_of_lt (blk_lt (g := gb118) (o := .cells #[.bool x119000_4, .int .u64 x119001_4, .int .u64 x119002_4] 25 (0, 0)) (zK BK118)) : gb118 ≠ gb133)); have NB133_118 := Aside0.mk ((by rw [hg]; exact Nat.ne_of_gt (blk_lt (g := gb118) (o := .cells #[.bool x119000_4, .int .u64 x119001_4, .int .u64 x119002_4] 25 (0, 0)) (zK BK118)) : gb133 ≠ gb118)); replace BK118 := Aside0.mk (blk_below (g := gb118) (o := .cells #[.bool x119000_4, .int .u64 x119001_4, .int .u64 x119002_4] 25 (0, 0)) (zK BK118) hb); clear hb hbox hg; have hnb35 := NB133_118.out; have hnc35 := NB118_133.out; obtain ⟨hcz36_0, hcz36_1, hcz36_2⟩ := zc3 BK133; obtain ⟨hfz36_0, hfz36_1, hfz36_2⟩ := zf3 BK133) | ((with_reducible refine gate_builtin (b := .append) (xs := #[.tmp 68, .tmp 69]) rfl ?_); (try (refine gate_guard (by rfl) ?_; dsimp only)); at_builtin; refine Kd.R_append_rows (Kd.int .u64) (w0 := w) w.heap.size rfl (.tmp 68) (.tmp 69) 78 23 (.int .u64 0) 8 rfl Tryd.underlying78 info23 rfl (by decide) (by omega) (.slice Ao32 x7_2.length co32) x7_2 t126 _ _ _ (fun k_ => some k_ ≠ (.slice Ao33 t126.length co33 : Value).ownBlock) (fun _ => False) rfl rfl ?aO ?aR (fun _ _ h => h) (fun _ h => h.elim) ?aF ?aB ?aS ?aL ?_; (case aR => refine (Kd.R_reads' (e := 23) (base := w.heap.size) (ok := fun k_ => some k_ ≠ (.slice Ao32 x7_2.length co32 : Value).ownBlock) (n := t126.length) (c := co33) ?_).2.2; exact (zQ (Kd.R_mono (Kd.R_far (p := ⟨gb133, 2, none⟩) (Kd.R_far (p := ⟨gb133, 1, none⟩) (Kd.R_far (p := ⟨gb133, 0, none⟩) (Kd.R_types HO_9.out BK133.out (by decide)) (fun _ hk => hk.2) (.bool true)) (fun _ hk => hk.2) (.int .u64 0)) (fun _ hk => hk.2) (.int .u64 0)) (fun _ h_ => h_.1)))); (case aB => exact (zB HB)); (case aF => exact (fun k_ hk => Kd.fresh' (Kd.R_lt (zQ (Kd.R_mono (Kd.R_far (p := ⟨gb133, 2, none⟩) (Kd.R_far (p := ⟨gb133, 1, none⟩) (Kd.R_far (p := ⟨gb133, 0, none⟩) (Kd.R_types HO_9.out BK133.out (by decide)) (fun _ hk => hk.2) (.bool true)) (fun _ hk => hk.2) (.int .u64 0)) (fun _ hk => hk.2) (.int .u64 0)) (fun _ h_ => h_.1)))) k_ hk)); (case aO => exact (by (with_reducible repeat (first | apply Kd.R_alloc | apply Kd.R_drewN | apply Kd.R_drew)); exact Kd.R_mono (Kd.R_far (p := ⟨gb133, 2, none⟩) (Kd.R_far (p := ⟨gb133, 1, none⟩) (Kd.R_far (p := ⟨gb133, 0, none⟩) (Kd.R_types HO_7.out BK133.out (by decide)) (fun _ hk => hk.2) (.bool true)) (fun _ hk => hk.2) (.int .u64 0)) (fun _ hk => hk.2) (.int .u64 0)) (fun _ hk => hk.1))); (case aS => exact (below_size (zB HB))); (case aL => have := LMc31.out; omega); intro v135 w37 ho hb hg hat; rw [← Ny134.out] at ho; replace HO_9 := Aside0.mk (Kd.R_after (ok := (fun _ => True)) (by (with_reducible repeat (first | apply Kd.R_alloc | apply Kd.R_drewN | apply Kd.R_drew)); exact Kd.R_mono (Kd.R_far (p := ⟨gb133, 2, none⟩) (Kd.R_far (p := ⟨gb133, 1, none⟩) (Kd.R_far (p := ⟨gb133, 0, none⟩) (Kd.R_types HO_9.out BK133.out (by decide)) (fun _ hk => hk.2) (.bool true)) (fun _ hk => hk.2) (.int .u64 0)) (fun _ hk => hk.2) (.int .u64 0)) (fun _ hk => ⟨trivial, hk.1⟩)) hg hat); replace BK118 := Aside0.mk (blk_grown (g := gb118) (o := .cells #[.bool x119000_4, .int .u64 x119001_4, .int .u64 x119002_4] 25 (0, 0)) (by refine zL ?_; refine blk_far ?_ NB118_133.out _; refine zL ?_; refine blk_far ?_ NB118_133.out _; refine zL ?_; refine blk_far ?_ NB118_133.out _; refine zL ?_; exact BK118.out) hg (Kd.R_ne HO_7.out BK118.out (by decide))); replace BK133 := Aside0.mk (blk_grown (g := gb133) (o := .cells #[.bool true, .int .u64 0, .int .u64 0] 25 (0, 0)) (by refine zL ?_; refine blk_put (cs := #[.bool true, .int .u64 0, .int .u64 0]) ?_ 2 _ rfl; refine zL ?_; refine blk_put (cs := #[.bool true, .int .u64 0, .int .u64 0]) ?_ 1 _ rfl; refine zL ?_; refine blk_put (cs := #[.bool false, .int .u64 0, .int .u64 0]) ?_ 0 _ rfl; refine zL ?_; exact BK133.out) hg (Kd.R_ne HO_7.out BK133.out (by decide))); replace HB := Aside0.mk (hb); have HO136 := Aside0.mk (ho); clear HO_7; clear ho hb hg hat; obtain ⟨Ao38, co38, eo38⟩ := Kd.R_slice HO136.out; subst eo38))
         go_loopg [72] k2 (fun kq v72 w' => ∃ (x72_3 : Int) (x134001_3 : Int) (x134002_3 : Int), v72 = .int .i64 x72_3 ∧ Aside0 (address_parse6.l1 kq y134 (y134.length : Int) x72_3 true x134001_3 x134002_3 = some (r1, r2, r3, r4)) ∧ Aside0 (kq ≤ k2) ∧ Aside0 (Kd.R (Kd.int .u64) 23 w' w.heap.size (fun _ => True) (.slice Ao38 y134.length co38) y134) ∧ Aside0 (w'.heap[gb118]? = some (.cells #[.bool x119000_4, .int .u64 x119001_4, .int .u64 x119002_4] 25 (0, 0))) ∧ Aside0 (w'.heap[gb133]? = some (.cells #[.bool true, .int .u64 x134001_3, .int .u64 x134002_3] 25 (0, 0))) ∧ Aside0 (Below w.heap.size w w'))
         case atStart => exact ⟨(0), (0), (0), (by first | rfl | (simp; done) | (simp [*]; done)), H', ⟨Nat.le_refl _⟩, ⟨by (with_reducible repeat (first | apply Kd.R_alloc | apply Kd.R_drewN | apply Kd.R_drew)); exact Kd.R_mono HO136.out (fun _ hk => trivial)⟩, ⟨zK BK118⟩, ⟨zK BK133⟩, ⟨zB HB⟩⟩
         case round =>
          clear H'
          try clear c1
          try clear c2
          try clear p2
          try clear c3
          try clear c4
          try clear c6
          try clear p6
          try clear c11
          try clear c12
          try clear c15
          try clear c17
          try clear c19
          try clear c20
          try clear c20b0
          try clear c26
          try clear c26b0
          try clear c27
          try clear c31
          try clear c35
          try clear hcz13_0
          try clear hcz13_1
          try clear hcz13_2
          try clear hcz18_0
          try clear hcz18_1
          try clear hcz18_2
          try clear hcz23_0
          try clear hcz23_1
          try clear hcz23_2
          try clear hcz36_0
          try clear hcz36_1
          try clear hcz36_2
          try clear hfz13_0
          try clear hfz13_1
          try clear hfz13_2
          try clear hfz18_0
          try clear hfz18_1
          try clear hfz18_2
          try clear hfz23_0
          try clear hfz23_1
          try clear hfz23_2
          try clear hfz36_0
          try clear hfz36_1
          try clear hfz36_2
          try clear p2
          try clear p6
          obtain ⟨x72_3, x134001_3, x134002_3, rfl, HA, HK3, HO_70, BK118, BK133, HB⟩ := hrel
          cases gk with
          | zero => exact absurd HA.out (by simp [address_parse6.l1])
          | succ k3 =>
           have H := HA.out
           clear HA
           simp only [address_parse6.l1] at H
           by_cases c39 : x72_3 < (y134.length : Int)
           · rw [if_pos c39] at H
             have c39b0 : decide (x72_3 < (y134.length : Int)) = true := decide_eq_true c39
             clear c39
             by_cases c40 : 0 ≤ x72_3
             · rw [if_pos c40] at H
               have c40b0 : decide (0 ≤ x72_3) = true := decide_eq_true c40
               clear c40
               by_cases c41 : x72_3 < (y134.length : Int)
               · rw [if_pos c41] at H
                 have c41b0 : decide (x72_3 < (y134.length : Int)) = true := decide_eq_true c41
                 clear c41
                 by_cases c42 : x72_3 < 4
                 · rw [if_pos c42] at H
                   have c42b0 : decide (x72_3 < 4) = true := decide_eq_true c42
                   clear c42
                   have H' := Aside0.mk H
                   clear H
                   have p137 : 0 ≤ (x72_3 : Int) := za
                   have q137 : x72_3 < (y134.length : Int) := za
                   obtain ⟨ad137, e137, hx137_0⟩ := Kd.at_int (Kd.R_reads' HO_70.out).2.2 x72_3 p137 q137
                   cases e137
                   replace p137 := eq_true p137
                   replace q137 := eq_true q137
                   have hnb43 := NB133_118.out
                   have hnc43 := NB118_133.out
                   obtain ⟨hcz44_0, hcz44_1, hcz44_2⟩ := zc3 BK133
                   obtain ⟨hfz44_0, hfz44_1, hfz44_2⟩ := zf3 BK133
                   go_wp2
                   go_roundg k3
                   case measure => have := HJ4.out; have := HK2.out; have := HK3.out; omega
                   case rel => exact ⟨(wrap64 (x72_3 + 1)), (Go.bits .or .u64 (IntKind.u64.wrap (x134001_3 * 65536)) (rd y134 x72_3)), (x134002_3), (by first | rfl | (simp; done) | (simp [*]; done)), H', ⟨by have := HJ4.out; have := HK2.out; have := HK3.out; omega⟩, ⟨by (with_reducible repeat (first | apply Kd.R_alloc | apply Kd.R_drewN | apply Kd.R_drew)); exact Kd.R_mono (Kd.R_far (p := ⟨gb133, 1, none⟩) (Kd.R_types HO_70.out BK133.out (by decide)) (fun _ hk => hk.2) (.int .u64 (Go.bits .or .u64 (IntKind.u64.wrap (x134001_3 * 65536)) (rd y134 x72_3)))) (fun _ hk => trivial)⟩, ⟨by refine zL ?_; refine blk_far ?_ NB118_133.out _; refine zL ?_; exact BK118.out⟩, ⟨by refine zL ?_; refine blk_put (cs := #[.bool true, .int .u64 x134001_3, .int .u64 x134002_3]) ?_ 1 _ rfl; refine zL ?_; exact BK133.out⟩, ⟨zB HB⟩⟩
                 · rw [if_neg c42] at H
                   have c42b0 : decide (x72_3 < 4) = false := decide_eq_false c42
                   clear c42
                   have H' := Aside0.mk H
                   clear H
                   have p137 : 0 ≤ (x72_3 : Int) := za
                   have q137 : x72_3 < (y134.length : Int) := za
                   obtain ⟨ad137, e137, hx137_0⟩ := Kd.at_int (Kd.R_reads' HO_70.out).2.2 x72_3 p137 q137
                   cases e137
                   replace p137 := eq_true p137
                   replace q137 := eq_true q137
                   have hnb45 := NB133_118.out
                   have hnc45 := NB118_133.out
                   obtain ⟨hcz46_0, hcz46_1, hcz46_2⟩ := zc3 BK133
                   obtain ⟨hfz46_0, hfz46_1, hfz46_2⟩ := zf3 BK133
                   go_wp2
                   go_roundg k3
                   case measure => have := HJ4.out; have := HK2.out; have := HK3.out; omega
                   case rel => exact ⟨(wrap64 (x72_3 + 1)), (x134001_3), (Go.bits .or .u64 (IntKind.u64.wrap (x134002_3 * 65536)) (rd y134 x72_3)), (by first | rfl | (simp; done) | (simp [*]; done)), H', ⟨by have := HJ4.out; have := HK2.out; have := HK3.out; omega⟩, ⟨by (with_reducible repeat (first | apply Kd.R_alloc | apply Kd.R_drewN | apply Kd.R_drew)); exact Kd.R_mono (Kd.R_far (p := ⟨gb133, 2, none⟩) (Kd.R_types HO_70.out BK133.out (by decide)) (fun _ hk => hk.2) (.int .u64 (Go.bits .or .u64 (IntKind.u64.wrap (x134002_3 * 65536)) (rd y134 x72_3)))) (fun _ hk => trivial)⟩, ⟨by refine zL ?_; refine blk_far ?_ NB118_133.out _; refine zL ?_; exact BK118.out⟩, ⟨by refine zL ?_; refine blk_put (cs := #[.bool true, .int .u64 x134001_3, .int .u64 x134002_3]) ?_ 2 _ rfl; refine zL ?_; exact BK133.out⟩, ⟨zB HB⟩⟩
               · rw [if_neg c41] at H
                 exact absurd H (by simp)
             · rw [if_neg c40] at H
               exact absurd H (by simp)
           · rw [if_neg c39] at H
             have c39b0 : decide (x72_3 < (y134.length : Int)) = false := decide_eq_false c39
             clear c39
             simp only [Option.some.injEq, Prod.mk.injEq] at H
             obtain ⟨rfl, rfl, rfl, rfl⟩ := H
             have hnb47 := NB133_118.out
             have hnc47 := NB118_133.out
             obtain ⟨hcz48_0, hcz48_1, hcz48_2⟩ := zc3 BK133
             obtain ⟨hfz48_0, hfz48_1, hfz48_2⟩ := zf3 BK133
             obtain ⟨hcz49_0, hcz49_1, hcz49_2⟩ := zc3 BK118
             obtain ⟨hfz49_0, hfz49_1, hfz49_2⟩ := zf3 BK118
             go_wp2
             refine bodyPost_ret (results_ct rfl _ _ gb118 25 #[.bool true, .int .u64 x134001_3, .int .u64 x134002_3] (0, 0) _ rfl (by refine zL ?_; refine blk_put (cs := #[.bool true, .int .u64 x134001_3, .int .u64 x119002_4]) ?_ 2 _ rfl; refine zL ?_; refine blk_put (cs := #[.bool true, .int .u64 x119001_4, .int .u64 x119002_4]) ?_ 1 _ rfl; refine zL ?_; refine blk_put (cs := #[.bool x119000_4, .int .u64 x119001_4, .int .u64 x119002_4]) ?_ 0 _ rfl; refine zL ?_; exact BK118.out) Tryd.underlying25 rfl (by kernel_rfl)) rfl ?_
             exact ⟨by first | rfl | (simp [errW_none, errW_some] <;> rfl) | (simp [*, errW_none, errW_some] <;> rfl), by repeat (first | (with_reducible first | exact HB.out | apply below_alloc | apply pw_below_drewN | apply below_drew1 | refine below_set ?_ GE118.out | refine below_set ?_ GE133.out) | exact HB.out)⟩
       · rw [if_neg c31] at H
         exact absurd H (by simp)
end Go.Proofs.YtlgfinnldhjgeaaDoor.Q
end

section
namespace Go.Proofs.YtlgfinnldhjgeaaDoor.Q
open Go.RowKit Go.Proofs.YtlgfinnldhjgeaaDoorW.PrintWords Go.Proofs.YtlgfinnldhjgeaaDoorW.PrintLast Go.Proofs.YtlgfinnldhjgeaaDoorW.PrintMore
attribute [local go_sem] max2_int min2_int max_two min_two max_three min_three max_four min_four
set_option linter.unusedVariables false
set_option linter.unusedSimpArgs false
def address_Parse.f (k : Nat) (a0 : ByteArray) : Option (Bool × Int × Int × Int) := if (a0.size : Int) > 64 then (some (false, 0, 0, 3)) else ((address_parse4.f k a0).bind fun bt139 => (if bt139.2.2.2 = true then (some (bt139.1, bt139.2.1, bt139.2.2.1, 0)) else ((address_parse6.f k a0).bind fun bt144 => (if bt144.2.2.2 = true then (some (bt144.1, bt144.2.1, bt144.2.2.1, 0)) else (some (false, 0, 0, 2))))))
theorem address_Parse.mono : ∀ a0 k, LeO (address_Parse.f k a0) (address_Parse.f (k + 1) a0) := by
  intro a0 k
  unfold address_Parse.f
  repeat' first
      | (with_reducible exact address_parse4.mono _ _)
      | (with_reducible exact address_parse6.mono _ _)
      | (with_reducible exact LeO.refl _)
      | (with_reducible exact LeO.none _)
      | (with_reducible refine LeO.ite ?_ ?_)
      | (with_reducible refine LeO.bind ?_ (fun _ => ?_))
      | exact address_parse4.mono _ _
      | exact address_parse6.mono _ _
      | exact LeO.none _
      | refine LeO.ite ?_ ?_
      | refine LeO.bind ?_ (fun _ => ?_)
set_option maxHeartbeats 8000000 in
set_option maxRecDepth 100000 in
theorem address_Parse.calls (k : Nat) (a0 : ByteArray) (r1 : Bool) (r2 : Int) (r3 : Int) (r4 : Int) (w : World) (h : address_Parse.f k a0 = some (r1, r2, r3, r4)) (hW_ : WOK w) :
 Calls Tryd.prog 11 #[.string a0] w fun e w' => e = .returned (.tuple #[.agg #[.bool r1, .int .u64 r2, .int .u64 r3], .int .i64 r4]) ∧ Below w.heap.size w w' := by
 have hu25 := Tryd.underlying25
 have HB := Aside0.mk (Below.refl w.heap.size w)
 unfold address_Parse.f at h; have H := h
 clear h
 by_cases c2 : (a0.size : Int) > 64
 · rw [if_pos c2] at H
   have c2b0 : decide (64 < (a0.size : Int)) = true := decide_eq_true c2
   have c2b1 : decide (64 < a0.size) = true := decide_eq_true (by omega)
   clear c2
   simp only [Option.some.injEq, Prod.mk.injEq] at H
   obtain ⟨rfl, rfl, rfl, rfl⟩ := H
   go_enter Tryd.func11, Tryd.ntmps11
   go_wp2_with (first | ((with_reducible refine gate_dst (N := 2) rfl ?_); refine zx 2 #[.bool false, .int .u64 0, .int .u64 0] 25 ?_; intro gb138 hg w3 hbox hb; have BK138 := Aside0.mk (hbox); have GW138 := Aside0.mk ((by rw [hg]; exact (below_size (zB HB)) : w.heap.size ≤ gb138)); have GE138 := Aside0.mk ((by rw [hg]; exact (below_size (zB HB)) : w.heap.size ≤ gb138)); replace HB := Aside0.mk (below_step (zB HB) hb); clear hb hbox hg; obtain ⟨hcz4_0, hcz4_1, hcz4_2⟩ := zc3 BK138; obtain ⟨hfz4_0, hfz4_1, hfz4_2⟩ := zf3 BK138))
   refine bodyPost_ret (results_ct rfl _ _ gb138 25 #[.bool false, .int .u64 0, .int .u64 0] (0, 0) _ rfl (by refine zL ?_; refine blk_put (cs := #[.bool false, .int .u64 0, .int .u64 0]) ?_ 2 _ rfl; refine zL ?_; refine blk_put (cs := #[.bool false, .int .u64 0, .int .u64 0]) ?_ 1 _ rfl; refine zL ?_; refine blk_put (cs := #[.bool false, .int .u64 0, .int .u64 0]) ?_ 0 _ rfl; refine zL ?_; exact BK138.out) Tryd.underlying25 rfl (by kernel_rfl)) rfl ?_
   exact ⟨by first | rfl | (simp [errW_none, errW_some] <;> rfl) | (simp [*, errW_none, errW_some] <;> rfl), by repeat (first | (with_reducible first | exact HB.out | apply below_alloc | apply pw_below_drewN | apply below_drew1 | refine below_set ?_ GE138.out) | exact HB.out)⟩
 · rw [if_neg c2] at H
   have c2b0 : decide (64 < (a0.size : Int)) = false := decide_eq_false c2
   have c2b1 : decide (64 < a0.size) = false := decide_eq_false (by omega)
   clear c2
   replace H := Option.bind_eq_some_iff.mp H
   obtain ⟨⟨t139, t140, t141, t142⟩, A50, H⟩ := H
   replace H : (if t142 = true then (some (t139, t140, t141, 0)) else ((address_parse6.f k a0).bind fun bt144 => (if bt144.2.2.2 = true then (some (bt144.1, bt144.2.1, bt144.2.2.1, 0)) else (some (false, 0, 0, 2))))) = some (r1, r2, r3, r4) := H
   have A5 := Aside0.mk A50
   clear A50
   by_cases c6 : t142 = true
   · subst c6
     rw [if_pos rfl] at H
     simp only [Option.some.injEq, Prod.mk.injEq] at H
     obtain ⟨rfl, rfl, rfl, rfl⟩ := H
     go_enter Tryd.func11, Tryd.ntmps11
     go_wp2_with (first | ((with_reducible refine gate_dst (N := 2) rfl ?_); refine zx 2 #[.bool false, .int .u64 0, .int .u64 0] 25 ?_; intro gb138 hg w7 hbox hb; have BK138 := Aside0.mk (hbox); have GW138 := Aside0.mk ((by rw [hg]; exact (below_size (zB HB)) : w.heap.size ≤ gb138)); have GE138 := Aside0.mk ((by rw [hg]; exact (below_size (zB HB)) : w.heap.size ≤ gb138)); replace HB := Aside0.mk (below_step (zB HB) hb); clear hb hbox hg) | ((with_reducible refine gate_callee (f := 39) rfl ?_); refine goesL_ (some 14) rfl rfl Tryd.func39 (by kernel_rfl) rfl #[.string a0] rfl (by (try simp only [List.map_toArray, List.map_cons, List.map_nil]); first | done | rfl | (simp only [List.length_drop, List.length_take]; rfl)) ?_; (with_reducible refine (address_parse4.calls k a0 t139 t140 t141 true _ A5.out (WOK.below hW_ (zB HB))).mono ?_); rintro e w8 ⟨rfl, hb⟩; refine ⟨_, rfl, ?_⟩; replace BK138 := Aside0.mk (blk_below (g := gb138) (o := .cells #[.bool false, .int .u64 0, .int .u64 0] 25 (0, 0)) (zK BK138) hb); replace HB := Aside0.mk (below_step (zB HB) hb); (try clear hb)) | ((with_reducible refine gate_dst (N := 4) rfl ?_); refine zx 4 #[.bool false, .int .u64 0, .int .u64 0] 25 ?_; intro gb143 hg w9 hbox hb; have BK143 := Aside0.mk (hbox); have GW143 := Aside0.mk ((by rw [hg]; exact (below_size (zB HB)) : w.heap.size ≤ gb143)); have GE143 := Aside0.mk ((by rw [hg]; exact (below_size (zB HB)) : w.heap.size ≤ gb143)); replace HB := Aside0.mk (below_step (zB HB) hb); have NB138_143 := Aside0.mk ((by rw [hg]; exact Nat.ne_of_lt (blk_lt (g := gb138) (o := .cells #[.bool false, .int .u64 0, .int .u64 0] 25 (0, 0)) (zK BK138)) : gb138 ≠ gb143)); have NB143_138 := Aside0.mk ((by rw [hg]; exact Nat.ne_of_gt (blk_lt (g := gb138) (o := .cells #[.bool false, .int .u64 0, .int .u64 0] 25 (0, 0)) (zK BK138)) : gb143 ≠ gb138)); replace BK138 := Aside0.mk (blk_below (g := gb138) (o := .cells #[.bool false, .int .u64 0, .int .u64 0] 25 (0, 0)) (zK BK138) hb); clear hb hbox hg; have hnb10 := NB143_138.out; have hnc10 := NB138_143.out; obtain ⟨hcz11_0, hcz11_1, hcz11_2⟩ := zc3 BK143; obtain ⟨hfz11_0, hfz11_1, hfz11_2⟩ := zf3 BK143; obtain ⟨hcz12_0, hcz12_1, hcz12_2⟩ := zc3 BK138; obtain ⟨hfz12_0, hfz12_1, hfz12_2⟩ := zf3 BK138))
     refine bodyPost_ret (results_ct rfl _ _ gb138 25 #[.bool t139, .int .u64 t140, .int .u64 t141] (0, 0) _ rfl (by refine zL ?_; refine blk_put (cs := #[.bool t139, .int .u64 t140, .int .u64 0]) ?_ 2 _ rfl; refine zL ?_; refine blk_put (cs := #[.bool t139, .int .u64 0, .int .u64 0]) ?_ 1 _ rfl; refine zL ?_; refine blk_put (cs := #[.bool false, .int .u64 0, .int .u64 0]) ?_ 0 _ rfl; refine zL ?_; refine blk_far ?_ NB138_143.out _; refine zL ?_; refine blk_far ?_ NB138_143.out _; refine zL ?_; refine blk_far ?_ NB138_143.out _; refine zL ?_; exact BK138.out) Tryd.underlying25 rfl (by kernel_rfl)) rfl ?_
     exact ⟨by first | rfl | (simp [errW_none, errW_some] <;> rfl) | (simp [*, errW_none, errW_some] <;> rfl), by repeat (first | (with_reducible first | exact HB.out | apply below_alloc | apply pw_below_drewN | apply below_drew1 | refine below_set ?_ GE138.out | refine below_set ?_ GE143.out) | exact HB.out)⟩
   · replace c6 := Bool.eq_false_iff.mpr c6
     subst c6
     rw [if_neg zF] at H
     replace H := Option.bind_eq_some_iff.mp H
     obtain ⟨⟨t144, t145, t146, t147⟩, A130, H⟩ := H
     replace H : (if t147 = true then (some (t144, t145, t146, 0)) else (some (false, 0, 0, 2))) = some (r1, r2, r3, r4) := H
     have A13 := Aside0.mk A130
     clear A130
     by_cases c14 : t147 = true
     · subst c14
       rw [if_pos rfl] at H
       simp only [Option.some.injEq, Prod.mk.injEq] at H
       obtain ⟨rfl, rfl, rfl, rfl⟩ := H
       go_enter Tryd.func11, Tryd.ntmps11
       go_wp2_with (first | ((with_reducible refine gate_dst (N := 2) rfl ?_); refine zx 2 #[.bool false, .int .u64 0, .int .u64 0] 25 ?_; intro gb138 hg w15 hbox hb; have BK138 := Aside0.mk (hbox); have GW138 := Aside0.mk ((by rw [hg]; exact (below_size (zB HB)) : w.heap.size ≤ gb138)); have GE138 := Aside0.mk ((by rw [hg]; exact (below_size (zB HB)) : w.heap.size ≤ gb138)); replace HB := Aside0.mk (below_step (zB HB) hb); clear hb hbox hg) | ((with_reducible refine gate_callee (f := 39) rfl ?_); refine goesL_ (some 14) rfl rfl Tryd.func39 (by kernel_rfl) rfl #[.string a0] rfl (by (try simp only [List.map_toArray, List.map_cons, List.map_nil]); first | done | rfl | (simp only [List.length_drop, List.length_take]; rfl)) ?_; (with_reducible refine (address_parse4.calls k a0 t139 t140 t141 false _ A5.out (WOK.below hW_ (zB HB))).mono ?_); rintro e w16 ⟨rfl, hb⟩; refine ⟨_, rfl, ?_⟩; replace BK138 := Aside0.mk (blk_below (g := gb138) (o := .cells #[.bool false, .int .u64 0, .int .u64 0] 25 (0, 0)) (zK BK138) hb); replace HB := Aside0.mk (below_step (zB HB) hb); (try clear hb)) | ((with_reducible refine gate_dst (N := 4) rfl ?_); refine zx 4 #[.bool false, .int .u64 0, .int .u64 0] 25 ?_; intro gb143 hg w17 hbox hb; have BK143 := Aside0.mk (hbox); have GW143 := Aside0.mk ((by rw [hg]; exact (below_size (zB HB)) : w.heap.size ≤ gb143)); have GE143 := Aside0.mk ((by rw [hg]; exact (below_size (zB HB)) : w.heap.size ≤ gb143)); replace HB := Aside0.mk (below_step (zB HB) hb); have NB138_143 := Aside0.mk ((by rw [hg]; exact Nat.ne_of_lt (blk_lt (g := gb138) (o := .cells #[.bool false, .int .u64 0, .int .u64 0] 25 (0, 0)) (zK BK138)) : gb138 ≠ gb143)); have NB143_138 := Aside0.mk ((by rw [hg]; exact Nat.ne_of_gt (blk_lt (g := gb138) (o := .cells #[.bool false, .int .u64 0, .int .u64 0] 25 (0, 0)) (zK BK138)) : gb143 ≠ gb138)); replace BK138 := Aside0.mk (blk_below (g := gb138) (o := .cells #[.bool false, .int .u64 0, .int .u64 0] 25 (0, 0)) (zK BK138) hb); clear hb hbox hg; have hnb18 := NB143_138.out; have hnc18 := NB138_143.out; obtain ⟨hcz19_0, hcz19_1, hcz19_2⟩ := zc3 BK143; obtain ⟨hfz19_0, hfz19_1, hfz19_2⟩ := zf3 BK143) | ((with_reducible refine gate_callee (f := 40) rfl ?_); refine goesL_ (some 21) rfl rfl Tryd.func40 (by kernel_rfl) rfl #[.string a0] rfl (by (try simp only [List.map_toArray, List.map_cons, List.map_nil]); first | done | rfl | (simp only [List.length_drop, List.length_take]; rfl)) ?_; (with_reducible refine (address_parse6.calls k a0 t144 t145 t146 true _ A13.out (WOK.below hW_ (zB HB))).mono ?_); rintro e w20 ⟨rfl, hb⟩; refine ⟨_, rfl, ?_⟩; replace BK138 := Aside0.mk (blk_below (g := gb138) (o := .cells #[.bool false, .int .u64 0, .int .u64 0] 25 (0, 0)) (by refine zL ?_; refine blk_far ?_ NB138_143.out _; refine zL ?_; refine blk_far ?_ NB138_143.out _; refine zL ?_; refine blk_far ?_ NB138_143.out _; refine zL ?_; exact BK138.out) hb); replace BK143 := Aside0.mk (blk_below (g := gb143) (o := .cells #[.bool t139, .int .u64 t140, .int .u64 t141] 25 (0, 0)) (by refine zL ?_; refine blk_put (cs := #[.bool t139, .int .u64 t140, .int .u64 0]) ?_ 2 _ rfl; refine zL ?_; refine blk_put (cs := #[.bool t139, .int .u64 0, .int .u64 0]) ?_ 1 _ rfl; refine zL ?_; refine blk_put (cs := #[.bool false, .int .u64 0, .int .u64 0]) ?_ 0 _ rfl; refine zL ?_; exact BK143.out) hb); replace HB := Aside0.mk (below_step (zB HB) hb); (try clear hb)) | ((with_reducible refine gate_dst (N := 6) rfl ?_); refine zx 6 #[.bool false, .int .u64 0, .int .u64 0] 25 ?_; intro gb148 hg w21 hbox hb; have BK148 := Aside0.mk (hbox); have GW148 := Aside0.mk ((by rw [hg]; exact (below_size (zB HB)) : w.heap.size ≤ gb148)); have GE148 := Aside0.mk ((by rw [hg]; exact (below_size (zB HB)) : w.heap.size ≤ gb148)); replace HB := Aside0.mk (below_step (zB HB) hb); have NB138_148 := Aside0.mk ((by rw [hg]; exact Nat.ne_of_lt (blk_lt (g := gb138) (o := .cells #[.bool false, .int .u64 0, .int .u64 0] 25 (0, 0)) (zK BK138)) : gb138 ≠ gb148)); have NB148_138 := Aside0.mk ((by rw [hg]; exact Nat.ne_of_gt (blk_lt (g := gb138) (o := .cells #[.bool false, .int .u64 0, .int .u64 0] 25 (0, 0)) (zK BK138)) : gb148 ≠ gb138)); replace BK138 := Aside0.mk (blk_below (g := gb138) (o := .cells #[.bool false, .int .u64 0, .int .u64 0] 25 (0, 0)) (zK BK138) hb); have NB143_148 := Aside0.mk ((by rw [hg]; exact Nat.ne_of_lt (blk_lt (g := gb143) (o := .cells #[.bool t139, .int .u64 t140, .int .u64 t141] 25 (0, 0)) (zK BK143)) : gb143 ≠ gb148)); have NB148_143 := Aside0.mk ((by rw [hg]; exact Nat.ne_of_gt (blk_lt (g := gb143) (o := .cells #[.bool t139, .int .u64 t140, .int .u64 t141] 25 (0, 0)) (zK BK143)) : gb148 ≠ gb143)); replace BK143 := Aside0.mk (blk_below (g := gb143) (o := .cells #[.bool t139, .int .u64 t140, .int .u64 t141] 25 (0, 0)) (zK BK143) hb); clear hb hbox hg; have hnb22 := NB148_138.out; have hnc22 := NB138_148.out; have hnb23 := NB148_143.out; have hnc23 := NB143_148.out; obtain ⟨hcz24_0, hcz24_1, hcz24_2⟩ := zc3 BK148; obtain ⟨hfz24_0, hfz24_1, hfz24_2⟩ := zf3 BK148; obtain ⟨hcz25_0, hcz25_1, hcz25_2⟩ := zc3 BK138; obtain ⟨hfz25_0, hfz25_1, hfz25_2⟩ := zf3 BK138))
       refine bodyPost_ret (results_ct rfl _ _ gb138 25 #[.bool t144, .int .u64 t145, .int .u64 t146] (0, 0) _ rfl (by refine zL ?_; refine blk_put (cs := #[.bool t144, .int .u64 t145, .int .u64 0]) ?_ 2 _ rfl; refine zL ?_; refine blk_put (cs := #[.bool t144, .int .u64 0, .int .u64 0]) ?_ 1 _ rfl; refine zL ?_; refine blk_put (cs := #[.bool false, .int .u64 0, .int .u64 0]) ?_ 0 _ rfl; refine zL ?_; refine blk_far ?_ NB138_148.out _; refine zL ?_; refine blk_far ?_ NB138_148.out _; refine zL ?_; refine blk_far ?_ NB138_148.out _; refine zL ?_; exact BK138.out) Tryd.underlying25 rfl (by kernel_rfl)) rfl ?_
       exact ⟨by first | rfl | (simp [errW_none, errW_some] <;> rfl) | (simp [*, errW_none, errW_some] <;> rfl), by repeat (first | (with_reducible first | exact HB.out | apply below_alloc | apply pw_below_drewN | apply below_drew1 | refine below_set ?_ GE138.out | refine below_set ?_ GE143.out | refine below_set ?_ GE148.out) | exact HB.out)⟩
     · replace c14 := Bool.eq_false_iff.mpr c14
       subst c14
       rw [if_neg zF] at H
       simp only [Option.some.injEq, Prod.mk.injEq] at H
       obtain ⟨rfl, rfl, rfl, rfl⟩ := H
       go_enter Tryd.func11, Tryd.ntmps11
       go_wp2_with (first | ((with_reducible refine gate_dst (N := 2) rfl ?_); refine zx 2 #[.bool false, .int .u64 0, .int .u64 0] 25 ?_; intro gb138 hg w26 hbox hb; have BK138 := Aside0.mk (hbox); have GW138 := Aside0.mk ((by rw [hg]; exact (below_size (zB HB)) : w.heap.size ≤ gb138)); have GE138 := Aside0.mk ((by rw [hg]; exact (below_size (zB HB)) : w.heap.size ≤ gb138)); replace HB := Aside0.mk (below_step (zB HB) hb); clear hb hbox hg) | ((with_reducible refine gate_callee (f := 39) rfl ?_); refine goesL_ (some 14) rfl rfl Tryd.func39 (by kernel_rfl) rfl #[.string a0] rfl (by (try simp only [List.map_toArray, List.map_cons, List.map_nil]); first | done | rfl | (simp only [List.length_drop, List.length_take]; rfl)) ?_; (with_reducible refine (address_parse4.calls k a0 t139 t140 t141 false _ A5.out (WOK.below hW_ (zB HB))).mono ?_); rintro e w27 ⟨rfl, hb⟩; refine ⟨_, rfl, ?_⟩; replace BK138 := Aside0.mk (blk_below (g := gb138) (o := .cells #[.bool false, .int .u64 0, .int .u64 0] 25 (0, 0)) (zK BK138) hb); replace HB := Aside0.mk (below_step (zB HB) hb); (try clear hb)) | ((with_reducible refine gate_dst (N := 4) rfl ?_); refine zx 4 #[.bool false, .int .u64 0, .int .u64 0] 25 ?_; intro gb143 hg w28 hbox hb; have BK143 := Aside0.mk (hbox); have GW143 := Aside0.mk ((by rw [hg]; exact (below_size (zB HB)) : w.heap.size ≤ gb143)); have GE143 := Aside0.mk ((by rw [hg]; exact (below_size (zB HB)) : w.heap.size ≤ gb143)); replace HB := Aside0.mk (below_step (zB HB) hb); have NB138_143 := Aside0.mk ((by rw [hg]; exact Nat.ne_of_lt (blk_lt (g := gb138) (o := .cells #[.bool false, .int .u64 0, .int .u64 0] 25 (0, 0)) (zK BK138)) : gb138 ≠ gb143)); have NB143_138 := Aside0.mk ((by rw [hg]; exact Nat.ne_of_gt (blk_lt (g := gb138) (o := .cells #[.bool false, .int .u64 0, .int .u64 0] 25 (0, 0)) (zK BK138)) : gb143 ≠ gb138)); replace BK138 := Aside0.mk (blk_below (g := gb138) (o := .cells #[.bool false, .int .u64 0, .int .u64 0] 25 (0, 0)) (zK BK138) hb); clear hb hbox hg; have hnb29 := NB143_138.out; have hnc29 := NB138_143.out; obtain ⟨hcz30_0, hcz30_1, hcz30_2⟩ := zc3 BK143; obtain ⟨hfz30_0, hfz30_1, hfz30_2⟩ := zf3 BK143) | ((with_reducible refine gate_callee (f := 40) rfl ?_); refine goesL_ (some 21) rfl rfl Tryd.func40 (by kernel_rfl) rfl #[.string a0] rfl (by (try simp only [List.map_toArray, List.map_cons, List.map_nil]); first | done | rfl | (simp only [List.length_drop, List.length_take]; rfl)) ?_; (with_reducible refine (address_parse6.calls k a0 t144 t145 t146 false _ A13.out (WOK.below hW_ (zB HB))).mono ?_); rintro e w31 ⟨rfl, hb⟩; refine ⟨_, rfl, ?_⟩; replace BK138 := Aside0.mk (blk_below (g := gb138) (o := .cells #[.bool false, .int .u64 0, .int .u64 0] 25 (0, 0)) (by refine zL ?_; refine blk_far ?_ NB138_143.out _; refine zL ?_; refine blk_far ?_ NB138_143.out _; refine zL ?_; refine blk_far ?_ NB138_143.out _; refine zL ?_; exact BK138.out) hb); replace BK143 := Aside0.mk (blk_below (g := gb143) (o := .cells #[.bool t139, .int .u64 t140, .int .u64 t141] 25 (0, 0)) (by refine zL ?_; refine blk_put (cs := #[.bool t139, .int .u64 t140, .int .u64 0]) ?_ 2 _ rfl; refine zL ?_; refine blk_put (cs := #[.bool t139, .int .u64 0, .int .u64 0]) ?_ 1 _ rfl; refine zL ?_; refine blk_put (cs := #[.bool false, .int .u64 0, .int .u64 0]) ?_ 0 _ rfl; refine zL ?_; exact BK143.out) hb); replace HB := Aside0.mk (below_step (zB HB) hb); (try clear hb)) | ((with_reducible refine gate_dst (N := 6) rfl ?_); refine zx 6 #[.bool false, .int .u64 0, .int .u64 0] 25 ?_; intro gb148 hg w32 hbox hb; have BK148 := Aside0.mk (hbox); have GW148 := Aside0.mk ((by rw [hg]; exact (below_size (zB HB)) : w.heap.size ≤ gb148)); have GE148 := Aside0.mk ((by rw [hg]; exact (below_size (zB HB)) : w.heap.size ≤ gb148)); replace HB := Aside0.mk (below_step (zB HB) hb); have NB138_148 := Aside0.mk ((by rw [hg]; exact Nat.ne_of_lt (blk_lt (g := gb138) (o := .cells #[.bool false, .int .u64 0, .int .u64 0] 25 (0, 0)) (zK BK138)) : gb138 ≠ gb148)); have NB148_138 := Aside0.mk ((by rw [hg]; exact Nat.ne_of_gt (blk_lt (g := gb138) (o := .cells #[.bool false, .int .u64 0, .int .u64 0] 25 (0, 0)) (zK BK138)) : gb148 ≠ gb138)); replace BK138 := Aside0.mk (blk_below (g := gb138) (o := .cells #[.bool false, .int .u64 0, .int .u64 0] 25 (0, 0)) (zK BK138) hb); have NB143_148 := Aside0.mk ((by rw [hg]; exact Nat.ne_of_lt (blk_lt (g := gb143) (o := .cells #[.bool t139, .int .u64 t140, .int .u64 t141] 25 (0, 0)) (zK BK143)) : gb143 ≠ gb148)); have NB148_143 := Aside0.mk ((by rw [hg]; exact Nat.ne_of_gt (blk_lt (g := gb143) (o := .cells #[.bool t139, .int .u64 t140, .int .u64 t141] 25 (0, 0)) (zK BK143)) : gb148 ≠ gb143)); replace BK143 := Aside0.mk (blk_below (g := gb143) (o := .cells #[.bool t139, .int .u64 t140, .int .u64 t141] 25 (0, 0)) (zK BK143) hb); clear hb hbox hg; have hnb33 := NB148_138.out; have hnc33 := NB138_148.out; have hnb34 := NB148_143.out; have hnc34 := NB143_148.out; obtain ⟨hcz35_0, hcz35_1, hcz35_2⟩ := zc3 BK148; obtain ⟨hfz35_0, hfz35_1, hfz35_2⟩ := zf3 BK148; obtain ⟨hcz36_0, hcz36_1, hcz36_2⟩ := zc3 BK138; obtain ⟨hfz36_0, hfz36_1, hfz36_2⟩ := zf3 BK138))
       refine bodyPost_ret (results_ct rfl _ _ gb138 25 #[.bool false, .int .u64 0, .int .u64 0] (0, 0) _ rfl (by refine zL ?_; refine blk_put (cs := #[.bool false, .int .u64 0, .int .u64 0]) ?_ 2 _ rfl; refine zL ?_; refine blk_put (cs := #[.bool false, .int .u64 0, .int .u64 0]) ?_ 1 _ rfl; refine zL ?_; refine blk_put (cs := #[.bool false, .int .u64 0, .int .u64 0]) ?_ 0 _ rfl; refine zL ?_; refine blk_far ?_ NB138_148.out _; refine zL ?_; refine blk_far ?_ NB138_148.out _; refine zL ?_; refine blk_far ?_ NB138_148.out _; refine zL ?_; exact BK138.out) Tryd.underlying25 rfl (by kernel_rfl)) rfl ?_
       exact ⟨by first | rfl | (simp [errW_none, errW_some] <;> rfl) | (simp [*, errW_none, errW_some] <;> rfl), by repeat (first | (with_reducible first | exact HB.out | apply below_alloc | apply pw_below_drewN | apply below_drew1 | refine below_set ?_ GE138.out | refine below_set ?_ GE143.out | refine below_set ?_ GE148.out) | exact HB.out)⟩
end Go.Proofs.YtlgfinnldhjgeaaDoor.Q
end

section
namespace Go.Proofs.YtlgfinnldhjgeaaDoor.Q
open Go.RowKit Go.Proofs.YtlgfinnldhjgeaaDoorW.PrintWords Go.Proofs.YtlgfinnldhjgeaaDoorW.PrintLast Go.Proofs.YtlgfinnldhjgeaaDoorW.PrintMore
attribute [local go_sem] max2_int min2_int max_two min_two max_three min_three max_four min_four
set_option linter.unusedVariables false
set_option linter.unusedSimpArgs false
def address_size.f (a0_0 : Bool) (a0_1 : Int) (a0_2 : Int) : Option (Int) := if a0_0 = true then (some 128) else (some 32)
set_option maxHeartbeats 8000000 in
set_option maxRecDepth 100000 in
theorem address_size.calls (a0_0 : Bool) (a0_1 : Int) (a0_2 : Int) (r : Int) (w : World) (h : address_size.f a0_0 a0_1 a0_2 = some r) :
 Calls Tryd.prog 44 #[.agg #[.bool a0_0, .int .u64 a0_1, .int .u64 a0_2]] w fun e w' => e = .returned (.int .i64 r) ∧ Below w.heap.size w w' := by
 have hu25 := Tryd.underlying25
 have HB := Aside0.mk (Below.refl w.heap.size w)
 unfold address_size.f at h; have H := h
 clear h
 by_cases c2 : a0_0 = true
 · subst c2
   rw [if_pos rfl] at H
   obtain rfl := Option.some.inj H
   go_enter Tryd.func44, Tryd.ntmps44
   go_wp2_with (first | ((with_reducible refine gate_dst (N := 1) rfl ?_); refine zx 1 #[.bool true, .int .u64 a0_1, .int .u64 a0_2] 25 ?_; intro gb150 hg w3 hbox hb; have BK150 := Aside0.mk (hbox); have GW150 := Aside0.mk ((by rw [hg]; exact (below_size (zB HB)) : w.heap.size ≤ gb150)); have GE150 := Aside0.mk ((by rw [hg]; exact (below_size (zB HB)) : w.heap.size ≤ gb150)); replace HB := Aside0.mk (below_step (zB HB) hb); clear hb hbox hg; obtain ⟨hcz4_0, hcz4_1, hcz4_2⟩ := zc3 BK150; obtain ⟨hfz4_0, hfz4_1, hfz4_2⟩ := zf3 BK150))
   go_ret
   exact ⟨by first | rfl | (simp [errW_none, errW_some] <;> rfl) | (simp [*, errW_none, errW_some] <;> rfl), by repeat (first | (with_reducible first | exact HB.out | apply below_alloc | apply pw_below_drewN | apply below_drew1 | refine below_set ?_ GE150.out) | exact HB.out)⟩
 · replace c2 := Bool.eq_false_iff.mpr c2
   subst c2
   rw [if_neg zF] at H
   obtain rfl := Option.some.inj H
   go_enter Tryd.func44, Tryd.ntmps44
   go_wp2_with (first | ((with_reducible refine gate_dst (N := 1) rfl ?_); refine zx 1 #[.bool false, .int .u64 a0_1, .int .u64 a0_2] 25 ?_; intro gb150 hg w5 hbox hb; have BK150 := Aside0.mk (hbox); have GW150 := Aside0.mk ((by rw [hg]; exact (below_size (zB HB)) : w.heap.size ≤ gb150)); have GE150 := Aside0.mk ((by rw [hg]; exact (below_size (zB HB)) : w.heap.size ≤ gb150)); replace HB := Aside0.mk (below_step (zB HB) hb); clear hb hbox hg; obtain ⟨hcz6_0, hcz6_1, hcz6_2⟩ := zc3 BK150; obtain ⟨hfz6_0, hfz6_1, hfz6_2⟩ := zf3 BK150))
   go_ret
   exact ⟨by first | rfl | (simp [errW_none, errW_some] <;> rfl) | (simp [*, errW_none, errW_some] <;> rfl), by repeat (first | (with_reducible first | exact HB.out | apply below_alloc | apply pw_below_drewN | apply below_drew1 | refine below_set ?_ GE150.out) | exact HB.out)⟩
end Go.Proofs.YtlgfinnldhjgeaaDoor.Q
end

section
namespace Go.Proofs.YtlgfinnldhjgeaaDoor.Q
open Go.RowKit Go.Proofs.YtlgfinnldhjgeaaDoorW.PrintWords Go.Proofs.YtlgfinnldhjgeaaDoorW.PrintLast Go.Proofs.YtlgfinnldhjgeaaDoorW.PrintMore
attribute [local go_sem] max2_int min2_int max_two min_two max_three min_three max_four min_four
set_option linter.unusedVariables false
set_option linter.unusedSimpArgs false
def address_Valid.f (a0_0 : Bool) (a0_1 : Int) (a0_2 : Int) : Option (Bool) := if a0_0 = true then (some true) else (if a0_1 = 0 then (some (decide (a0_2 ≤ 4294967295))) else (some false))
set_option maxHeartbeats 8000000 in
set_option maxRecDepth 100000 in
theorem address_Valid.calls (a0_0 : Bool) (a0_1 : Int) (a0_2 : Int) (r : Bool) (w : World) (h : address_Valid.f a0_0 a0_1 a0_2 = some r) :
 Calls Tryd.prog 25 #[.agg #[.bool a0_0, .int .u64 a0_1, .int .u64 a0_2]] w fun e w' => e = .returned (.bool r) ∧ Below w.heap.size w w' := by
 have hu25 := Tryd.underlying25
 have HB := Aside0.mk (Below.refl w.heap.size w)
 unfold address_Valid.f at h; have H := h
 clear h
 by_cases c2 : a0_0 = true
 · subst c2
   rw [if_pos rfl] at H
   obtain rfl := Option.some.inj H
   go_enter Tryd.func25, Tryd.ntmps25
   go_wp2_with (first | ((with_reducible refine gate_dst (N := 1) rfl ?_); refine zx 1 #[.bool true, .int .u64 a0_1, .int .u64 a0_2] 25 ?_; intro gb149 hg w3 hbox hb; have BK149 := Aside0.mk (hbox); have GW149 := Aside0.mk ((by rw [hg]; exact (below_size (zB HB)) : w.heap.size ≤ gb149)); have GE149 := Aside0.mk ((by rw [hg]; exact (below_size (zB HB)) : w.heap.size ≤ gb149)); replace HB := Aside0.mk (below_step (zB HB) hb); clear hb hbox hg; obtain ⟨hcz4_0, hcz4_1, hcz4_2⟩ := zc3 BK149; obtain ⟨hfz4_0, hfz4_1, hfz4_2⟩ := zf3 BK149))
   go_ret
   exact ⟨by first | rfl | (simp [errW_none, errW_some] <;> rfl) | (simp [*, errW_none, errW_some] <;> rfl), by repeat (first | (with_reducible first | exact HB.out | apply below_alloc | apply pw_below_drewN | apply below_drew1 | refine below_set ?_ GE149.out) | exact HB.out)⟩
 · replace c2 := Bool.eq_false_iff.mpr c2
   subst c2
   rw [if_neg zF] at H
   by_cases c5 : a0_1 = 0
   · rw [if_pos c5] at H
     have c5b0 : (a0_1 == 0) = true := beq_iff_eq.mpr c5
     have c5b1 : (a0_1 != 0) = false := bne_eq_false_iff_eq.mpr c5
     clear c5
     obtain rfl := Option.some.inj H
     go_enter Tryd.func25, Tryd.ntmps25
     go_wp2_with (first | ((with_reducible refine gate_dst (N := 1) rfl ?_); refine zx 1 #[.bool false, .int .u64 a0_1, .int .u64 a0_2] 25 ?_; intro gb149 hg w6 hbox hb; have BK149 := Aside0.mk (hbox); have GW149 := Aside0.mk ((by rw [hg]; exact (below_size (zB HB)) : w.heap.size ≤ gb149)); have GE149 := Aside0.mk ((by rw [hg]; exact (below_size (zB HB)) : w.heap.size ≤ gb149)); replace HB := Aside0.mk (below_step (zB HB) hb); clear hb hbox hg; obtain ⟨hcz7_0, hcz7_1, hcz7_2⟩ := zc3 BK149; obtain ⟨hfz7_0, hfz7_1, hfz7_2⟩ := zf3 BK149))
     go_ret
     exact ⟨by first | rfl | (simp [errW_none, errW_some] <;> rfl) | (simp [*, errW_none, errW_some] <;> rfl), by repeat (first | (with_reducible first | exact HB.out | apply below_alloc | apply pw_below_drewN | apply below_drew1 | refine below_set ?_ GE149.out) | exact HB.out)⟩
   · rw [if_neg c5] at H
     have c5b0 : (a0_1 == 0) = false := beq_eq_false_iff_ne.mpr c5
     have c5b1 : (a0_1 != 0) = true := bne_iff_ne.mpr c5
     obtain rfl := Option.some.inj H
     go_enter Tryd.func25, Tryd.ntmps25
     go_wp2_with (first | ((with_reducible refine gate_dst (N := 1) rfl ?_); refine zx 1 #[.bool false, .int .u64 a0_1, .int .u64 a0_2] 25 ?_; intro gb149 hg w8 hbox hb; have BK149 := Aside0.mk (hbox); have GW149 := Aside0.mk ((by rw [hg]; exact (below_size (zB HB)) : w.heap.size ≤ gb149)); have GE149 := Aside0.mk ((by rw [hg]; exact (below_size (zB HB)) : w.heap.size ≤ gb149)); replace HB := Aside0.mk (below_step (zB HB) hb); clear hb hbox hg; obtain ⟨hcz9_0, hcz9_1, hcz9_2⟩ := zc3 BK149; obtain ⟨hfz9_0, hfz9_1, hfz9_2⟩ := zf3 BK149))
     go_ret
     exact ⟨by first | rfl | (simp [errW_none, errW_some] <;> rfl) | (simp [*, errW_none, errW_some] <;> rfl), by repeat (first | (with_reducible first | exact HB.out | apply below_alloc | apply pw_below_drewN | apply below_drew1 | refine below_set ?_ GE149.out) | exact HB.out)⟩
end Go.Proofs.YtlgfinnldhjgeaaDoor.Q
end

section
namespace Go.Proofs.YtlgfinnldhjgeaaDoor.Q
open Go.RowKit Go.Proofs.YtlgfinnldhjgeaaDoorW.PrintWords Go.Proofs.YtlgfinnldhjgeaaDoorW.PrintLast Go.Proofs.YtlgfinnldhjgeaaDoorW.PrintMore
attribute [local go_sem] max2_int min2_int max_two min_two max_three min_three max_four min_four
set_option linter.unusedVariables false
set_option linter.unusedSimpArgs false
def address_low.f (a0 : Int) : Option (Int) := if a0 ≥ 64 then (some 18446744073709551615) else (if a0 ≤ 0 then (some 0) else (if 0 ≤ a0 then (some (IntKind.u64.wrap ((shl .u64 1 a0) - 1))) else (none)))
set_option maxHeartbeats 8000000 in
set_option maxRecDepth 100000 in
theorem address_low.calls (a0 : Int) (r : Int) (w : World) (h : address_low.f a0 = some r) :
 Calls Tryd.prog 70 #[.int .i64 a0] w fun e w' => e = .returned (.int .u64 r) ∧ Drawn0 w w' := by
 unfold address_low.f at h; have H := h
 clear h
 by_cases c2 : a0 ≥ 64
 · rw [if_pos c2] at H
   have c2b0 : decide (64 ≤ a0) = true := decide_eq_true c2
   clear c2
   obtain rfl := Option.some.inj H
   go_enter Tryd.func70, Tryd.ntmps70
   go_wp2
   go_ret
   exact ⟨by first | rfl | (simp; done) | (simp [*]; done), by repeat (first | exact Drawn0.refl _ | apply Drawn0.step)⟩
 · rw [if_neg c2] at H
   have c2b0 : decide (64 ≤ a0) = false := decide_eq_false c2
   clear c2
   by_cases c3 : a0 ≤ 0
   · rw [if_pos c3] at H
     have c3b0 : decide (a0 ≤ 0) = true := decide_eq_true c3
     clear c3
     obtain rfl := Option.some.inj H
     go_enter Tryd.func70, Tryd.ntmps70
     go_wp2
     go_ret
     exact ⟨by first | rfl | (simp; done) | (simp [*]; done), by repeat (first | exact Drawn0.refl _ | apply Drawn0.step)⟩
   · rw [if_neg c3] at H
     have c3b0 : decide (a0 ≤ 0) = false := decide_eq_false c3
     clear c3
     by_cases c4 : 0 ≤ a0
     · rw [if_pos c4] at H
       have c4b0 := eq_true c4
       have c4b1 : decide (0 ≤ a0) = true := decide_eq_true c4
       clear c4
       obtain ⟨ji5, hji5⟩ : ∃ j_ : Int, (shl .u64 1 a0) = j_ := ⟨_, rfl⟩
       replace H : (some (IntKind.u64.wrap ((ji5) - 1))) = some r := by first | (rw [hji5] at H; exact H) | (simp only [hji5] at H ⊢; exact H)
       have hji5_ : (IntKind.u64.wrap (1 * 2 ^ min a0.toNat 64)) = ji5 := hji5
       have hji5z : a0 ≤ 64 → (IntKind.u64.wrap (1 * 2 ^ a0.toNat)) = ji5 := shl_small hji5
       have hji5u : (IntKind.u64.wrap (2 ^ min a0.toNat 64)) = ji5 := by have h_ := hji5_; rw [Int.one_mul] at h_; exact h_
       have hji5v : a0 ≤ 64 → (IntKind.u64.wrap (2 ^ a0.toNat)) = ji5 := fun hle_ => by have h_ := hji5z hle_; rw [Int.one_mul] at h_; exact h_
       obtain rfl := Option.some.inj H
       go_enter Tryd.func70, Tryd.ntmps70
       go_wp2
       go_ret
       exact ⟨by first | rfl | (simp; done) | (simp only [← hji5] <;> (first | rfl | simp)) | (simp [*]; done), by repeat (first | exact Drawn0.refl _ | apply Drawn0.step)⟩
     · rw [if_neg c4] at H
       exact absurd H (by simp)
end Go.Proofs.YtlgfinnldhjgeaaDoor.Q
end

section
namespace Go.Proofs.YtlgfinnldhjgeaaDoor.Q
open Go.RowKit Go.Proofs.YtlgfinnldhjgeaaDoorW.PrintWords Go.Proofs.YtlgfinnldhjgeaaDoorW.PrintLast Go.Proofs.YtlgfinnldhjgeaaDoorW.PrintMore
attribute [local go_sem] max2_int min2_int max_two min_two max_three min_three max_four min_four
set_option linter.unusedVariables false
set_option linter.unusedSimpArgs false
def address_mask.f (a0_0 : Bool) (a0_1 : Int) (a0_2 : Int) (a1 : Int) : Option (Int × Int) := (address_size.f a0_0 a0_1 a0_2).bind fun t152 => ((address_low.f (wrap64 ((wrap64 (t152 - a1)) - 64))).bind fun t153 => ((address_low.f (wrap64 (t152 - a1))).bind fun t154 => (some (t153, t154))))
set_option maxHeartbeats 8000000 in
set_option maxRecDepth 100000 in
theorem address_mask.calls (a0_0 : Bool) (a0_1 : Int) (a0_2 : Int) (a1 : Int) (r1 : Int) (r2 : Int) (w : World) (h : address_mask.f a0_0 a0_1 a0_2 a1 = some (r1, r2)) :
 Calls Tryd.prog 51 #[.agg #[.bool a0_0, .int .u64 a0_1, .int .u64 a0_2], .int .i64 a1] w fun e w' => e = .returned (.tuple #[.int .u64 r1, .int .u64 r2]) ∧ Below w.heap.size w w' := by
 have hu25 := Tryd.underlying25
 have HB := Aside0.mk (Below.refl w.heap.size w)
 unfold address_mask.f at h; have H := h
 clear h
 replace H := Option.bind_eq_some_iff.mp H
 obtain ⟨t152, A30, H⟩ := H
 replace H : ((address_low.f (wrap64 ((wrap64 (t152 - a1)) - 64))).bind fun t153 => ((address_low.f (wrap64 (t152 - a1))).bind fun t154 => (some (t153, t154)))) = some (r1, r2) := H
 have A3 := Aside0.mk A30
 clear A30
 replace H := Option.bind_eq_some_iff.mp H
 obtain ⟨t153, A40, H⟩ := H
 replace H : ((address_low.f (wrap64 (t152 - a1))).bind fun t154 => (some (t153, t154))) = some (r1, r2) := H
 have A4 := Aside0.mk A40
 clear A40
 replace H := Option.bind_eq_some_iff.mp H
 obtain ⟨t154, A50, H⟩ := H
 replace H : (some (t153, t154)) = some (r1, r2) := H
 have A5 := Aside0.mk A50
 clear A50
 simp only [Option.some.injEq, Prod.mk.injEq] at H
 obtain ⟨rfl, rfl⟩ := H
 go_enter Tryd.func51, Tryd.ntmps51
 go_wp2_with (first | ((with_reducible refine gate_dst (N := 2) rfl ?_); refine zx 2 #[.bool a0_0, .int .u64 a0_1, .int .u64 a0_2] 25 ?_; intro gb151 hg w6 hbox hb; have BK151 := Aside0.mk (hbox); have GW151 := Aside0.mk ((by rw [hg]; exact (below_size (zB HB)) : w.heap.size ≤ gb151)); have GE151 := Aside0.mk ((by rw [hg]; exact (below_size (zB HB)) : w.heap.size ≤ gb151)); replace HB := Aside0.mk (below_step (zB HB) hb); clear hb hbox hg; obtain ⟨hcz7_0, hcz7_1, hcz7_2⟩ := zc3 BK151; obtain ⟨hfz7_0, hfz7_1, hfz7_2⟩ := zf3 BK151) | ((with_reducible refine gate_callee (f := 44) rfl ?_); refine goesL_ (some 8) rfl rfl Tryd.func44 (by kernel_rfl) rfl #[.agg #[.bool a0_0, .int .u64 a0_1, .int .u64 a0_2]] rfl (by (try simp only [List.map_toArray, List.map_cons, List.map_nil]); first | done | rfl | (simp only [List.length_drop, List.length_take]; rfl)) ?_; (with_reducible refine (address_size.calls a0_0 a0_1 a0_2 t152 _ A3.out).mono ?_); rintro e w8 ⟨rfl, hb⟩; refine ⟨_, rfl, ?_⟩; replace BK151 := Aside0.mk (blk_below (g := gb151) (o := .cells #[.bool a0_0, .int .u64 a0_1, .int .u64 a0_2] 25 (0, 0)) (zK BK151) hb); replace HB := Aside0.mk (below_step (zB HB) hb); (try clear hb)) | ((with_reducible refine gate_callee (f := 70) rfl ?_); refine goesL_ (some 13) rfl rfl Tryd.func70 (by kernel_rfl) rfl #[.int .i64 (wrap64 ((wrap64 (t152 - a1)) - 64))] rfl (by (try simp only [List.map_toArray, List.map_cons, List.map_nil]); first | done | rfl | (simp only [List.length_drop, List.length_take]; rfl)) ?_; (with_reducible refine (address_low.calls (wrap64 ((wrap64 (t152 - a1)) - 64)) t153 _ A4.out).mono ?_); rintro e w' ⟨rfl, ⟨nd, rfl⟩⟩; refine ⟨_, rfl, ?_⟩) | ((with_reducible refine gate_callee (f := 70) rfl ?_); refine goesL_ (some 15) rfl rfl Tryd.func70 (by kernel_rfl) rfl #[.int .i64 (wrap64 (t152 - a1))] rfl (by (try simp only [List.map_toArray, List.map_cons, List.map_nil]); first | done | rfl | (simp only [List.length_drop, List.length_take]; rfl)) ?_; (with_reducible refine (address_low.calls (wrap64 (t152 - a1)) t154 _ A5.out).mono ?_); rintro e w' ⟨rfl, ⟨nd, rfl⟩⟩; refine ⟨_, rfl, ?_⟩))
 go_ret2
 exact ⟨by first | rfl | (simp [errW_none, errW_some] <;> rfl) | (simp [*, errW_none, errW_some] <;> rfl), by repeat (first | (with_reducible first | exact HB.out | apply below_alloc | apply pw_below_drewN | apply below_drew1 | refine below_set ?_ GE151.out) | exact HB.out)⟩
end Go.Proofs.YtlgfinnldhjgeaaDoor.Q
end

section
namespace Go.Proofs.YtlgfinnldhjgeaaDoor.Q
open Go.RowKit Go.Proofs.YtlgfinnldhjgeaaDoorW.PrintWords Go.Proofs.YtlgfinnldhjgeaaDoorW.PrintLast Go.Proofs.YtlgfinnldhjgeaaDoorW.PrintMore
attribute [local go_sem] max2_int min2_int max_two min_two max_three min_three max_four min_four
set_option linter.unusedVariables false
set_option linter.unusedSimpArgs false
def address_ValidPrefix.f (a0_0 : Bool) (a0_1 : Int) (a0_2 : Int) (a0_3 : Int) : Option (Bool) := (address_Valid.f a0_0 a0_1 a0_2).bind fun t156 => (if t156 = true then (if a0_3 < 0 then (some false) else ((address_size.f a0_0 a0_1 a0_2).bind fun t157 => (if a0_3 > t157 then (some false) else ((address_mask.f a0_0 a0_1 a0_2 a0_3).bind fun bt158 => (if (Go.bits .and .u64 a0_1 bt158.1) = 0 then (some ((Go.bits .and .u64 a0_2 bt158.2) == 0)) else (some false)))))) else (some false))
def address_ValidPrefix.T1 : Bool × List (List Nat × List Nat) := (true, [([], []), ([0], [0]), ([1], [1]), ([2], [2]), ([3, 2], [3]), ([4], [4]), ([5, 4], [4, 5]), ([6, 4], [4, 6]), ([4, 7], [4, 7]), ([8, 4], [8]), ([9], [9]), ([10, 9], [9, 10]), ([9], [9]), ([12, 9], [9, 12]), ([13, 9, 9], [9, 13]), ([11, 14, 9], [9, 11, 14]), ([9, 15], [9, 15])])
def address_ValidPrefix.B1 : List Nat := [0, 1, 3, 7, 15, 31, 63, 127, 255, 511, 1023, 2047, 1023, 5119, 13311, 32767, 65535]
theorem address_ValidPrefix.tab1 : rtab .any (opsOf Tryd.f31 1) = address_ValidPrefix.T1 := by kernel_rfl
theorem address_ValidPrefix.bits1 : waitsOk address_ValidPrefix.T1.2 address_ValidPrefix.B1 = true := by kernel_rfl
set_option maxHeartbeats 8000000 in
set_option maxRecDepth 100000 in
theorem address_ValidPrefix.calls (a0_0 : Bool) (a0_1 : Int) (a0_2 : Int) (a0_3 : Int) (r : Bool) (w : World) (h : address_ValidPrefix.f a0_0 a0_1 a0_2 a0_3 = some r) :
 Calls Tryd.prog 31 #[.agg #[.bool a0_0, .int .u64 a0_1, .int .u64 a0_2, .int .i64 a0_3]] w fun e w' => e = .returned (.bool r) ∧ Below w.heap.size w w' := by
 have hu30 := Tryd.underlying30
 have hu25 := Tryd.underlying25
 have HB := Aside0.mk (Below.refl w.heap.size w)
 unfold address_ValidPrefix.f at h; have H := h
 clear h
 replace H := Option.bind_eq_some_iff.mp H
 obtain ⟨t156, A20, H⟩ := H
 try dsimp only at H
 have A2 := Aside0.mk A20
 clear A20
 by_cases c3 : t156 = true
 · subst c3
   rw [if_pos rfl] at H
   by_cases c4 : a0_3 < 0
   · rw [if_pos c4] at H
     have c4b0 : decide (a0_3 < 0) = true := decide_eq_true c4
     clear c4
     obtain rfl := Option.some.inj H
     go_enter Tryd.func31, Tryd.ntmps31
     try go_wp2_with (first | ((with_reducible refine gate_dst (N := 1) rfl ?_); refine zx 1 #[.bool a0_0, .int .u64 a0_1, .int .u64 a0_2, .int .i64 a0_3] 30 ?_; intro gb155 hg w5 hbox hb; have BK155 := Aside0.mk (hbox); have GW155 := Aside0.mk ((by rw [hg]; exact (below_size (zB HB)) : w.heap.size ≤ gb155)); have GE155 := Aside0.mk ((by rw [hg]; exact (below_size (zB HB)) : w.heap.size ≤ gb155)); replace HB := Aside0.mk (below_step (zB HB) hb); clear hb hbox hg))
     replace BK155 := Aside0.mk (blk_drew BK155.out)
     replace HB := Aside0.mk (below_drew1 HB.out)
     refine start_ (n := 17) (S := fun w' => w'.cell? ⟨gb155, 0, none⟩ = some (.bool a0_0) ∧ w'.cell? ⟨gb155, 1, none⟩ = some (.int .u64 a0_1) ∧ w'.cell? ⟨gb155, 2, none⟩ = some (.int .u64 a0_2) ∧ w'.cell? ⟨gb155, 3, none⟩ = some (.int .i64 a0_3)) (ds := []) #[false, false, false, false, false, false, false, false, false, false, false, false, false, false, false, false, false] (by kernel_rfl) rfl rfl ⟨zc BK155 0, zc BK155 1, zc BK155 2, zc BK155 3⟩ (fun hHeld => ?_); refine with_tabW address_ValidPrefix.tab1 address_ValidPrefix.bits1 (fun HT_ HW_ => ?_)
     generalize w5.drew = w6 at BK155 HB hHeld ⊢
     refine zp 0 5 HT_ ?_; refine zt 1 6 HT_ HW_ hHeld ?_; refine zo 2 7 HT_ (fun K hK => ?_)
     refine zg Tryd.func25 #[.agg #[.bool a0_0, .int .u64 a0_1, .int .u64 a0_2]] ?_
     with_reducible refine (address_Valid.calls a0_0 a0_1 a0_2 true _ A2.out).mono ?_
     rintro e w7 ⟨rfl, hb⟩
     refine ⟨_, rfl, ?_⟩
     replace BK155 := Aside0.mk (blk_below (g := gb155) (o := .cells #[.bool a0_0, .int .u64 a0_1, .int .u64 a0_2, .int .i64 a0_3] 30 (0, 0)) (zK BK155) hb)
     replace HB := Aside0.mk (below_step (zB HB) hb)
     (try clear hb)
     refine hK.out _ _ ⟨zc BK155 0, zc BK155 1, zc BK155 2, zc BK155 3⟩ (fun hHeld => ?_)
     clear hK K
     refine zn 7 ?_; refine zp 3 8 HT_ ?_; refine zp 4 9 HT_ ?_; refine zp 5 10 HT_ ?_; refine zt 6 11 HT_ HW_ hHeld ?_; refine zp 7 12 HT_ ?_; refine zp 8 13 HT_ ?_; refine zp 9 14 HT_ ?_; refine zu 10 15 HT_ ?_; refine zu 11 16 HT_ ?_; refine zu 12 17 HT_ ?_; refine zu 13 18 HT_ ?_; refine zu 14 19 HT_ ?_; refine zu 15 20 HT_ ?_; refine zp 16 21 HT_ ?_; refine zd HT_ ?_
     try go_wp2
     go_ret
     exact ⟨by first | rfl | (simp [errW_none, errW_some] <;> rfl) | (simp [*, errW_none, errW_some] <;> rfl), by repeat (first | (with_reducible first | exact HB.out | apply below_alloc | apply pw_below_drewN | apply below_drew1 | refine below_set ?_ GE155.out) | exact HB.out)⟩
   · rw [if_neg c4] at H
     have c4b0 : decide (a0_3 < 0) = false := decide_eq_false c4
     clear c4
     replace H := Option.bind_eq_some_iff.mp H
     obtain ⟨t157, A80, H⟩ := H
     try dsimp only at H
     have A8 := Aside0.mk A80
     clear A80
     by_cases c9 : a0_3 > t157
     · rw [if_pos c9] at H
       have c9b0 : decide (t157 < a0_3) = true := decide_eq_true c9
       clear c9
       obtain rfl := Option.some.inj H
       go_enter Tryd.func31, Tryd.ntmps31
       try go_wp2_with (first | ((with_reducible refine gate_dst (N := 1) rfl ?_); refine zx 1 #[.bool a0_0, .int .u64 a0_1, .int .u64 a0_2, .int .i64 a0_3] 30 ?_; intro gb155 hg w10 hbox hb; have BK155 := Aside0.mk (hbox); have GW155 := Aside0.mk ((by rw [hg]; exact (below_size (zB HB)) : w.heap.size ≤ gb155)); have GE155 := Aside0.mk ((by rw [hg]; exact (below_size (zB HB)) : w.heap.size ≤ gb155)); replace HB := Aside0.mk (below_step (zB HB) hb); clear hb hbox hg))
       replace BK155 := Aside0.mk (blk_drew BK155.out)
       replace HB := Aside0.mk (below_drew1 HB.out)
       refine start_ (n := 17) (S := fun w' => w'.cell? ⟨gb155, 0, none⟩ = some (.bool a0_0) ∧ w'.cell? ⟨gb155, 1, none⟩ = some (.int .u64 a0_1) ∧ w'.cell? ⟨gb155, 2, none⟩ = some (.int .u64 a0_2) ∧ w'.cell? ⟨gb155, 3, none⟩ = some (.int .i64 a0_3)) (ds := []) #[false, false, false, false, false, false, false, false, false, false, false, false, false, false, false, false, false] (by kernel_rfl) rfl rfl ⟨zc BK155 0, zc BK155 1, zc BK155 2, zc BK155 3⟩ (fun hHeld => ?_); refine with_tabW address_ValidPrefix.tab1 address_ValidPrefix.bits1 (fun HT_ HW_ => ?_)
       generalize w10.drew = w11 at BK155 HB hHeld ⊢
       refine zp 0 5 HT_ ?_; refine zt 1 6 HT_ HW_ hHeld ?_; refine zo 2 7 HT_ (fun K hK => ?_)
       refine zg Tryd.func25 #[.agg #[.bool a0_0, .int .u64 a0_1, .int .u64 a0_2]] ?_
       with_reducible refine (address_Valid.calls a0_0 a0_1 a0_2 true _ A2.out).mono ?_
       rintro e w12 ⟨rfl, hb⟩
       refine ⟨_, rfl, ?_⟩
       replace BK155 := Aside0.mk (blk_below (g := gb155) (o := .cells #[.bool a0_0, .int .u64 a0_1, .int .u64 a0_2, .int .i64 a0_3] 30 (0, 0)) (zK BK155) hb)
       replace HB := Aside0.mk (below_step (zB HB) hb)
       (try clear hb)
       refine hK.out _ _ ⟨zc BK155 0, zc BK155 1, zc BK155 2, zc BK155 3⟩ (fun hHeld => ?_)
       clear hK K
       refine zn 7 ?_; refine zp 3 8 HT_ ?_; refine zp 4 9 HT_ ?_; refine zp 5 10 HT_ ?_; refine zt 6 11 HT_ HW_ hHeld ?_; refine zp 7 12 HT_ ?_; refine zp 8 13 HT_ ?_; refine zp 9 14 HT_ ?_; refine zp 10 15 HT_ ?_; refine zp 12 17 HT_ ?_; refine zt 11 16 HT_ HW_ hHeld ?_; refine zt 13 18 HT_ HW_ hHeld ?_; refine zo 14 19 HT_ (fun K hK => ?_)
       refine zg Tryd.func44 #[.agg #[.bool a0_0, .int .u64 a0_1, .int .u64 a0_2]] ?_
       with_reducible refine (address_size.calls a0_0 a0_1 a0_2 t157 _ A8.out).mono ?_
       rintro e w13 ⟨rfl, hb⟩
       refine ⟨_, rfl, ?_⟩
       replace BK155 := Aside0.mk (blk_below (g := gb155) (o := .cells #[.bool a0_0, .int .u64 a0_1, .int .u64 a0_2, .int .i64 a0_3] 30 (0, 0)) (zK BK155) hb)
       replace HB := Aside0.mk (below_step (zB HB) hb)
       (try clear hb)
       refine hK.out _ _ ⟨zc BK155 0, zc BK155 1, zc BK155 2, zc BK155 3⟩ (fun hHeld => ?_)
       clear hK K
       refine zn 19 ?_; refine zp 15 20 HT_ ?_; refine zp 16 21 HT_ ?_; refine zd HT_ ?_
       try go_wp2
       go_ret
       exact ⟨by first | rfl | (simp [errW_none, errW_some] <;> rfl) | (simp [*, errW_none, errW_some] <;> rfl), by repeat (first | (with_reducible first | exact HB.out | apply below_alloc | apply pw_below_drewN | apply below_drew1 | refine below_set ?_ GE155.out) | exact HB.out)⟩
     · rw [if_neg c9] at H
       have c9b0 : decide (t157 < a0_3) = false := decide_eq_false c9
       clear c9
       replace H := Option.bind_eq_some_iff.mp H
       obtain ⟨⟨t158, t159⟩, A140, H⟩ := H
       try dsimp only at H
       have A14 := Aside0.mk A140
       clear A140
       by_cases c15 : (Go.bits .and .u64 a0_1 t158) = 0
       · rw [if_pos c15] at H
         have c15b0 : ((Go.bits .and .u64 a0_1 t158) == 0) = true := beq_iff_eq.mpr c15
         have c15b1 : ((Go.bits .and .u64 a0_1 t158) != 0) = false := bne_eq_false_iff_eq.mpr c15
         clear c15
         obtain rfl := Option.some.inj H
         go_enter Tryd.func31, Tryd.ntmps31
         try go_wp2_with (first | ((with_reducible refine gate_dst (N := 1) rfl ?_); refine zx 1 #[.bool a0_0, .int .u64 a0_1, .int .u64 a0_2, .int .i64 a0_3] 30 ?_; intro gb155 hg w16 hbox hb; have BK155 := Aside0.mk (hbox); have GW155 := Aside0.mk ((by rw [hg]; exact (below_size (zB HB)) : w.heap.size ≤ gb155)); have GE155 := Aside0.mk ((by rw [hg]; exact (below_size (zB HB)) : w.heap.size ≤ gb155)); replace HB := Aside0.mk (below_step (zB HB) hb); clear hb hbox hg))
         replace BK155 := Aside0.mk (blk_drew BK155.out)
         replace HB := Aside0.mk (below_drew1 HB.out)
         refine start_ (n := 17) (S := fun w' => w'.cell? ⟨gb155, 0, none⟩ = some (.bool a0_0) ∧ w'.cell? ⟨gb155, 1, none⟩ = some (.int .u64 a0_1) ∧ w'.cell? ⟨gb155, 2, none⟩ = some (.int .u64 a0_2) ∧ w'.cell? ⟨gb155, 3, none⟩ = some (.int .i64 a0_3)) (ds := []) #[false, false, false, false, false, false, false, false, false, false, false, false, false, false, false, false, false] (by kernel_rfl) rfl rfl ⟨zc BK155 0, zc BK155 1, zc BK155 2, zc BK155 3⟩ (fun hHeld => ?_); refine with_tabW address_ValidPrefix.tab1 address_ValidPrefix.bits1 (fun HT_ HW_ => ?_)
         generalize w16.drew = w17 at BK155 HB hHeld ⊢
         refine zp 0 5 HT_ ?_; refine zt 1 6 HT_ HW_ hHeld ?_; refine zo 2 7 HT_ (fun K hK => ?_)
         refine zg Tryd.func25 #[.agg #[.bool a0_0, .int .u64 a0_1, .int .u64 a0_2]] ?_
         with_reducible refine (address_Valid.calls a0_0 a0_1 a0_2 true _ A2.out).mono ?_
         rintro e w18 ⟨rfl, hb⟩
         refine ⟨_, rfl, ?_⟩
         replace BK155 := Aside0.mk (blk_below (g := gb155) (o := .cells #[.bool a0_0, .int .u64 a0_1, .int .u64 a0_2, .int .i64 a0_3] 30 (0, 0)) (zK BK155) hb)
         replace HB := Aside0.mk (below_step (zB HB) hb)
         (try clear hb)
         refine hK.out _ _ ⟨zc BK155 0, zc BK155 1, zc BK155 2, zc BK155 3⟩ (fun hHeld => ?_)
         clear hK K
         refine zn 7 ?_; refine zp 3 8 HT_ ?_; refine zp 4 9 HT_ ?_; refine zp 5 10 HT_ ?_; refine zt 6 11 HT_ HW_ hHeld ?_; refine zp 7 12 HT_ ?_; refine zp 8 13 HT_ ?_; refine zp 9 14 HT_ ?_; refine zp 10 15 HT_ ?_; refine zp 12 17 HT_ ?_; refine zt 11 16 HT_ HW_ hHeld ?_; refine zt 13 18 HT_ HW_ hHeld ?_; refine zo 14 19 HT_ (fun K hK => ?_)
         refine zg Tryd.func44 #[.agg #[.bool a0_0, .int .u64 a0_1, .int .u64 a0_2]] ?_
         with_reducible refine (address_size.calls a0_0 a0_1 a0_2 t157 _ A8.out).mono ?_
         rintro e w19 ⟨rfl, hb⟩
         refine ⟨_, rfl, ?_⟩
         replace BK155 := Aside0.mk (blk_below (g := gb155) (o := .cells #[.bool a0_0, .int .u64 a0_1, .int .u64 a0_2, .int .i64 a0_3] 30 (0, 0)) (zK BK155) hb)
         replace HB := Aside0.mk (below_step (zB HB) hb)
         (try clear hb)
         refine hK.out _ _ ⟨zc BK155 0, zc BK155 1, zc BK155 2, zc BK155 3⟩ (fun hHeld => ?_)
         clear hK K
         refine zn 19 ?_; refine zp 15 20 HT_ ?_; refine zp 16 21 HT_ ?_; refine zd HT_ ?_
         obtain ⟨hcz20_0, hcz20_1, hcz20_2, hcz20_3⟩ := zc4 BK155
         obtain ⟨hfz20_0, hfz20_1, hfz20_2, hfz20_3⟩ := zf4 BK155
         try go_wp2_with (first | ((with_reducible refine gate_callee (f := 51) rfl ?_); refine goesL_ (some 27) rfl rfl Tryd.func51 (by kernel_rfl) rfl #[.agg #[.bool a0_0, .int .u64 a0_1, .int .u64 a0_2], .int .i64 a0_3] rfl (by (try simp only [List.map_toArray, List.map_cons, List.map_nil]); first | done | rfl | (simp only [List.length_drop, List.length_take]; rfl)) ?_; (with_reducible refine (address_mask.calls a0_0 a0_1 a0_2 a0_3 t158 t159 _ A14.out).mono ?_); rintro e w21 ⟨rfl, hb⟩; refine ⟨_, rfl, ?_⟩; replace BK155 := Aside0.mk (blk_below (g := gb155) (o := .cells #[.bool a0_0, .int .u64 a0_1, .int .u64 a0_2, .int .i64 a0_3] 30 (0, 0)) (zK BK155) hb); replace HB := Aside0.mk (below_step (zB HB) hb); (try clear hb); obtain ⟨hcz22_0, hcz22_1, hcz22_2, hcz22_3⟩ := zc4 BK155; obtain ⟨hfz22_0, hfz22_1, hfz22_2, hfz22_3⟩ := zf4 BK155))
         go_ret
         exact ⟨by first | rfl | (simp [errW_none, errW_some] <;> rfl) | (simp [*, errW_none, errW_some] <;> rfl), by repeat (first | (with_reducible first | exact HB.out | apply below_alloc | apply pw_below_drewN | apply below_drew1 | refine below_set ?_ GE155.out) | exact HB.out)⟩
       · rw [if_neg c15] at H
         have c15b0 : ((Go.bits .and .u64 a0_1 t158) == 0) = false := beq_eq_false_iff_ne.mpr c15
         have c15b1 : ((Go.bits .and .u64 a0_1 t158) != 0) = true := bne_iff_ne.mpr c15
         obtain rfl := Option.some.inj H
         go_enter Tryd.func31, Tryd.ntmps31
         try go_wp2_with (first | ((with_reducible refine gate_dst (N := 1) rfl ?_); refine zx 1 #[.bool a0_0, .int .u64 a0_1, .int .u64 a0_2, .int .i64 a0_3] 30 ?_; intro gb155 hg w23 hbox hb; have BK155 := Aside0.mk (hbox); have GW155 := Aside0.mk ((by rw [hg]; exact (below_size (zB HB)) : w.heap.size ≤ gb155)); have GE155 := Aside0.mk ((by rw [hg]; exact (below_size (zB HB)) : w.heap.size ≤ gb155)); replace HB := Aside0.mk (below_step (zB HB) hb); clear hb hbox hg))
         replace BK155 := Aside0.mk (blk_drew BK155.out)
         replace HB := Aside0.mk (below_drew1 HB.out)
         refine start_ (n := 17) (S := fun w' => w'.cell? ⟨gb155, 0, none⟩ = some (.bool a0_0) ∧ w'.cell? ⟨gb155, 1, none⟩ = some (.int .u64 a0_1) ∧ w'.cell? ⟨gb155, 2, none⟩ = some (.int .u64 a0_2) ∧ w'.cell? ⟨gb155, 3, none⟩ = some (.int .i64 a0_3)) (ds := []) #[false, false, false, false, false, false, false, false, false, false, false, false, false, false, false, false, false] (by kernel_rfl) rfl rfl ⟨zc BK155 0, zc BK155 1, zc BK155 2, zc BK155 3⟩ (fun hHeld => ?_); refine with_tabW address_ValidPrefix.tab1 address_ValidPrefix.bits1 (fun HT_ HW_ => ?_)
         generalize w23.drew = w24 at BK155 HB hHeld ⊢
         refine zp 0 5 HT_ ?_; refine zt 1 6 HT_ HW_ hHeld ?_; refine zo 2 7 HT_ (fun K hK => ?_)
         refine zg Tryd.func25 #[.agg #[.bool a0_0, .int .u64 a0_1, .int .u64 a0_2]] ?_
         with_reducible refine (address_Valid.calls a0_0 a0_1 a0_2 true _ A2.out).mono ?_
         rintro e w25 ⟨rfl, hb⟩
         refine ⟨_, rfl, ?_⟩
         replace BK155 := Aside0.mk (blk_below (g := gb155) (o := .cells #[.bool a0_0, .int .u64 a0_1, .int .u64 a0_2, .int .i64 a0_3] 30 (0, 0)) (zK BK155) hb)
         replace HB := Aside0.mk (below_step (zB HB) hb)
         (try clear hb)
         refine hK.out _ _ ⟨zc BK155 0, zc BK155 1, zc BK155 2, zc BK155 3⟩ (fun hHeld => ?_)
         clear hK K
         refine zn 7 ?_; refine zp 3 8 HT_ ?_; refine zp 4 9 HT_ ?_; refine zp 5 10 HT_ ?_; refine zt 6 11 HT_ HW_ hHeld ?_; refine zp 7 12 HT_ ?_; refine zp 8 13 HT_ ?_; refine zp 9 14 HT_ ?_; refine zp 10 15 HT_ ?_; refine zp 12 17 HT_ ?_; refine zt 11 16 HT_ HW_ hHeld ?_; refine zt 13 18 HT_ HW_ hHeld ?_; refine zo 14 19 HT_ (fun K hK => ?_)
         refine zg Tryd.func44 #[.agg #[.bool a0_0, .int .u64 a0_1, .int .u64 a0_2]] ?_
         with_reducible refine (address_size.calls a0_0 a0_1 a0_2 t157 _ A8.out).mono ?_
         rintro e w26 ⟨rfl, hb⟩
         refine ⟨_, rfl, ?_⟩
         replace BK155 := Aside0.mk (blk_below (g := gb155) (o := .cells #[.bool a0_0, .int .u64 a0_1, .int .u64 a0_2, .int .i64 a0_3] 30 (0, 0)) (zK BK155) hb)
         replace HB := Aside0.mk (below_step (zB HB) hb)
         (try clear hb)
         refine hK.out _ _ ⟨zc BK155 0, zc BK155 1, zc BK155 2, zc BK155 3⟩ (fun hHeld => ?_)
         clear hK K
         refine zn 19 ?_; refine zp 15 20 HT_ ?_; refine zp 16 21 HT_ ?_; refine zd HT_ ?_
         obtain ⟨hcz27_0, hcz27_1, hcz27_2, hcz27_3⟩ := zc4 BK155
         obtain ⟨hfz27_0, hfz27_1, hfz27_2, hfz27_3⟩ := zf4 BK155
         try go_wp2_with (first | ((with_reducible refine gate_callee (f := 51) rfl ?_); refine goesL_ (some 27) rfl rfl Tryd.func51 (by kernel_rfl) rfl #[.agg #[.bool a0_0, .int .u64 a0_1, .int .u64 a0_2], .int .i64 a0_3] rfl (by (try simp only [List.map_toArray, List.map_cons, List.map_nil]); first | done | rfl | (simp only [List.length_drop, List.length_take]; rfl)) ?_; (with_reducible refine (address_mask.calls a0_0 a0_1 a0_2 a0_3 t158 t159 _ A14.out).mono ?_); rintro e w28 ⟨rfl, hb⟩; refine ⟨_, rfl, ?_⟩; replace BK155 := Aside0.mk (blk_below (g := gb155) (o := .cells #[.bool a0_0, .int .u64 a0_1, .int .u64 a0_2, .int .i64 a0_3] 30 (0, 0)) (zK BK155) hb); replace HB := Aside0.mk (below_step (zB HB) hb); (try clear hb); obtain ⟨hcz29_0, hcz29_1, hcz29_2, hcz29_3⟩ := zc4 BK155; obtain ⟨hfz29_0, hfz29_1, hfz29_2, hfz29_3⟩ := zf4 BK155))
         go_ret
         exact ⟨by first | rfl | (simp [errW_none, errW_some] <;> rfl) | (simp [*, errW_none, errW_some] <;> rfl), by repeat (first | (with_reducible first | exact HB.out | apply below_alloc | apply pw_below_drewN | apply below_drew1 | refine below_set ?_ GE155.out) | exact HB.out)⟩
 · replace c3 := Bool.eq_false_iff.mpr c3
   subst c3
   rw [if_neg zF] at H
   obtain rfl := Option.some.inj H
   go_enter Tryd.func31, Tryd.ntmps31
   try go_wp2_with (first | ((with_reducible refine gate_dst (N := 1) rfl ?_); refine zx 1 #[.bool a0_0, .int .u64 a0_1, .int .u64 a0_2, .int .i64 a0_3] 30 ?_; intro gb155 hg w30 hbox hb; have BK155 := Aside0.mk (hbox); have GW155 := Aside0.mk ((by rw [hg]; exact (below_size (zB HB)) : w.heap.size ≤ gb155)); have GE155 := Aside0.mk ((by rw [hg]; exact (below_size (zB HB)) : w.heap.size ≤ gb155)); replace HB := Aside0.mk (below_step (zB HB) hb); clear hb hbox hg))
   replace BK155 := Aside0.mk (blk_drew BK155.out)
   replace HB := Aside0.mk (below_drew1 HB.out)
   refine start_ (n := 17) (S := fun w' => w'.cell? ⟨gb155, 0, none⟩ = some (.bool a0_0) ∧ w'.cell? ⟨gb155, 1, none⟩ = some (.int .u64 a0_1) ∧ w'.cell? ⟨gb155, 2, none⟩ = some (.int .u64 a0_2) ∧ w'.cell? ⟨gb155, 3, none⟩ = some (.int .i64 a0_3)) (ds := []) #[false, false, false, false, false, false, false, false, false, false, false, false, false, false, false, false, false] (by kernel_rfl) rfl rfl ⟨zc BK155 0, zc BK155 1, zc BK155 2, zc BK155 3⟩ (fun hHeld => ?_); refine with_tabW address_ValidPrefix.tab1 address_ValidPrefix.bits1 (fun HT_ HW_ => ?_)
   generalize w30.drew = w31 at BK155 HB hHeld ⊢
   refine zp 0 5 HT_ ?_; refine zt 1 6 HT_ HW_ hHeld ?_; refine zo 2 7 HT_ (fun K hK => ?_)
   refine zg Tryd.func25 #[.agg #[.bool a0_0, .int .u64 a0_1, .int .u64 a0_2]] ?_
   with_reducible refine (address_Valid.calls a0_0 a0_1 a0_2 false _ A2.out).mono ?_
   rintro e w32 ⟨rfl, hb⟩
   refine ⟨_, rfl, ?_⟩
   replace BK155 := Aside0.mk (blk_below (g := gb155) (o := .cells #[.bool a0_0, .int .u64 a0_1, .int .u64 a0_2, .int .i64 a0_3] 30 (0, 0)) (zK BK155) hb)
   replace HB := Aside0.mk (below_step (zB HB) hb)
   (try clear hb)
   refine hK.out _ _ ⟨zc BK155 0, zc BK155 1, zc BK155 2, zc BK155 3⟩ (fun hHeld => ?_)
   clear hK K
   refine zn 7 ?_; refine zp 3 8 HT_ ?_; refine zp 4 9 HT_ ?_; refine zu 5 10 HT_ ?_; refine zu 6 11 HT_ ?_; refine zu 7 12 HT_ ?_; refine zp 8 13 HT_ ?_; refine zp 9 14 HT_ ?_; refine zu 10 15 HT_ ?_; refine zu 11 16 HT_ ?_; refine zu 12 17 HT_ ?_; refine zu 13 18 HT_ ?_; refine zu 14 19 HT_ ?_; refine zu 15 20 HT_ ?_; refine zp 16 21 HT_ ?_; refine zd HT_ ?_
   try go_wp2
   go_ret
   exact ⟨by first | rfl | (simp [errW_none, errW_some] <;> rfl) | (simp [*, errW_none, errW_some] <;> rfl), by repeat (first | (with_reducible first | exact HB.out | apply below_alloc | apply pw_below_drewN | apply below_drew1 | refine below_set ?_ GE155.out) | exact HB.out)⟩
end Go.Proofs.YtlgfinnldhjgeaaDoor.Q
end

section
namespace Go.Proofs.YtlgfinnldhjgeaaDoor.Q
open Go.RowKit Go.Proofs.YtlgfinnldhjgeaaDoorW.PrintWords Go.Proofs.YtlgfinnldhjgeaaDoorW.PrintLast Go.Proofs.YtlgfinnldhjgeaaDoorW.PrintMore
attribute [local go_sem] max2_int min2_int max_two min_two max_three min_three max_four min_four
set_option linter.unusedVariables false
set_option linter.unusedSimpArgs false
mutual
def address_digits.j0 : Nat → ByteArray → Bool → Option (Int × Bool)
  | 0, _, _ => none
  | k + 1, x0, x17 => if x17 = true then (some (0, false)) else (address_digits.l0 k x0 0 (x0.size : Int) 0)
def address_digits.l0 : Nat → ByteArray → Int → Int → Int → Option (Int × Bool)
  | 0, _, _, _, _ => none
  | k + 1, x0, x4, x19, x20 => if x20 < x19 then (if 0 ≤ x20 then (if x20 < (x0.size : Int) then (if (bt x0 x20) < 48 then (some (0, false)) else (if (bt x0 x20) > 57 then (some (0, false)) else (address_digits.l0 k x0 (mn 1000 (wrap64 ((wrap64 (x4 * 10)) + (((bt x0 x20) - 48) % 256)))) x19 (wrap64 (x20 + 1))))) else (none)) else (none)) else (some (x4, true))
end
def address_digits.f (k : Nat) (a0 : ByteArray) : Option (Int × Bool) := if a0.toList = ([] : List UInt8) then (address_digits.j0 k a0 true) else (if 0 < (a0.size : Int) then (if (bt a0 0) = 48 then (address_digits.j0 k a0 (decide ((a0.size : Int) > 1))) else (address_digits.j0 k a0 false)) else (none))
theorem address_digits.mono_l : ∀ k, (∀ y0 y1, LeO (address_digits.j0 k y0 y1) (address_digits.j0 (k + 1) y0 y1)) ∧ (∀ y0 y1 y2 y3, LeO (address_digits.l0 k y0 y1 y2 y3) (address_digits.l0 (k + 1) y0 y1 y2 y3))
  | 0 => ⟨fun _ _ r h => by simp [address_digits.j0] at h, fun _ _ _ _ r h => by simp [address_digits.l0] at h⟩
  | k + 1 => by
    obtain ⟨ih0, ih1⟩ := address_digits.mono_l k
    refine ⟨?_, ?_⟩
    · intro y0 y1
      unfold address_digits.j0
      repeat' first
      | (with_reducible exact ih0 _ _)
      | (with_reducible exact ih1 _ _ _ _)
      | (with_reducible exact LeO.refl _)
      | (with_reducible exact LeO.none _)
      | (with_reducible refine LeO.ite ?_ ?_)
      | (with_reducible refine LeO.bind ?_ (fun _ => ?_))
      | exact ih0 _ _
      | exact ih1 _ _ _ _
      | exact LeO.none _
      | refine LeO.ite ?_ ?_
      | refine LeO.bind ?_ (fun _ => ?_)
    · intro y0 y1 y2 y3
      unfold address_digits.l0
      repeat' first
      | (with_reducible exact ih0 _ _)
      | (with_reducible exact ih1 _ _ _ _)
      | (with_reducible exact LeO.refl _)
      | (with_reducible exact LeO.none _)
      | (with_reducible refine LeO.ite ?_ ?_)
      | (with_reducible refine LeO.bind ?_ (fun _ => ?_))
      | exact ih0 _ _
      | exact ih1 _ _ _ _
      | exact LeO.none _
      | refine LeO.ite ?_ ?_
      | refine LeO.bind ?_ (fun _ => ?_)
theorem address_digits.mono : ∀ a0 k, LeO (address_digits.f k a0) (address_digits.f (k + 1) a0) := by
  intro a0 k
  obtain ⟨ih0, ih1⟩ := address_digits.mono_l k
  unfold address_digits.f
  repeat' first
      | (with_reducible exact ih0 _ _)
      | (with_reducible exact ih1 _ _ _ _)
      | (with_reducible exact LeO.refl _)
      | (with_reducible exact LeO.none _)
      | (with_reducible refine LeO.ite ?_ ?_)
      | (with_reducible refine LeO.bind ?_ (fun _ => ?_))
      | exact ih0 _ _
      | exact ih1 _ _ _ _
      | exact LeO.none _
      | refine LeO.ite ?_ ?_
      | refine LeO.bind ?_ (fun _ => ?_)
set_option maxHeartbeats 8000000 in
set_option maxRecDepth 100000 in
theorem address_digits.calls (k : Nat) (a0 : ByteArray) (r1 : Int) (r2 : Bool) (w : World) (h : address_digits.f k a0 = some (r1, r2)) :
 Calls Tryd.prog 45 #[.string a0] w fun e w' => e = .returned (.tuple #[.int .i64 r1, .bool r2]) ∧ Below w.heap.size w w' := by
 have HB := Aside0.mk (Below.refl w.heap.size w)
 unfold address_digits.f at h; have H := h
 clear h
 have HC2 := Aside0.mk H
 clear H
 go_enter Tryd.func45, Tryd.ntmps45
 go_upto_region 1 with (fail)
 go_cut [17] (fun v17 wc => ∃ (kq : Nat) (x17_1 : Bool), v17 = .bool x17_1 ∧ Aside0 (address_digits.j0 kq a0 x17_1 = some (r1, r2)) ∧ Aside0 (kq ≤ k) ∧ Aside0 (Below w.heap.size w wc))
 case first =>
  have H := HC2.out
  clear HC2
  by_cases c3 : a0.toList = ([] : List UInt8)
  · rw [if_pos c3] at H
    have c3b0 : (a0.toList == ([] : List UInt8)) = true := beq_iff_eq.mpr c3
    have c3b1 : (a0.toList != ([] : List UInt8)) = false := bne_eq_false_iff_eq.mpr c3
    clear c3
    (first | rw [c3b0] | (simp only [i64_w, i32_w]; rw [c3b0]) | skip)
    have H' := Aside0.mk H
    clear H
    go_wp2
    go_meet
    case rel => exact ⟨_, (true), (by first | rfl | (simp; done) | (simp [*]; done)), H', ⟨by first | omega | exact Nat.le_refl _⟩, ⟨zB HB⟩⟩
  · rw [if_neg c3] at H
    have c3b0 : (a0.toList == ([] : List UInt8)) = false := beq_eq_false_iff_ne.mpr c3
    have c3b1 : (a0.toList != ([] : List UInt8)) = true := bne_iff_ne.mpr c3
    (first | rw [c3b0] | (simp only [i64_w, i32_w]; rw [c3b0]) | skip)
    by_cases c4 : 0 < (a0.size : Int)
    · rw [if_pos c4] at H
      have c4b0 : decide (0 < (a0.size : Int)) = true := decide_eq_true c4
      have c4b1 : decide (0 < a0.size) = true := decide_eq_true (by omega)
      clear c4
      by_cases c6 : (bt a0 0) = 48
      · rw [if_pos c6] at H
        have c6b0 : ((bt a0 0) == 48) = true := beq_iff_eq.mpr c6
        have c6b1 : ((bt a0 0) != 48) = false := bne_eq_false_iff_eq.mpr c6
        clear c6
        have H' := Aside0.mk H
        clear H
        have p5 : 0 ≤ (0 : Int) := (by omega)
        have q5 : 0 < a0.size := (by have : (0 : Int) < (a0.size : Int) := za; omega)
        have hx5 : ∀ h : 0 < a0.size, ((a0[0]'h).toNat : Int) = bt a0 0 := bt_at a0 0
        clear p5
        have qi5 : (0 < (a0.size : Int)) = True := eq_true (of_decide_eq_true (by first | (with_reducible assumption) | assumption))
        replace q5 := eq_true q5
        go_wp2
        go_meet
        case rel => exact ⟨_, (decide ((a0.size : Int) > 1)), (by first | rfl | (simp; done) | (simp [*]; done)), H', ⟨by first | omega | exact Nat.le_refl _⟩, ⟨zB HB⟩⟩
      · rw [if_neg c6] at H
        have c6b0 : ((bt a0 0) == 48) = false := beq_eq_false_iff_ne.mpr c6
        have c6b1 : ((bt a0 0) != 48) = true := bne_iff_ne.mpr c6
        have H' := Aside0.mk H
        clear H
        have p5 : 0 ≤ (0 : Int) := (by omega)
        have q5 : 0 < a0.size := (by have : (0 : Int) < (a0.size : Int) := za; omega)
        have hx5 : ∀ h : 0 < a0.size, ((a0[0]'h).toNat : Int) = bt a0 0 := bt_at a0 0
        clear p5
        have qi5 : (0 < (a0.size : Int)) = True := eq_true (of_decide_eq_true (by first | (with_reducible assumption) | assumption))
        replace q5 := eq_true q5
        go_wp2
        go_meet
        case rel => exact ⟨_, (false), (by first | rfl | (simp; done) | (simp [*]; done)), H', ⟨by first | omega | exact Nat.le_refl _⟩, ⟨zB HB⟩⟩
    · rw [if_neg c4] at H
      exact absurd H (by simp)
 case rest =>
  clear HC2
  try clear p2
  try clear c3
  try clear c3b0
  try clear c3b1
  try clear c4
  try clear c4b0
  try clear c4b1
  try clear p5
  try clear q5
  try clear hx5
  try clear qi5
  try clear c6
  try clear c6b0
  try clear c6b1
  try clear p5
  try clear q5
  obtain ⟨kq, x17_1, rfl, HA, HJ1, HB⟩ := hcut
  cases kq with
  | zero => exact absurd HA.out (by simp [address_digits.j0])
  | succ kj1 =>
   have H := HA.out
   clear HA
   simp only [address_digits.j0] at H
   by_cases c7 : x17_1 = true
   · subst c7
     rw [if_pos rfl] at H
     simp only [Option.some.injEq, Prod.mk.injEq] at H
     obtain ⟨rfl, rfl⟩ := H
     go_wp2
     go_ret2
     exact ⟨by first | rfl | (simp [errW_none, errW_some] <;> rfl) | (simp [*, errW_none, errW_some] <;> rfl), by repeat (first | (with_reducible first | exact HB.out | apply below_alloc | apply pw_below_drewN | apply below_drew1) | exact HB.out)⟩
   · replace c7 := Bool.eq_false_iff.mpr c7
     subst c7
     rw [if_neg zF] at H
     have H' := Aside0.mk H
     clear H
     go_wp2
     go_loopg [4, 20] kj1 (fun kq v4 v20 w' => ∃ (x4_2 : Int) (x20_2 : Int), v4 = .int .i64 x4_2 ∧ v20 = .int .i64 x20_2 ∧ Aside0 (address_digits.l0 kq a0 x4_2 (a0.size : Int) x20_2 = some (r1, r2)) ∧ Aside0 (kq ≤ kj1) ∧ Aside0 (Below w.heap.size w w'))
     case atStart => exact ⟨(0), (0), (by first | rfl | (simp; done) | (simp [*]; done)), (by first | rfl | (simp; done) | (simp [*]; done)), H', ⟨Nat.le_refl _⟩, ⟨zB HB⟩⟩
     case round =>
      clear H'
      try clear p2
      try clear c3
      try clear c3b0
      try clear c3b1
      try clear c4
      try clear c4b0
      try clear c4b1
      try clear p5
      try clear q5
      try clear hx5
      try clear qi5
      try clear c6
      try clear c6b0
      try clear c6b1
      try clear c7
      try clear p2
      try clear p5
      try clear q5
      obtain ⟨x4_2, x20_2, rfl, rfl, HA, HK2, HB⟩ := hrel
      cases gk with
      | zero => exact absurd HA.out (by simp [address_digits.l0])
      | succ k2 =>
       have H := HA.out
       clear HA
       simp only [address_digits.l0] at H
       by_cases c8 : x20_2 < (a0.size : Int)
       · rw [if_pos c8] at H
         have c8b0 : decide (x20_2 < (a0.size : Int)) = true := decide_eq_true c8
         clear c8
         by_cases c9 : 0 ≤ x20_2
         · rw [if_pos c9] at H
           have c9b0 : decide (0 ≤ x20_2) = true := decide_eq_true c9
           clear c9
           by_cases c10 : x20_2 < (a0.size : Int)
           · rw [if_pos c10] at H
             have c10b0 : decide (x20_2 < (a0.size : Int)) = true := decide_eq_true c10
             clear c10
             by_cases c12 : (bt a0 x20_2) < 48
             · rw [if_pos c12] at H
               have c12b0 : decide ((bt a0 x20_2) < 48) = true := decide_eq_true c12
               clear c12
               simp only [Option.some.injEq, Prod.mk.injEq] at H
               obtain ⟨rfl, rfl⟩ := H
               have p11 : 0 ≤ (x20_2 : Int) := za
               have q11 : x20_2 < (a0.size : Int) := za
               have hx11 := bt_at a0 x20_2
               replace p11 := eq_true p11
               replace q11 := eq_true q11
               go_wp2
               go_ret2
               exact ⟨by first | rfl | (simp [errW_none, errW_some] <;> rfl) | (simp [*, errW_none, errW_some] <;> rfl), by repeat (first | (with_reducible first | exact HB.out | apply below_alloc | apply pw_below_drewN | apply below_drew1) | exact HB.out)⟩
             · rw [if_neg c12] at H
               have c12b0 : decide ((bt a0 x20_2) < 48) = false := decide_eq_false c12
               clear c12
               by_cases c14 : (bt a0 x20_2) > 57
               · rw [if_pos c14] at H
                 have c14b0 : decide (57 < (bt a0 x20_2)) = true := decide_eq_true c14
                 clear c14
                 simp only [Option.some.injEq, Prod.mk.injEq] at H
                 obtain ⟨rfl, rfl⟩ := H
                 have p11 : 0 ≤ (x20_2 : Int) := za
                 have q11 : x20_2 < (a0.size : Int) := za
                 have hx11 := bt_at a0 x20_2
                 replace p11 := eq_true p11
                 replace q11 := eq_true q11
                 have p13 : 0 ≤ (x20_2 : Int) := za
                 have q13 : x20_2 < (a0.size : Int) := za
                 have hx13 := bt_at a0 x20_2
                 replace p13 := eq_true p13
                 replace q13 := eq_true q13
                 go_wp2
                 go_ret2
                 exact ⟨by first | rfl | (simp [errW_none, errW_some] <;> rfl) | (simp [*, errW_none, errW_some] <;> rfl), by repeat (first | (with_reducible first | exact HB.out | apply below_alloc | apply pw_below_drewN | apply below_drew1) | exact HB.out)⟩
               · rw [if_neg c14] at H
                 have c14b0 : decide (57 < (bt a0 x20_2)) = false := decide_eq_false c14
                 clear c14
                 obtain ⟨ji16, hji16⟩ : ∃ j_ : Int, (mn 1000 (wrap64 ((wrap64 (x4_2 * 10)) + (((bt a0 x20_2) - 48) % 256)))) = j_ := ⟨_, rfl⟩
                 replace H : (address_digits.l0 k2 a0 ji16 (a0.size : Int) (wrap64 (x20_2 + 1))) = some (r1, r2) := by first | (rw [hji16] at H; exact H) | (simp only [hji16] at H ⊢; exact H)
                 have hji16_ : (if (wrap64 ((wrap64 (x4_2 * 10)) + (((bt a0 x20_2) - 48) % 256))) < 1000 then (wrap64 ((wrap64 (x4_2 * 10)) + (((bt a0 x20_2) - 48) % 256))) else 1000) = ji16 := hji16
                 have H' := Aside0.mk H
                 clear H
                 have p11 : 0 ≤ (x20_2 : Int) := za
                 have q11 : x20_2 < (a0.size : Int) := za
                 have hx11 := bt_at a0 x20_2
                 replace p11 := eq_true p11
                 replace q11 := eq_true q11
                 have p13 : 0 ≤ (x20_2 : Int) := za
                 have q13 : x20_2 < (a0.size : Int) := za
                 have hx13 := bt_at a0 x20_2
                 replace p13 := eq_true p13
                 replace q13 := eq_true q13
                 have p15 : 0 ≤ (x20_2 : Int) := za
                 have q15 : x20_2 < (a0.size : Int) := za
                 have hx15 := bt_at a0 x20_2
                 replace p15 := eq_true p15
                 replace q15 := eq_true q15
                 go_wp2
                 go_roundg k2
                 case measure => have := HJ1.out; have := HK2.out; omega
                 case rel => exact ⟨(ji16), (wrap64 (x20_2 + 1)), (by first | rfl | (simp; done) | (simp only [← hji16] <;> (first | rfl | simp)) | (simp [*]; done)), (by first | rfl | (simp; done) | (simp [*]; done)), H', ⟨by have := HJ1.out; have := HK2.out; omega⟩, ⟨zB HB⟩⟩
           · rw [if_neg c10] at H
             exact absurd H (by simp)
         · rw [if_neg c9] at H
           exact absurd H (by simp)
       · rw [if_neg c8] at H
         have c8b0 : decide (x20_2 < (a0.size : Int)) = false := decide_eq_false c8
         clear c8
         simp only [Option.some.injEq, Prod.mk.injEq] at H
         obtain ⟨rfl, rfl⟩ := H
         go_wp2
         go_ret2
         exact ⟨by first | rfl | (simp [errW_none, errW_some] <;> rfl) | (simp [*, errW_none, errW_some] <;> rfl), by repeat (first | (with_reducible first | exact HB.out | apply below_alloc | apply pw_below_drewN | apply below_drew1) | exact HB.out)⟩
end Go.Proofs.YtlgfinnldhjgeaaDoor.Q
end

section
namespace Go.Proofs.YtlgfinnldhjgeaaDoor.Q
open Go.RowKit Go.Proofs.YtlgfinnldhjgeaaDoorW.PrintWords Go.Proofs.YtlgfinnldhjgeaaDoorW.PrintLast Go.Proofs.YtlgfinnldhjgeaaDoorW.PrintMore
attribute [local go_sem] max2_int min2_int max_two min_two max_three min_three max_four min_four
set_option linter.unusedVariables false
set_option linter.unusedSimpArgs false
def address_ParsePrefix.f (k : Nat) (a0 : ByteArray) : Option (Bool × Int × Int × Int × Int) := if (a0.size : Int) > 64 then (some (false, 0, 0, 0, 3)) else ((strings_Cut.f a0 (⟨#[47]⟩ : ByteArray)).bind fun bt161 => ((address_Parse.f k bt161.1).bind fun bt164 => (if bt164.2.2.2 = 0 then ((address_size.f bt164.1 bt164.2.1 bt164.2.2.1).bind fun t169 => (if bt161.2.2 = true then ((address_digits.f k bt161.2.1).bind fun bt171 => (if bt171.2 = true then ((address_size.f bt164.1 bt164.2.1 bt164.2.2.1).bind fun t173 => (if bt171.1 > t173 then (some (false, 0, 0, 0, 4)) else ((address_ValidPrefix.f bt164.1 bt164.2.1 bt164.2.2.1 bt171.1).bind fun t174 => (if t174 = true then (some (bt164.1, bt164.2.1, bt164.2.2.1, bt171.1, 0)) else (some (false, 0, 0, 0, 2)))))) else (some (false, 0, 0, 0, 2)))) else ((address_ValidPrefix.f bt164.1 bt164.2.1 bt164.2.2.1 t169).bind fun t175 => (if t175 = true then (some (bt164.1, bt164.2.1, bt164.2.2.1, t169, 0)) else (some (false, 0, 0, 0, 2)))))) else (some (false, 0, 0, 0, 2)))))
theorem address_ParsePrefix.mono : ∀ a0 k, LeO (address_ParsePrefix.f k a0) (address_ParsePrefix.f (k + 1) a0) := by
  intro a0 k
  unfold address_ParsePrefix.f
  repeat' first
      | (with_reducible exact address_Parse.mono _ _)
      | (with_reducible exact address_digits.mono _ _)
      | (with_reducible exact LeO.refl _)
      | (with_reducible exact LeO.none _)
      | (with_reducible refine LeO.ite ?_ ?_)
      | (with_reducible refine LeO.bind ?_ (fun _ => ?_))
      | exact address_Parse.mono _ _
      | exact address_digits.mono _ _
      | exact LeO.none _
      | refine LeO.ite ?_ ?_
      | refine LeO.bind ?_ (fun _ => ?_)
set_option maxHeartbeats 8000000 in
set_option maxRecDepth 100000 in
theorem address_ParsePrefix.calls (k : Nat) (a0 : ByteArray) (r1 : Bool) (r2 : Int) (r3 : Int) (r4 : Int) (r5 : Int) (w : World) (h : address_ParsePrefix.f k a0 = some (r1, r2, r3, r4, r5)) (hW_ : WOK w) :
 Calls Tryd.prog 13 #[.string a0] w fun e w' => e = .returned (.tuple #[.agg #[.bool r1, .int .u64 r2, .int .u64 r3, .int .i64 r4], .int .i64 r5]) ∧ Below w.heap.size w w' := by
 have hu30 := Tryd.underlying30
 have hu25 := Tryd.underlying25
 have HB := Aside0.mk (Below.refl w.heap.size w)
 unfold address_ParsePrefix.f at h; have H := h
 clear h
 by_cases c2 : (a0.size : Int) > 64
 · rw [if_pos c2] at H
   have c2b0 : decide (64 < (a0.size : Int)) = true := decide_eq_true c2
   have c2b1 : decide (64 < a0.size) = true := decide_eq_true (by omega)
   clear c2
   simp only [Option.some.injEq, Prod.mk.injEq] at H
   obtain ⟨rfl, rfl, rfl, rfl, rfl⟩ := H
   go_enter Tryd.func13, Tryd.ntmps13
   go_wp2_with (first | ((with_reducible refine gate_dst (N := 2) rfl ?_); refine zx 2 #[.bool false, .int .u64 0, .int .u64 0, .int .i64 0] 30 ?_; intro gb160 hg w3 hbox hb; have BK160 := Aside0.mk (hbox); have GW160 := Aside0.mk ((by rw [hg]; exact (below_size (zB HB)) : w.heap.size ≤ gb160)); have GE160 := Aside0.mk ((by rw [hg]; exact (below_size (zB HB)) : w.heap.size ≤ gb160)); replace HB := Aside0.mk (below_step (zB HB) hb); clear hb hbox hg; obtain ⟨hcz4_0, hcz4_1, hcz4_2, hcz4_3⟩ := zc4 BK160; obtain ⟨hfz4_0, hfz4_1, hfz4_2, hfz4_3⟩ := zf4 BK160))
   refine bodyPost_ret (results_ct rfl _ _ gb160 30 #[.bool false, .int .u64 0, .int .u64 0, .int .i64 0] (0, 0) _ rfl (by refine zL ?_; refine blk_put (cs := #[.bool false, .int .u64 0, .int .u64 0, .int .i64 0]) ?_ 3 _ rfl; refine zL ?_; refine blk_put (cs := #[.bool false, .int .u64 0, .int .u64 0, .int .i64 0]) ?_ 2 _ rfl; refine zL ?_; refine blk_put (cs := #[.bool false, .int .u64 0, .int .u64 0, .int .i64 0]) ?_ 1 _ rfl; refine zL ?_; refine blk_put (cs := #[.bool false, .int .u64 0, .int .u64 0, .int .i64 0]) ?_ 0 _ rfl; refine zL ?_; exact BK160.out) Tryd.underlying30 rfl (by kernel_rfl)) rfl ?_
   exact ⟨by first | rfl | (simp [errW_none, errW_some] <;> rfl) | (simp [*, errW_none, errW_some] <;> rfl), by repeat (first | (with_reducible first | exact HB.out | apply below_alloc | apply pw_below_drewN | apply below_drew1 | refine below_set ?_ GE160.out) | exact HB.out)⟩
 · rw [if_neg c2] at H
   have c2b0 : decide (64 < (a0.size : Int)) = false := decide_eq_false c2
   have c2b1 : decide (64 < a0.size) = false := decide_eq_false (by omega)
   clear c2
   replace H := Option.bind_eq_some_iff.mp H
   obtain ⟨⟨t161, t162, t163⟩, A50, H⟩ := H
   replace H : ((address_Parse.f k t161).bind fun bt164 => (if bt164.2.2.2 = 0 then ((address_size.f bt164.1 bt164.2.1 bt164.2.2.1).bind fun t169 => (if t163 = true then ((address_digits.f k t162).bind fun bt171 => (if bt171.2 = true then ((address_size.f bt164.1 bt164.2.1 bt164.2.2.1).bind fun t173 => (if bt171.1 > t173 then (some (false, 0, 0, 0, 4)) else ((address_ValidPrefix.f bt164.1 bt164.2.1 bt164.2.2.1 bt171.1).bind fun t174 => (if t174 = true then (some (bt164.1, bt164.2.1, bt164.2.2.1, bt171.1, 0)) else (some (false, 0, 0, 0, 2)))))) else (some (false, 0, 0, 0, 2)))) else ((address_ValidPrefix.f bt164.1 bt164.2.1 bt164.2.2.1 t169).bind fun t175 => (if t175 = true then (some (bt164.1, bt164.2.1, bt164.2.2.1, t169, 0)) else (some (false, 0, 0, 0, 2)))))) else (some (false, 0, 0, 0, 2)))) = some (r1, r2, r3, r4, r5) := H
   have A5 := Aside0.mk A50
   clear A50
   replace H := Option.bind_eq_some_iff.mp H
   obtain ⟨⟨t164, t165, t166, t167⟩, A60, H⟩ := H
   replace H : (if t167 = 0 then ((address_size.f t164 t165 t166).bind fun t169 => (if t163 = true then ((address_digits.f k t162).bind fun bt171 => (if bt171.2 = true then ((address_size.f t164 t165 t166).bind fun t173 => (if bt171.1 > t173 then (some (false, 0, 0, 0, 4)) else ((address_ValidPrefix.f t164 t165 t166 bt171.1).bind fun t174 => (if t174 = true then (some (t164, t165, t166, bt171.1, 0)) else (some (false, 0, 0, 0, 2)))))) else (some (false, 0, 0, 0, 2)))) else ((address_ValidPrefix.f t164 t165 t166 t169).bind fun t175 => (if t175 = true then (some (t164, t165, t166, t169, 0)) else (some (false, 0, 0, 0, 2)))))) else (some (false, 0, 0, 0, 2))) = some (r1, r2, r3, r4, r5) := H
   have A6 := Aside0.mk A60
   clear A60
   by_cases c7 : t167 = 0
   · rw [if_pos c7] at H
     have c7b0 : (t167 == 0) = true := beq_iff_eq.mpr c7
     have c7b1 : (t167 != 0) = false := bne_eq_false_iff_eq.mpr c7
     clear c7
     replace H := Option.bind_eq_some_iff.mp H
     obtain ⟨t169, A80, H⟩ := H
     replace H : (if t163 = true then ((address_digits.f k t162).bind fun bt171 => (if bt171.2 = true then ((address_size.f t164 t165 t166).bind fun t173 => (if bt171.1 > t173 then (some (false, 0, 0, 0, 4)) else ((address_ValidPrefix.f t164 t165 t166 bt171.1).bind fun t174 => (if t174 = true then (some (t164, t165, t166, bt171.1, 0)) else (some (false, 0, 0, 0, 2)))))) else (some (false, 0, 0, 0, 2)))) else ((address_ValidPrefix.f t164 t165 t166 t169).bind fun t175 => (if t175 = true then (some (t164, t165, t166, t169, 0)) else (some (false, 0, 0, 0, 2))))) = some (r1, r2, r3, r4, r5) := H
     have A8 := Aside0.mk A80
     clear A80
     by_cases c9 : t163 = true
     · subst c9
       rw [if_pos rfl] at H
       replace H := Option.bind_eq_some_iff.mp H
       obtain ⟨⟨t171, t172⟩, A100, H⟩ := H
       replace H : (if t172 = true then ((address_size.f t164 t165 t166).bind fun t173 => (if t171 > t173 then (some (false, 0, 0, 0, 4)) else ((address_ValidPrefix.f t164 t165 t166 t171).bind fun t174 => (if t174 = true then (some (t164, t165, t166, t171, 0)) else (some (false, 0, 0, 0, 2)))))) else (some (false, 0, 0, 0, 2))) = some (r1, r2, r3, r4, r5) := H
       have A10 := Aside0.mk A100
       clear A100
       by_cases c11 : t172 = true
       · subst c11
         rw [if_pos rfl] at H
         replace H := Option.bind_eq_some_iff.mp H
         obtain ⟨t173, A120, H⟩ := H
         replace H : (if t171 > t173 then (some (false, 0, 0, 0, 4)) else ((address_ValidPrefix.f t164 t165 t166 t171).bind fun t174 => (if t174 = true then (some (t164, t165, t166, t171, 0)) else (some (false, 0, 0, 0, 2))))) = some (r1, r2, r3, r4, r5) := H
         have A12 := Aside0.mk A120
         clear A120
         by_cases c13 : t171 > t173
         · rw [if_pos c13] at H
           have c13b0 : decide (t173 < t171) = true := decide_eq_true c13
           clear c13
           simp only [Option.some.injEq, Prod.mk.injEq] at H
           obtain ⟨rfl, rfl, rfl, rfl, rfl⟩ := H
           go_enter Tryd.func13, Tryd.ntmps13
           try go_wp2_with (first | ((with_reducible refine gate_dst (N := 2) rfl ?_); refine zx 2 #[.bool false, .int .u64 0, .int .u64 0, .int .i64 0] 30 ?_; intro gb160 hg w14 hbox hb; have BK160 := Aside0.mk (hbox); have GW160 := Aside0.mk ((by rw [hg]; exact (below_size (zB HB)) : w.heap.size ≤ gb160)); have GE160 := Aside0.mk ((by rw [hg]; exact (below_size (zB HB)) : w.heap.size ≤ gb160)); replace HB := Aside0.mk (below_step (zB HB) hb); clear hb hbox hg) | ((with_reducible refine gate_callee (f := 43) rfl ?_); refine goesL_ (some 18) rfl rfl Tryd.func43 (by kernel_rfl) rfl #[.string a0, .string (⟨#[47]⟩ : ByteArray)] rfl (by (try simp only [List.map_toArray, List.map_cons, List.map_nil]); first | done | rfl | (simp only [List.length_drop, List.length_take]; rfl)) ?_; (with_reducible refine (strings_Cut.calls a0 (⟨#[47]⟩ : ByteArray) t161 t162 true _ A5.out (WOK.below hW_ (zB HB))).mono ?_); rintro e w15 ⟨rfl, hb⟩; refine ⟨_, rfl, ?_⟩; replace BK160 := Aside0.mk (blk_below (g := gb160) (o := .cells #[.bool false, .int .u64 0, .int .u64 0, .int .i64 0] 30 (0, 0)) (zK BK160) hb); replace HB := Aside0.mk (below_step (zB HB) hb); (try clear hb)) | ((with_reducible refine gate_callee (f := 11) rfl ?_); refine goesL_ (some 24) rfl rfl Tryd.func11 (by kernel_rfl) rfl #[.string t161] rfl (by (try simp only [List.map_toArray, List.map_cons, List.map_nil]); first | done | rfl | (simp only [List.length_drop, List.length_take]; rfl)) ?_; (with_reducible refine (address_Parse.calls k t161 t164 t165 t166 t167 _ A6.out (WOK.below hW_ (zB HB))).mono ?_); rintro e w16 ⟨rfl, hb⟩; refine ⟨_, rfl, ?_⟩; replace BK160 := Aside0.mk (blk_below (g := gb160) (o := .cells #[.bool false, .int .u64 0, .int .u64 0, .int .i64 0] 30 (0, 0)) (zK BK160) hb); replace HB := Aside0.mk (below_step (zB HB) hb); (try clear hb)) | ((with_reducible refine gate_dst (N := 7) rfl ?_); refine zx 7 #[.bool false, .int .u64 0, .int .u64 0] 25 ?_; intro gb168 hg w17 hbox hb; have BK168 := Aside0.mk (hbox); have GW168 := Aside0.mk ((by rw [hg]; exact (below_size (zB HB)) : w.heap.size ≤ gb168)); have GE168 := Aside0.mk ((by rw [hg]; exact (below_size (zB HB)) : w.heap.size ≤ gb168)); replace HB := Aside0.mk (below_step (zB HB) hb); have NB160_168 := Aside0.mk ((by rw [hg]; exact Nat.ne_of_lt (blk_lt (g := gb160) (o := .cells #[.bool false, .int .u64 0, .int .u64 0, .int .i64 0] 30 (0, 0)) (zK BK160)) : gb160 ≠ gb168)); have NB168_160 := Aside0.mk ((by rw [hg]; exact Nat.ne_of_gt (blk_lt (g := gb160) (o := .cells #[.bool false, .int .u64 0, .int .u64 0, .int .i64 0] 30 (0, 0)) (zK BK160)) : gb168 ≠ gb160)); replace BK160 := Aside0.mk (blk_below (g := gb160) (o := .cells #[.bool false, .int .u64 0, .int .u64 0, .int .i64 0] 30 (0, 0)) (zK BK160) hb); clear hb hbox hg; have hnb18 := NB168_160.out; have hnc18 := NB160_168.out; obtain ⟨hcz19_0, hcz19_1, hcz19_2⟩ := zc3 BK168; obtain ⟨hfz19_0, hfz19_1, hfz19_2⟩ := zf3 BK168))
           have n0_ : Aside0 ((((w17.setCell ⟨gb168, 0, none⟩ (.bool t164)).setCell ⟨gb168, 1, none⟩ (.int .u64 t165)).setCell ⟨gb168, 2, none⟩ (.int .u64 t166)).heap[gb160]? = some (.cells #[.bool false, .int .u64 0, .int .u64 0, .int .i64 0] 30 (0, 0))) := ⟨by refine zL ?_; refine blk_far ?_ NB160_168.out _; refine zL ?_; refine blk_far ?_ NB160_168.out _; refine zL ?_; refine blk_far ?_ NB160_168.out _; refine zL ?_; exact BK160.out⟩
           have n1_ : Aside0 ((((w17.setCell ⟨gb168, 0, none⟩ (.bool t164)).setCell ⟨gb168, 1, none⟩ (.int .u64 t165)).setCell ⟨gb168, 2, none⟩ (.int .u64 t166)).heap[gb168]? = some (.cells #[.bool t164, .int .u64 t165, .int .u64 t166] 25 (0, 0))) := ⟨by refine zL ?_; refine blk_put (cs := #[.bool t164, .int .u64 t165, .int .u64 0]) ?_ 2 _ rfl; refine zL ?_; refine blk_put (cs := #[.bool t164, .int .u64 0, .int .u64 0]) ?_ 1 _ rfl; refine zL ?_; refine blk_put (cs := #[.bool false, .int .u64 0, .int .u64 0]) ?_ 0 _ rfl; refine zL ?_; exact BK168.out⟩
           have n2_ : Aside0 (Below w.heap.size w (((w17.setCell ⟨gb168, 0, none⟩ (.bool t164)).setCell ⟨gb168, 1, none⟩ (.int .u64 t165)).setCell ⟨gb168, 2, none⟩ (.int .u64 t166))) := ⟨zB HB⟩
           (try clear BK160)
           (try clear BK168)
           (try clear HB)
           generalize (((w17.setCell ⟨gb168, 0, none⟩ (.bool t164)).setCell ⟨gb168, 1, none⟩ (.int .u64 t165)).setCell ⟨gb168, 2, none⟩ (.int .u64 t166)) = w20 at n0_ n1_ n2_ ⊢
           have BK160 := n0_
           have BK168 := n1_
           have HB := n2_
           clear n0_ n1_ n2_
           replace BK160 := Aside0.mk (blk_drew BK160.out)
           replace BK168 := Aside0.mk (blk_drew BK168.out)
           replace HB := Aside0.mk (below_drew1 HB.out)
           refine start_ (n := 6) (S := fun w' => w'.cell? ⟨gb168, 0, none⟩ = some (.bool t164) ∧ w'.cell? ⟨gb168, 1, none⟩ = some (.int .u64 t165) ∧ w'.cell? ⟨gb168, 2, none⟩ = some (.int .u64 t166)) (ds := []) #[false, false, false, false, false, false] (by kernel_rfl) rfl rfl ⟨zc BK168 0, zc BK168 1, zc BK168 2⟩ (fun hHeld => ?_)
           generalize w20.drew = w21 at BK160 BK168 HB hHeld ⊢
           refine zt0 0 30 hHeld ?_; refine zt0 1 31 hHeld ?_
           refine join_ (σ := Nat) 1 #[true, true, true, true, true, false] (fun s_ => [(32, .int .i64 t169), (9, .pointer (some ⟨s_, 0, none⟩)), (33, .agg #[.bool t164, .int .u64 t165, .int .u64 t166, .int .i64 t169])]) (fun s_ w' => (w'.cell? ⟨gb168, 0, none⟩ = some (.bool t164) ∧ w'.cell? ⟨gb168, 1, none⟩ = some (.int .u64 t165) ∧ w'.cell? ⟨gb168, 2, none⟩ = some (.int .u64 t166)) ∧ (w'.heap[gb160]? = some (.cells #[.bool false, .int .u64 0, .int .u64 0, .int .i64 0] 30 (0, 0))) ∧ (w'.heap[gb168]? = some (.cells #[.bool t164, .int .u64 t165, .int .u64 t166] 25 (0, 0))) ∧ (w'.heap[s_]? = some (.cells #[.bool false, .int .u64 0, .int .u64 0, .int .i64 0] 30 (0, 0))) ∧ (w.heap.size ≤ s_) ∧ (w.heap.size ≤ s_) ∧ (gb160 ≠ s_) ∧ (s_ ≠ gb160) ∧ (gb168 ≠ s_) ∧ (s_ ≠ gb168) ∧ (Below w.heap.size w w')) ?_ ?_
           rotate_left
           · intro hCont
             refine two_ (i := 2) (j := 4) (Ni := some 32) (Nj := some 9) #[true, true, true, false, false, false] #[true, true, false, false, true, false] rfl rfl rfl rfl (by kernel_rfl) (by decide) (by decide) (fun K hK => ?_) (fun K hK => ?_)
             · skip
               refine zg Tryd.func44 #[.agg #[.bool t164, .int .u64 t165, .int .u64 t166]] ?_
               with_reducible refine (address_size.calls t164 t165 t166 t169 _ A8.out).mono ?_
               rintro e w22 ⟨rfl, hb⟩
               refine ⟨_, rfl, ?_⟩
               replace BK160 := Aside0.mk (blk_below (g := gb160) (o := .cells #[.bool false, .int .u64 0, .int .u64 0, .int .i64 0] 30 (0, 0)) (zK BK160) hb)
               replace BK168 := Aside0.mk (blk_below (g := gb168) (o := .cells #[.bool t164, .int .u64 t165, .int .u64 t166] 25 (0, 0)) (zK BK168) hb)
               replace HB := Aside0.mk (below_step (zB HB) hb)
               (try clear hb)
               refine hK.out _ _ ⟨zc BK168 0, zc BK168 1, zc BK168 2⟩ (fun hHeld => ?_)
               clear hK K
               refine zn 32 ?_; refine zp0 3 33 ?_; refine zo0 4 9 (fun K hK => ?_)
               refine box_step ?hg (N := 9) ?hd (cs := #[.bool false, .int .u64 0, .int .u64 0, .int .i64 0]) (t := 30) ?hr ?_; (case hd => rfl); (case hg => rfl); (case hr => first | (go_simp; done) | (go_simp; rfl))
               intro gb170 hg w23 hbox hb
               have BK170 := Aside0.mk (hbox)
               have GW170 := Aside0.mk ((by rw [hg]; exact (below_size (zB HB)) : w.heap.size ≤ gb170))
               have GE170 := Aside0.mk ((by rw [hg]; exact (below_size (zB HB)) : w.heap.size ≤ gb170))
               replace HB := Aside0.mk (below_step (zB HB) hb)
               have NB160_170 := Aside0.mk ((by rw [hg]; exact Nat.ne_of_lt (blk_lt (g := gb160) (o := .cells #[.bool false, .int .u64 0, .int .u64 0, .int .i64 0] 30 (0, 0)) (zK BK160)) : gb160 ≠ gb170))
               have NB170_160 := Aside0.mk ((by rw [hg]; exact Nat.ne_of_gt (blk_lt (g := gb160) (o := .cells #[.bool false, .int .u64 0, .int .u64 0, .int .i64 0] 30 (0, 0)) (zK BK160)) : gb170 ≠ gb160))
               replace BK160 := Aside0.mk (blk_below (g := gb160) (o := .cells #[.bool false, .int .u64 0, .int .u64 0, .int .i64 0] 30 (0, 0)) (zK BK160) hb)
               have NB168_170 := Aside0.mk ((by rw [hg]; exact Nat.ne_of_lt (blk_lt (g := gb168) (o := .cells #[.bool t164, .int .u64 t165, .int .u64 t166] 25 (0, 0)) (zK BK168)) : gb168 ≠ gb170))
               have NB170_168 := Aside0.mk ((by rw [hg]; exact Nat.ne_of_gt (blk_lt (g := gb168) (o := .cells #[.bool t164, .int .u64 t165, .int .u64 t166] 25 (0, 0)) (zK BK168)) : gb170 ≠ gb168))
               replace BK168 := Aside0.mk (blk_below (g := gb168) (o := .cells #[.bool t164, .int .u64 t165, .int .u64 t166] 25 (0, 0)) (zK BK168) hb)
               clear hb hbox hg
               refine hK.out _ _ ⟨zc BK168 0, zc BK168 1, zc BK168 2⟩ (fun hHeld => ?_)
               clear hK K
               refine zn 9 ?_
               exact norm_ (by simp only [putAll, Act.put, List.setIfInBounds_toArray, List.set_cons_zero, List.set_cons_succ]) (hCont (gb170) _ ⟨hHeld, (zK BK160), (zK BK168), (zK BK170), GW170.out, GE170.out, NB160_170.out, NB170_160.out, NB168_170.out, NB170_168.out, (zB HB)⟩)
             · skip
               refine box_step ?hg (N := 9) ?hd (cs := #[.bool false, .int .u64 0, .int .u64 0, .int .i64 0]) (t := 30) ?hr ?_; (case hd => rfl); (case hg => rfl); (case hr => first | (go_simp; done) | (go_simp; rfl))
               intro gb170 hg w22 hbox hb
               have BK170 := Aside0.mk (hbox)
               have GW170 := Aside0.mk ((by rw [hg]; exact (below_size (zB HB)) : w.heap.size ≤ gb170))
               have GE170 := Aside0.mk ((by rw [hg]; exact (below_size (zB HB)) : w.heap.size ≤ gb170))
               replace HB := Aside0.mk (below_step (zB HB) hb)
               have NB160_170 := Aside0.mk ((by rw [hg]; exact Nat.ne_of_lt (blk_lt (g := gb160) (o := .cells #[.bool false, .int .u64 0, .int .u64 0, .int .i64 0] 30 (0, 0)) (zK BK160)) : gb160 ≠ gb170))
               have NB170_160 := Aside0.mk ((by rw [hg]; exact Nat.ne_of_gt (blk_lt (g := gb160) (o := .cells #[.bool false, .int .u64 0, .int .u64 0, .int .i64 0] 30 (0, 0)) (zK BK160)) : gb170 ≠ gb160))
               replace BK160 := Aside0.mk (blk_below (g := gb160) (o := .cells #[.bool false, .int .u64 0, .int .u64 0, .int .i64 0] 30 (0, 0)) (zK BK160) hb)
               have NB168_170 := Aside0.mk ((by rw [hg]; exact Nat.ne_of_lt (blk_lt (g := gb168) (o := .cells #[.bool t164, .int .u64 t165, .int .u64 t166] 25 (0, 0)) (zK BK168)) : gb168 ≠ gb170))
               have NB170_168 := Aside0.mk ((by rw [hg]; exact Nat.ne_of_gt (blk_lt (g := gb168) (o := .cells #[.bool t164, .int .u64 t165, .int .u64 t166] 25 (0, 0)) (zK BK168)) : gb170 ≠ gb168))
               replace BK168 := Aside0.mk (blk_below (g := gb168) (o := .cells #[.bool t164, .int .u64 t165, .int .u64 t166] 25 (0, 0)) (zK BK168) hb)
               clear hb hbox hg
               refine hK.out _ _ ⟨zc BK168 0, zc BK168 1, zc BK168 2⟩ (fun hHeld => ?_)
               clear hK K
               refine zn 9 ?_; refine zo0 2 32 (fun K hK => ?_)
               refine zg Tryd.func44 #[.agg #[.bool t164, .int .u64 t165, .int .u64 t166]] ?_
               with_reducible refine (address_size.calls t164 t165 t166 t169 _ A8.out).mono ?_
               rintro e w23 ⟨rfl, hb⟩
               refine ⟨_, rfl, ?_⟩
               replace BK160 := Aside0.mk (blk_below (g := gb160) (o := .cells #[.bool false, .int .u64 0, .int .u64 0, .int .i64 0] 30 (0, 0)) (zK BK160) hb)
               replace BK168 := Aside0.mk (blk_below (g := gb168) (o := .cells #[.bool t164, .int .u64 t165, .int .u64 t166] 25 (0, 0)) (zK BK168) hb)
               replace BK170 := Aside0.mk (blk_below (g := gb170) (o := .cells #[.bool false, .int .u64 0, .int .u64 0, .int .i64 0] 30 (0, 0)) (zK BK170) hb)
               replace HB := Aside0.mk (below_step (zB HB) hb)
               (try clear hb)
               refine hK.out _ _ ⟨zc BK168 0, zc BK168 1, zc BK168 2⟩ (fun hHeld => ?_)
               clear hK K
               refine zn 32 ?_; refine zp0 3 33 ?_
               exact norm_ (by simp only [putAll, Act.put, List.setIfInBounds_toArray, List.set_cons_zero, List.set_cons_succ]) (hCont (gb170) _ ⟨hHeld, (zK BK160), (zK BK168), (zK BK170), GW170.out, GE170.out, NB160_170.out, NB170_160.out, NB168_170.out, NB170_168.out, (zB HB)⟩)
           rintro gb170 w24 ⟨hS_, h0_, h1_, h2_, h3_, h4_, h5_, h6_, h7_, h8_, h9_⟩
           have n0_ : Aside0 (w24.heap[gb160]? = some (.cells #[.bool false, .int .u64 0, .int .u64 0, .int .i64 0] 30 (0, 0))) := ⟨h0_⟩
           have n1_ : Aside0 (w24.heap[gb168]? = some (.cells #[.bool t164, .int .u64 t165, .int .u64 t166] 25 (0, 0))) := ⟨h1_⟩
           have n2_ : Aside0 (w24.heap[gb170]? = some (.cells #[.bool false, .int .u64 0, .int .u64 0, .int .i64 0] 30 (0, 0))) := ⟨h2_⟩
           have n3_ : Aside0 (w.heap.size ≤ gb170) := ⟨h3_⟩
           have n4_ : Aside0 (w.heap.size ≤ gb170) := ⟨h4_⟩
           have n5_ : Aside0 (gb160 ≠ gb170) := ⟨h5_⟩
           have n6_ : Aside0 (gb170 ≠ gb160) := ⟨h6_⟩
           have n7_ : Aside0 (gb168 ≠ gb170) := ⟨h7_⟩
           have n8_ : Aside0 (gb170 ≠ gb168) := ⟨h8_⟩
           have n9_ : Aside0 (Below w.heap.size w w24) := ⟨h9_⟩
           clear BK160
           clear BK168
           clear HB
           clear h0_ h1_ h2_ h3_ h4_ h5_ h6_ h7_ h8_ h9_
           have BK160 := n0_
           have BK168 := n1_
           have BK170 := n2_
           have GW170 := n3_
           have GE170 := n4_
           have NB160_170 := n5_
           have NB170_160 := n6_
           have NB168_170 := n7_
           have NB170_168 := n8_
           have HB := n9_
           clear n0_ n1_ n2_ n3_ n4_ n5_ n6_ n7_ n8_ n9_
           have hHeld : w24.cell? ⟨gb168, 0, none⟩ = some (.bool t164) ∧ w24.cell? ⟨gb168, 1, none⟩ = some (.int .u64 t165) ∧ w24.cell? ⟨gb168, 2, none⟩ = some (.int .u64 t166) := hS_
           refine norm_ (a' := ?_) ?_ ?_
           rotate_left
           · simp only [putAll, Act.put, List.setIfInBounds_toArray, List.set_cons_zero, List.set_cons_succ]
             rfl
           refine one_ (i := 5) (N := none) #[true, true, true, true, true, true] rfl rfl (by kernel_rfl) (by decide) (fun K hK => ?_)
           have hs25 : w24.cell? ⟨gb170, 0, none⟩ = some (.bool false) := zc BK170 0
           have hfs25 := blk_frozen BK170.out 0
           have hns25_0 := NB160_170.out
           have hns25_1 := NB168_170.out
           have hms25_0 := NB170_160.out
           have hms25_1 := NB170_168.out
           have hs26 : w24.cell? ⟨gb170, 1, none⟩ = some (.int .u64 0) := zc BK170 1
           have hfs26 := blk_frozen BK170.out 1
           have hns26_0 := NB160_170.out
           have hns26_1 := NB168_170.out
           have hms26_0 := NB170_160.out
           have hms26_1 := NB170_168.out
           have hs27 : w24.cell? ⟨gb170, 2, none⟩ = some (.int .u64 0) := zc BK170 2
           have hfs27 := blk_frozen BK170.out 2
           have hns27_0 := NB160_170.out
           have hns27_1 := NB168_170.out
           have hms27_0 := NB170_160.out
           have hms27_1 := NB170_168.out
           have hs28 : w24.cell? ⟨gb170, 3, none⟩ = some (.int .i64 0) := zc BK170 3
           have hfs28 := blk_frozen BK170.out 3
           have hns28_0 := NB160_170.out
           have hns28_1 := NB168_170.out
           have hms28_0 := NB170_160.out
           have hms28_1 := NB170_168.out
           refine skip_ (w1 := ?_) (by rfl) rfl ?_ ?_
           rotate_left
           · go_simp
             rfl
           refine hK.out _ _ ⟨((cell_far (p := ⟨gb170, _, none⟩) NB168_170.out _).trans (((cell_far (p := ⟨gb170, _, none⟩) NB168_170.out _).trans (((cell_far (p := ⟨gb170, _, none⟩) NB168_170.out _).trans (((cell_far (p := ⟨gb170, _, none⟩) NB168_170.out _).trans (hHeld.1)))))))), ((cell_far (p := ⟨gb170, _, none⟩) NB168_170.out _).trans (((cell_far (p := ⟨gb170, _, none⟩) NB168_170.out _).trans (((cell_far (p := ⟨gb170, _, none⟩) NB168_170.out _).trans (((cell_far (p := ⟨gb170, _, none⟩) NB168_170.out _).trans (hHeld.2.1)))))))), ((cell_far (p := ⟨gb170, _, none⟩) NB168_170.out _).trans (((cell_far (p := ⟨gb170, _, none⟩) NB168_170.out _).trans (((cell_far (p := ⟨gb170, _, none⟩) NB168_170.out _).trans (((cell_far (p := ⟨gb170, _, none⟩) NB168_170.out _).trans (hHeld.2.2))))))))⟩ (fun hHeld => ?_)
           clear hK K
           refine zd0 ?_
           try go_wp2_with (first | ((with_reducible refine gate_callee (f := 45) rfl ?_); refine goesL_ (some 37) rfl rfl Tryd.func45 (by kernel_rfl) rfl #[.string t162] rfl (by (try simp only [List.map_toArray, List.map_cons, List.map_nil]); first | done | rfl | (simp only [List.length_drop, List.length_take]; rfl)) ?_; (with_reducible refine (address_digits.calls k t162 t171 true _ A10.out).mono ?_); rintro e w29 ⟨rfl, hb⟩; refine ⟨_, rfl, ?_⟩; replace BK160 := Aside0.mk (blk_below (g := gb160) (o := .cells #[.bool false, .int .u64 0, .int .u64 0, .int .i64 0] 30 (0, 0)) (by refine zL ?_; refine blk_far ?_ NB160_170.out _; refine zL ?_; refine blk_far ?_ NB160_170.out _; refine zL ?_; refine blk_far ?_ NB160_170.out _; refine zL ?_; refine blk_far ?_ NB160_170.out _; refine zL ?_; exact BK160.out) hb); replace BK168 := Aside0.mk (blk_below (g := gb168) (o := .cells #[.bool t164, .int .u64 t165, .int .u64 t166] 25 (0, 0)) (by refine zL ?_; refine blk_far ?_ NB168_170.out _; refine zL ?_; refine blk_far ?_ NB168_170.out _; refine zL ?_; refine blk_far ?_ NB168_170.out _; refine zL ?_; refine blk_far ?_ NB168_170.out _; refine zL ?_; exact BK168.out) hb); replace BK170 := Aside0.mk (blk_below (g := gb170) (o := .cells #[.bool t164, .int .u64 t165, .int .u64 t166, .int .i64 t169] 30 (0, 0)) (by refine zL ?_; refine blk_put (cs := #[.bool t164, .int .u64 t165, .int .u64 t166, .int .i64 0]) ?_ 3 _ rfl; refine zL ?_; refine blk_put (cs := #[.bool t164, .int .u64 t165, .int .u64 0, .int .i64 0]) ?_ 2 _ rfl; refine zL ?_; refine blk_put (cs := #[.bool t164, .int .u64 0, .int .u64 0, .int .i64 0]) ?_ 1 _ rfl; refine zL ?_; refine blk_put (cs := #[.bool false, .int .u64 0, .int .u64 0, .int .i64 0]) ?_ 0 _ rfl; refine zL ?_; exact BK170.out) hb); replace HB := Aside0.mk (below_step (zB HB) hb); (try clear hb); have hnb30 := NB168_170.out; have hnc30 := NB170_168.out; obtain ⟨hcz31_0, hcz31_1, hcz31_2⟩ := zc3 BK168; obtain ⟨hfz31_0, hfz31_1, hfz31_2⟩ := zf3 BK168) | ((with_reducible refine gate_callee (f := 44) rfl ?_); refine goesL_ (some 47) rfl rfl Tryd.func44 (by kernel_rfl) rfl #[.agg #[.bool t164, .int .u64 t165, .int .u64 t166]] rfl (by (try simp only [List.map_toArray, List.map_cons, List.map_nil]); first | done | rfl | (simp only [List.length_drop, List.length_take]; rfl)) ?_; (with_reducible refine (address_size.calls t164 t165 t166 t173 _ A12.out).mono ?_); rintro e w32 ⟨rfl, hb⟩; refine ⟨_, rfl, ?_⟩; replace BK160 := Aside0.mk (blk_below (g := gb160) (o := .cells #[.bool false, .int .u64 0, .int .u64 0, .int .i64 0] 30 (0, 0)) (zK BK160) hb); replace BK168 := Aside0.mk (blk_below (g := gb168) (o := .cells #[.bool t164, .int .u64 t165, .int .u64 t166] 25 (0, 0)) (zK BK168) hb); replace BK170 := Aside0.mk (blk_below (g := gb170) (o := .cells #[.bool t164, .int .u64 t165, .int .u64 t166, .int .i64 t169] 30 (0, 0)) (zK BK170) hb); replace HB := Aside0.mk (below_step (zB HB) hb); (try clear hb); have hnb33 := NB160_170.out; have hnc33 := NB170_160.out; obtain ⟨hcz34_0, hcz34_1, hcz34_2, hcz34_3⟩ := zc4 BK160; obtain ⟨hfz34_0, hfz34_1, hfz34_2, hfz34_3⟩ := zf4 BK160))
           refine bodyPost_ret (results_ct rfl _ _ gb160 30 #[.bool false, .int .u64 0, .int .u64 0, .int .i64 0] (0, 0) _ rfl (by refine zL ?_; refine blk_put (cs := #[.bool false, .int .u64 0, .int .u64 0, .int .i64 0]) ?_ 3 _ rfl; refine zL ?_; refine blk_put (cs := #[.bool false, .int .u64 0, .int .u64 0, .int .i64 0]) ?_ 2 _ rfl; refine zL ?_; refine blk_put (cs := #[.bool false, .int .u64 0, .int .u64 0, .int .i64 0]) ?_ 1 _ rfl; refine zL ?_; refine blk_put (cs := #[.bool false, .int .u64 0, .int .u64 0, .int .i64 0]) ?_ 0 _ rfl; refine zL ?_; exact BK160.out) Tryd.underlying30 rfl (by kernel_rfl)) rfl ?_
           exact ⟨by first | rfl | (simp [errW_none, errW_some] <;> rfl) | (simp [*, errW_none, errW_some] <;> rfl), by repeat (first | (with_reducible first | exact HB.out | apply below_alloc | apply pw_below_drewN | apply below_drew1 | refine below_set ?_ GE160.out | refine below_set ?_ GE168.out | refine below_set ?_ GE170.out) | exact HB.out)⟩
         · rw [if_neg c13] at H
           have c13b0 : decide (t173 < t171) = false := decide_eq_false c13
           clear c13
           replace H := Option.bind_eq_some_iff.mp H
           obtain ⟨t174, A350, H⟩ := H
           replace H : (if t174 = true then (some (t164, t165, t166, t171, 0)) else (some (false, 0, 0, 0, 2))) = some (r1, r2, r3, r4, r5) := H
           have A35 := Aside0.mk A350
           clear A350
           by_cases c36 : t174 = true
           · subst c36
             rw [if_pos rfl] at H
             simp only [Option.some.injEq, Prod.mk.injEq] at H
             obtain ⟨rfl, rfl, rfl, rfl, rfl⟩ := H
             go_enter Tryd.func13, Tryd.ntmps13
             try go_wp2_with (first | ((with_reducible refine gate_dst (N := 2) rfl ?_); refine zx 2 #[.bool false, .int .u64 0, .int .u64 0, .int .i64 0] 30 ?_; intro gb160 hg w37 hbox hb; have BK160 := Aside0.mk (hbox); have GW160 := Aside0.mk ((by rw [hg]; exact (below_size (zB HB)) : w.heap.size ≤ gb160)); have GE160 := Aside0.mk ((by rw [hg]; exact (below_size (zB HB)) : w.heap.size ≤ gb160)); replace HB := Aside0.mk (below_step (zB HB) hb); clear hb hbox hg) | ((with_reducible refine gate_callee (f := 43) rfl ?_); refine goesL_ (some 18) rfl rfl Tryd.func43 (by kernel_rfl) rfl #[.string a0, .string (⟨#[47]⟩ : ByteArray)] rfl (by (try simp only [List.map_toArray, List.map_cons, List.map_nil]); first | done | rfl | (simp only [List.length_drop, List.length_take]; rfl)) ?_; (with_reducible refine (strings_Cut.calls a0 (⟨#[47]⟩ : ByteArray) t161 t162 true _ A5.out (WOK.below hW_ (zB HB))).mono ?_); rintro e w38 ⟨rfl, hb⟩; refine ⟨_, rfl, ?_⟩; replace BK160 := Aside0.mk (blk_below (g := gb160) (o := .cells #[.bool false, .int .u64 0, .int .u64 0, .int .i64 0] 30 (0, 0)) (zK BK160) hb); replace HB := Aside0.mk (below_step (zB HB) hb); (try clear hb)) | ((with_reducible refine gate_callee (f := 11) rfl ?_); refine goesL_ (some 24) rfl rfl Tryd.func11 (by kernel_rfl) rfl #[.string t161] rfl (by (try simp only [List.map_toArray, List.map_cons, List.map_nil]); first | done | rfl | (simp only [List.length_drop, List.length_take]; rfl)) ?_; (with_reducible refine (address_Parse.calls k t161 t164 t165 t166 t167 _ A6.out (WOK.below hW_ (zB HB))).mono ?_); rintro e w39 ⟨rfl, hb⟩; refine ⟨_, rfl, ?_⟩; replace BK160 := Aside0.mk (blk_below (g := gb160) (o := .cells #[.bool false, .int .u64 0, .int .u64 0, .int .i64 0] 30 (0, 0)) (zK BK160) hb); replace HB := Aside0.mk (below_step (zB HB) hb); (try clear hb)) | ((with_reducible refine gate_dst (N := 7) rfl ?_); refine zx 7 #[.bool false, .int .u64 0, .int .u64 0] 25 ?_; intro gb168 hg w40 hbox hb; have BK168 := Aside0.mk (hbox); have GW168 := Aside0.mk ((by rw [hg]; exact (below_size (zB HB)) : w.heap.size ≤ gb168)); have GE168 := Aside0.mk ((by rw [hg]; exact (below_size (zB HB)) : w.heap.size ≤ gb168)); replace HB := Aside0.mk (below_step (zB HB) hb); have NB160_168 := Aside0.mk ((by rw [hg]; exact Nat.ne_of_lt (blk_lt (g := gb160) (o := .cells #[.bool false, .int .u64 0, .int .u64 0, .int .i64 0] 30 (0, 0)) (zK BK160)) : gb160 ≠ gb168)); have NB168_160 := Aside0.mk ((by rw [hg]; exact Nat.ne_of_gt (blk_lt (g := gb160) (o := .cells #[.bool false, .int .u64 0, .int .u64 0, .int .i64 0] 30 (0, 0)) (zK BK160)) : gb168 ≠ gb160)); replace BK160 := Aside0.mk (blk_below (g := gb160) (o := .cells #[.bool false, .int .u64 0, .int .u64 0, .int .i64 0] 30 (0, 0)) (zK BK160) hb); clear hb hbox hg; have hnb41 := NB168_160.out; have hnc41 := NB160_168.out; obtain ⟨hcz42_0, hcz42_1, hcz42_2⟩ := zc3 BK168; obtain ⟨hfz42_0, hfz42_1, hfz42_2⟩ := zf3 BK168))
             have n0_ : Aside0 ((((w40.setCell ⟨gb168, 0, none⟩ (.bool t164)).setCell ⟨gb168, 1, none⟩ (.int .u64 t165)).setCell ⟨gb168, 2, none⟩ (.int .u64 t166)).heap[gb160]? = some (.cells #[.bool false, .int .u64 0, .int .u64 0, .int .i64 0] 30 (0, 0))) := ⟨by refine zL ?_; refine blk_far ?_ NB160_168.out _; refine zL ?_; refine blk_far ?_ NB160_168.out _; refine zL ?_; refine blk_far ?_ NB160_168.out _; refine zL ?_; exact BK160.out⟩
             have n1_ : Aside0 ((((w40.setCell ⟨gb168, 0, none⟩ (.bool t164)).setCell ⟨gb168, 1, none⟩ (.int .u64 t165)).setCell ⟨gb168, 2, none⟩ (.int .u64 t166)).heap[gb168]? = some (.cells #[.bool t164, .int .u64 t165, .int .u64 t166] 25 (0, 0))) := ⟨by refine zL ?_; refine blk_put (cs := #[.bool t164, .int .u64 t165, .int .u64 0]) ?_ 2 _ rfl; refine zL ?_; refine blk_put (cs := #[.bool t164, .int .u64 0, .int .u64 0]) ?_ 1 _ rfl; refine zL ?_; refine blk_put (cs := #[.bool false, .int .u64 0, .int .u64 0]) ?_ 0 _ rfl; refine zL ?_; exact BK168.out⟩
             have n2_ : Aside0 (Below w.heap.size w (((w40.setCell ⟨gb168, 0, none⟩ (.bool t164)).setCell ⟨gb168, 1, none⟩ (.int .u64 t165)).setCell ⟨gb168, 2, none⟩ (.int .u64 t166))) := ⟨zB HB⟩
             (try clear BK160)
             (try clear BK168)
             (try clear HB)
             generalize (((w40.setCell ⟨gb168, 0, none⟩ (.bool t164)).setCell ⟨gb168, 1, none⟩ (.int .u64 t165)).setCell ⟨gb168, 2, none⟩ (.int .u64 t166)) = w43 at n0_ n1_ n2_ ⊢
             have BK160 := n0_
             have BK168 := n1_
             have HB := n2_
             clear n0_ n1_ n2_
             replace BK160 := Aside0.mk (blk_drew BK160.out)
             replace BK168 := Aside0.mk (blk_drew BK168.out)
             replace HB := Aside0.mk (below_drew1 HB.out)
             refine start_ (n := 6) (S := fun w' => w'.cell? ⟨gb168, 0, none⟩ = some (.bool t164) ∧ w'.cell? ⟨gb168, 1, none⟩ = some (.int .u64 t165) ∧ w'.cell? ⟨gb168, 2, none⟩ = some (.int .u64 t166)) (ds := []) #[false, false, false, false, false, false] (by kernel_rfl) rfl rfl ⟨zc BK168 0, zc BK168 1, zc BK168 2⟩ (fun hHeld => ?_)
             generalize w43.drew = w44 at BK160 BK168 HB hHeld ⊢
             refine zt0 0 30 hHeld ?_; refine zt0 1 31 hHeld ?_
             refine join_ (σ := Nat) 1 #[true, true, true, true, true, false] (fun s_ => [(32, .int .i64 t169), (9, .pointer (some ⟨s_, 0, none⟩)), (33, .agg #[.bool t164, .int .u64 t165, .int .u64 t166, .int .i64 t169])]) (fun s_ w' => (w'.cell? ⟨gb168, 0, none⟩ = some (.bool t164) ∧ w'.cell? ⟨gb168, 1, none⟩ = some (.int .u64 t165) ∧ w'.cell? ⟨gb168, 2, none⟩ = some (.int .u64 t166)) ∧ (w'.heap[gb160]? = some (.cells #[.bool false, .int .u64 0, .int .u64 0, .int .i64 0] 30 (0, 0))) ∧ (w'.heap[gb168]? = some (.cells #[.bool t164, .int .u64 t165, .int .u64 t166] 25 (0, 0))) ∧ (w'.heap[s_]? = some (.cells #[.bool false, .int .u64 0, .int .u64 0, .int .i64 0] 30 (0, 0))) ∧ (w.heap.size ≤ s_) ∧ (w.heap.size ≤ s_) ∧ (gb160 ≠ s_) ∧ (s_ ≠ gb160) ∧ (gb168 ≠ s_) ∧ (s_ ≠ gb168) ∧ (Below w.heap.size w w')) ?_ ?_
             rotate_left
             · intro hCont
               refine two_ (i := 2) (j := 4) (Ni := some 32) (Nj := some 9) #[true, true, true, false, false, false] #[true, true, false, false, true, false] rfl rfl rfl rfl (by kernel_rfl) (by decide) (by decide) (fun K hK => ?_) (fun K hK => ?_)
               · skip
                 refine zg Tryd.func44 #[.agg #[.bool t164, .int .u64 t165, .int .u64 t166]] ?_
                 with_reducible refine (address_size.calls t164 t165 t166 t169 _ A8.out).mono ?_
                 rintro e w45 ⟨rfl, hb⟩
                 refine ⟨_, rfl, ?_⟩
                 replace BK160 := Aside0.mk (blk_below (g := gb160) (o := .cells #[.bool false, .int .u64 0, .int .u64 0, .int .i64 0] 30 (0, 0)) (zK BK160) hb)
                 replace BK168 := Aside0.mk (blk_below (g := gb168) (o := .cells #[.bool t164, .int .u64 t165, .int .u64 t166] 25 (0, 0)) (zK BK168) hb)
                 replace HB := Aside0.mk (below_step (zB HB) hb)
                 (try clear hb)
                 refine hK.out _ _ ⟨zc BK168 0, zc BK168 1, zc BK168 2⟩ (fun hHeld => ?_)
                 clear hK K
                 refine zn 32 ?_; refine zp0 3 33 ?_; refine zo0 4 9 (fun K hK => ?_)
                 refine box_step ?hg (N := 9) ?hd (cs := #[.bool false, .int .u64 0, .int .u64 0, .int .i64 0]) (t := 30) ?hr ?_; (case hd => rfl); (case hg => rfl); (case hr => first | (go_simp; done) | (go_simp; rfl))
                 intro gb170 hg w46 hbox hb
                 have BK170 := Aside0.mk (hbox)
                 have GW170 := Aside0.mk ((by rw [hg]; exact (below_size (zB HB)) : w.heap.size ≤ gb170))
                 have GE170 := Aside0.mk ((by rw [hg]; exact (below_size (zB HB)) : w.heap.size ≤ gb170))
                 replace HB := Aside0.mk (below_step (zB HB) hb)
                 have NB160_170 := Aside0.mk ((by rw [hg]; exact Nat.ne_of_lt (blk_lt (g := gb160) (o := .cells #[.bool false, .int .u64 0, .int .u64 0, .int .i64 0] 30 (0, 0)) (zK BK160)) : gb160 ≠ gb170))
                 have NB170_160 := Aside0.mk ((by rw [hg]; exact Nat.ne_of_gt (blk_lt (g := gb160) (o := .cells #[.bool false, .int .u64 0, .int .u64 0, .int .i64 0] 30 (0, 0)) (zK BK160)) : gb170 ≠ gb160))
                 replace BK160 := Aside0.mk (blk_below (g := gb160) (o := .cells #[.bool false, .int .u64 0, .int .u64 0, .int .i64 0] 30 (0, 0)) (zK BK160) hb)
                 have NB168_170 := Aside0.mk ((by rw [hg]; exact Nat.ne_of_lt (blk_lt (g := gb168) (o := .cells #[.bool t164, .int .u64 t165, .int .u64 t166] 25 (0, 0)) (zK BK168)) : gb168 ≠ gb170))
                 have NB170_168 := Aside0.mk ((by rw [hg]; exact Nat.ne_of_gt (blk_lt (g := gb168) (o := .cells #[.bool t164, .int .u64 t165, .int .u64 t166] 25 (0, 0)) (zK BK168)) : gb170 ≠ gb168))
                 replace BK168 := Aside0.mk (blk_below (g := gb168) (o := .cells #[.bool t164, .int .u64 t165, .int .u64 t166] 25 (0, 0)) (zK BK168) hb)
                 clear hb hbox hg
                 refine hK.out _ _ ⟨zc BK168 0, zc BK168 1, zc BK168 2⟩ (fun hHeld => ?_)
                 clear hK K
                 refine zn 9 ?_
                 exact norm_ (by simp only [putAll, Act.put, List.setIfInBounds_toArray, List.set_cons_zero, List.set_cons_succ]) (hCont (gb170) _ ⟨hHeld, (zK BK160), (zK BK168), (zK BK170), GW170.out, GE170.out, NB160_170.out, NB170_160.out, NB168_170.out, NB170_168.out, (zB HB)⟩)
               · skip
                 refine box_step ?hg (N := 9) ?hd (cs := #[.bool false, .int .u64 0, .int .u64 0, .int .i64 0]) (t := 30) ?hr ?_; (case hd => rfl); (case hg => rfl); (case hr => first | (go_simp; done) | (go_simp; rfl))
                 intro gb170 hg w45 hbox hb
                 have BK170 := Aside0.mk (hbox)
                 have GW170 := Aside0.mk ((by rw [hg]; exact (below_size (zB HB)) : w.heap.size ≤ gb170))
                 have GE170 := Aside0.mk ((by rw [hg]; exact (below_size (zB HB)) : w.heap.size ≤ gb170))
                 replace HB := Aside0.mk (below_step (zB HB) hb)
                 have NB160_170 := Aside0.mk ((by rw [hg]; exact Nat.ne_of_lt (blk_lt (g := gb160) (o := .cells #[.bool false, .int .u64 0, .int .u64 0, .int .i64 0] 30 (0, 0)) (zK BK160)) : gb160 ≠ gb170))
                 have NB170_160 := Aside0.mk ((by rw [hg]; exact Nat.ne_of_gt (blk_lt (g := gb160) (o := .cells #[.bool false, .int .u64 0, .int .u64 0, .int .i64 0] 30 (0, 0)) (zK BK160)) : gb170 ≠ gb160))
                 replace BK160 := Aside0.mk (blk_below (g := gb160) (o := .cells #[.bool false, .int .u64 0, .int .u64 0, .int .i64 0] 30 (0, 0)) (zK BK160) hb)
                 have NB168_170 := Aside0.mk ((by rw [hg]; exact Nat.ne_of_lt (blk_lt (g := gb168) (o := .cells #[.bool t164, .int .u64 t165, .int .u64 t166] 25 (0, 0)) (zK BK168)) : gb168 ≠ gb170))
                 have NB170_168 := Aside0.mk ((by rw [hg]; exact Nat.ne_of_gt (blk_lt (g := gb168) (o := .cells #[.bool t164, .int .u64 t165, .int .u64 t166] 25 (0, 0)) (zK BK168)) : gb170 ≠ gb168))
                 replace BK168 := Aside0.mk (blk_below (g := gb168) (o := .cells #[.bool t164, .int .u64 t165, .int .u64 t166] 25 (0, 0)) (zK BK168) hb)
                 clear hb hbox hg
                 refine hK.out _ _ ⟨zc BK168 0, zc BK168 1, zc BK168 2⟩ (fun hHeld => ?_)
                 clear hK K
                 refine zn 9 ?_; refine zo0 2 32 (fun K hK => ?_)
                 refine zg Tryd.func44 #[.agg #[.bool t164, .int .u64 t165, .int .u64 t166]] ?_
                 with_reducible refine (address_size.calls t164 t165 t166 t169 _ A8.out).mono ?_
                 rintro e w46 ⟨rfl, hb⟩
                 refine ⟨_, rfl, ?_⟩
                 replace BK160 := Aside0.mk (blk_below (g := gb160) (o := .cells #[.bool false, .int .u64 0, .int .u64 0, .int .i64 0] 30 (0, 0)) (zK BK160) hb)
                 replace BK168 := Aside0.mk (blk_below (g := gb168) (o := .cells #[.bool t164, .int .u64 t165, .int .u64 t166] 25 (0, 0)) (zK BK168) hb)
                 replace BK170 := Aside0.mk (blk_below (g := gb170) (o := .cells #[.bool false, .int .u64 0, .int .u64 0, .int .i64 0] 30 (0, 0)) (zK BK170) hb)
                 replace HB := Aside0.mk (below_step (zB HB) hb)
                 (try clear hb)
                 refine hK.out _ _ ⟨zc BK168 0, zc BK168 1, zc BK168 2⟩ (fun hHeld => ?_)
                 clear hK K
                 refine zn 32 ?_; refine zp0 3 33 ?_
                 exact norm_ (by simp only [putAll, Act.put, List.setIfInBounds_toArray, List.set_cons_zero, List.set_cons_succ]) (hCont (gb170) _ ⟨hHeld, (zK BK160), (zK BK168), (zK BK170), GW170.out, GE170.out, NB160_170.out, NB170_160.out, NB168_170.out, NB170_168.out, (zB HB)⟩)
             rintro gb170 w47 ⟨hS_, h0_, h1_, h2_, h3_, h4_, h5_, h6_, h7_, h8_, h9_⟩
             have n0_ : Aside0 (w47.heap[gb160]? = some (.cells #[.bool false, .int .u64 0, .int .u64 0, .int .i64 0] 30 (0, 0))) := ⟨h0_⟩
             have n1_ : Aside0 (w47.heap[gb168]? = some (.cells #[.bool t164, .int .u64 t165, .int .u64 t166] 25 (0, 0))) := ⟨h1_⟩
             have n2_ : Aside0 (w47.heap[gb170]? = some (.cells #[.bool false, .int .u64 0, .int .u64 0, .int .i64 0] 30 (0, 0))) := ⟨h2_⟩
             have n3_ : Aside0 (w.heap.size ≤ gb170) := ⟨h3_⟩
             have n4_ : Aside0 (w.heap.size ≤ gb170) := ⟨h4_⟩
             have n5_ : Aside0 (gb160 ≠ gb170) := ⟨h5_⟩
             have n6_ : Aside0 (gb170 ≠ gb160) := ⟨h6_⟩
             have n7_ : Aside0 (gb168 ≠ gb170) := ⟨h7_⟩
             have n8_ : Aside0 (gb170 ≠ gb168) := ⟨h8_⟩
             have n9_ : Aside0 (Below w.heap.size w w47) := ⟨h9_⟩
             clear BK160
             clear BK168
             clear HB
             clear h0_ h1_ h2_ h3_ h4_ h5_ h6_ h7_ h8_ h9_
             have BK160 := n0_
             have BK168 := n1_
             have BK170 := n2_
             have GW170 := n3_
             have GE170 := n4_
             have NB160_170 := n5_
             have NB170_160 := n6_
             have NB168_170 := n7_
             have NB170_168 := n8_
             have HB := n9_
             clear n0_ n1_ n2_ n3_ n4_ n5_ n6_ n7_ n8_ n9_
             have hHeld : w47.cell? ⟨gb168, 0, none⟩ = some (.bool t164) ∧ w47.cell? ⟨gb168, 1, none⟩ = some (.int .u64 t165) ∧ w47.cell? ⟨gb168, 2, none⟩ = some (.int .u64 t166) := hS_
             refine norm_ (a' := ?_) ?_ ?_
             rotate_left
             · simp only [putAll, Act.put, List.setIfInBounds_toArray, List.set_cons_zero, List.set_cons_succ]
               rfl
             refine one_ (i := 5) (N := none) #[true, true, true, true, true, true] rfl rfl (by kernel_rfl) (by decide) (fun K hK => ?_)
             have hs48 : w47.cell? ⟨gb170, 0, none⟩ = some (.bool false) := zc BK170 0
             have hfs48 := blk_frozen BK170.out 0
             have hns48_0 := NB160_170.out
             have hns48_1 := NB168_170.out
             have hms48_0 := NB170_160.out
             have hms48_1 := NB170_168.out
             have hs49 : w47.cell? ⟨gb170, 1, none⟩ = some (.int .u64 0) := zc BK170 1
             have hfs49 := blk_frozen BK170.out 1
             have hns49_0 := NB160_170.out
             have hns49_1 := NB168_170.out
             have hms49_0 := NB170_160.out
             have hms49_1 := NB170_168.out
             have hs50 : w47.cell? ⟨gb170, 2, none⟩ = some (.int .u64 0) := zc BK170 2
             have hfs50 := blk_frozen BK170.out 2
             have hns50_0 := NB160_170.out
             have hns50_1 := NB168_170.out
             have hms50_0 := NB170_160.out
             have hms50_1 := NB170_168.out
             have hs51 : w47.cell? ⟨gb170, 3, none⟩ = some (.int .i64 0) := zc BK170 3
             have hfs51 := blk_frozen BK170.out 3
             have hns51_0 := NB160_170.out
             have hns51_1 := NB168_170.out
             have hms51_0 := NB170_160.out
             have hms51_1 := NB170_168.out
             refine skip_ (w1 := ?_) (by rfl) rfl ?_ ?_
             rotate_left
             · go_simp
               rfl
             refine hK.out _ _ ⟨((cell_far (p := ⟨gb170, _, none⟩) NB168_170.out _).trans (((cell_far (p := ⟨gb170, _, none⟩) NB168_170.out _).trans (((cell_far (p := ⟨gb170, _, none⟩) NB168_170.out _).trans (((cell_far (p := ⟨gb170, _, none⟩) NB168_170.out _).trans (hHeld.1)))))))), ((cell_far (p := ⟨gb170, _, none⟩) NB168_170.out _).trans (((cell_far (p := ⟨gb170, _, none⟩) NB168_170.out _).trans (((cell_far (p := ⟨gb170, _, none⟩) NB168_170.out _).trans (((cell_far (p := ⟨gb170, _, none⟩) NB168_170.out _).trans (hHeld.2.1)))))))), ((cell_far (p := ⟨gb170, _, none⟩) NB168_170.out _).trans (((cell_far (p := ⟨gb170, _, none⟩) NB168_170.out _).trans (((cell_far (p := ⟨gb170, _, none⟩) NB168_170.out _).trans (((cell_far (p := ⟨gb170, _, none⟩) NB168_170.out _).trans (hHeld.2.2))))))))⟩ (fun hHeld => ?_)
             clear hK K
             refine zd0 ?_
             try go_wp2_with (first | ((with_reducible refine gate_callee (f := 45) rfl ?_); refine goesL_ (some 37) rfl rfl Tryd.func45 (by kernel_rfl) rfl #[.string t162] rfl (by (try simp only [List.map_toArray, List.map_cons, List.map_nil]); first | done | rfl | (simp only [List.length_drop, List.length_take]; rfl)) ?_; (with_reducible refine (address_digits.calls k t162 t171 true _ A10.out).mono ?_); rintro e w52 ⟨rfl, hb⟩; refine ⟨_, rfl, ?_⟩; replace BK160 := Aside0.mk (blk_below (g := gb160) (o := .cells #[.bool false, .int .u64 0, .int .u64 0, .int .i64 0] 30 (0, 0)) (by refine zL ?_; refine blk_far ?_ NB160_170.out _; refine zL ?_; refine blk_far ?_ NB160_170.out _; refine zL ?_; refine blk_far ?_ NB160_170.out _; refine zL ?_; refine blk_far ?_ NB160_170.out _; refine zL ?_; exact BK160.out) hb); replace BK168 := Aside0.mk (blk_below (g := gb168) (o := .cells #[.bool t164, .int .u64 t165, .int .u64 t166] 25 (0, 0)) (by refine zL ?_; refine blk_far ?_ NB168_170.out _; refine zL ?_; refine blk_far ?_ NB168_170.out _; refine zL ?_; refine blk_far ?_ NB168_170.out _; refine zL ?_; refine blk_far ?_ NB168_170.out _; refine zL ?_; exact BK168.out) hb); replace BK170 := Aside0.mk (blk_below (g := gb170) (o := .cells #[.bool t164, .int .u64 t165, .int .u64 t166, .int .i64 t169] 30 (0, 0)) (by refine zL ?_; refine blk_put (cs := #[.bool t164, .int .u64 t165, .int .u64 t166, .int .i64 0]) ?_ 3 _ rfl; refine zL ?_; refine blk_put (cs := #[.bool t164, .int .u64 t165, .int .u64 0, .int .i64 0]) ?_ 2 _ rfl; refine zL ?_; refine blk_put (cs := #[.bool t164, .int .u64 0, .int .u64 0, .int .i64 0]) ?_ 1 _ rfl; refine zL ?_; refine blk_put (cs := #[.bool false, .int .u64 0, .int .u64 0, .int .i64 0]) ?_ 0 _ rfl; refine zL ?_; exact BK170.out) hb); replace HB := Aside0.mk (below_step (zB HB) hb); (try clear hb); have hnb53 := NB168_170.out; have hnc53 := NB170_168.out; obtain ⟨hcz54_0, hcz54_1, hcz54_2⟩ := zc3 BK168; obtain ⟨hfz54_0, hfz54_1, hfz54_2⟩ := zf3 BK168) | ((with_reducible refine gate_callee (f := 44) rfl ?_); refine goesL_ (some 47) rfl rfl Tryd.func44 (by kernel_rfl) rfl #[.agg #[.bool t164, .int .u64 t165, .int .u64 t166]] rfl (by (try simp only [List.map_toArray, List.map_cons, List.map_nil]); first | done | rfl | (simp only [List.length_drop, List.length_take]; rfl)) ?_; (with_reducible refine (address_size.calls t164 t165 t166 t173 _ A12.out).mono ?_); rintro e w55 ⟨rfl, hb⟩; refine ⟨_, rfl, ?_⟩; replace BK160 := Aside0.mk (blk_below (g := gb160) (o := .cells #[.bool false, .int .u64 0, .int .u64 0, .int .i64 0] 30 (0, 0)) (zK BK160) hb); replace BK168 := Aside0.mk (blk_below (g := gb168) (o := .cells #[.bool t164, .int .u64 t165, .int .u64 t166] 25 (0, 0)) (zK BK168) hb); replace BK170 := Aside0.mk (blk_below (g := gb170) (o := .cells #[.bool t164, .int .u64 t165, .int .u64 t166, .int .i64 t169] 30 (0, 0)) (zK BK170) hb); replace HB := Aside0.mk (below_step (zB HB) hb); (try clear hb); have hnb56 := NB170_160.out; have hnc56 := NB160_170.out; obtain ⟨hcz57_0, hcz57_1, hcz57_2, hcz57_3⟩ := zc4 BK170; obtain ⟨hfz57_0, hfz57_1, hfz57_2, hfz57_3⟩ := zf4 BK170) | ((with_reducible refine gate_callee (f := 31) rfl ?_); refine goesL_ (some 53) rfl rfl Tryd.func31 (by kernel_rfl) rfl #[.agg #[.bool t164, .int .u64 t165, .int .u64 t166, .int .i64 t171]] rfl (by (try simp only [List.map_toArray, List.map_cons, List.map_nil]); first | done | rfl | (simp only [List.length_drop, List.length_take]; rfl)) ?_; (with_reducible refine (address_ValidPrefix.calls t164 t165 t166 t171 true _ A35.out).mono ?_); rintro e w58 ⟨rfl, hb⟩; refine ⟨_, rfl, ?_⟩; replace BK160 := Aside0.mk (blk_below (g := gb160) (o := .cells #[.bool false, .int .u64 0, .int .u64 0, .int .i64 0] 30 (0, 0)) (by refine zL ?_; refine blk_far ?_ NB160_170.out _; refine zL ?_; exact BK160.out) hb); replace BK168 := Aside0.mk (blk_below (g := gb168) (o := .cells #[.bool t164, .int .u64 t165, .int .u64 t166] 25 (0, 0)) (by refine zL ?_; refine blk_far ?_ NB168_170.out _; refine zL ?_; exact BK168.out) hb); replace BK170 := Aside0.mk (blk_below (g := gb170) (o := .cells #[.bool t164, .int .u64 t165, .int .u64 t166, .int .i64 t171] 30 (0, 0)) (by refine zL ?_; refine blk_put (cs := #[.bool t164, .int .u64 t165, .int .u64 t166, .int .i64 t169]) ?_ 3 _ rfl; refine zL ?_; exact BK170.out) hb); replace HB := Aside0.mk (below_step (zB HB) hb); (try clear hb); obtain ⟨hcz59_0, hcz59_1, hcz59_2, hcz59_3⟩ := zc4 BK170; obtain ⟨hfz59_0, hfz59_1, hfz59_2, hfz59_3⟩ := zf4 BK170; obtain ⟨hcz60_0, hcz60_1, hcz60_2, hcz60_3⟩ := zc4 BK160; obtain ⟨hfz60_0, hfz60_1, hfz60_2, hfz60_3⟩ := zf4 BK160))
             refine bodyPost_ret (results_ct rfl _ _ gb160 30 #[.bool t164, .int .u64 t165, .int .u64 t166, .int .i64 t171] (0, 0) _ rfl (by refine zL ?_; refine blk_put (cs := #[.bool t164, .int .u64 t165, .int .u64 t166, .int .i64 0]) ?_ 3 _ rfl; refine zL ?_; refine blk_put (cs := #[.bool t164, .int .u64 t165, .int .u64 0, .int .i64 0]) ?_ 2 _ rfl; refine zL ?_; refine blk_put (cs := #[.bool t164, .int .u64 0, .int .u64 0, .int .i64 0]) ?_ 1 _ rfl; refine zL ?_; refine blk_put (cs := #[.bool false, .int .u64 0, .int .u64 0, .int .i64 0]) ?_ 0 _ rfl; refine zL ?_; exact BK160.out) Tryd.underlying30 rfl (by kernel_rfl)) rfl ?_
             exact ⟨by first | rfl | (simp [errW_none, errW_some] <;> rfl) | (simp [*, errW_none, errW_some] <;> rfl), by repeat (first | (with_reducible first | exact HB.out | apply below_alloc | apply pw_below_drewN | apply below_drew1 | refine below_set ?_ GE160.out | refine below_set ?_ GE168.out | refine below_set ?_ GE170.out) | exact HB.out)⟩
           · replace c36 := Bool.eq_false_iff.mpr c36
             subst c36
             rw [if_neg zF] at H
             simp only [Option.some.injEq, Prod.mk.injEq] at H
             obtain ⟨rfl, rfl, rfl, rfl, rfl⟩ := H
             go_enter Tryd.func13, Tryd.ntmps13
             try go_wp2_with (first | ((with_reducible refine gate_dst (N := 2) rfl ?_); refine zx 2 #[.bool false, .int .u64 0, .int .u64 0, .int .i64 0] 30 ?_; intro gb160 hg w61 hbox hb; have BK160 := Aside0.mk (hbox); have GW160 := Aside0.mk ((by rw [hg]; exact (below_size (zB HB)) : w.heap.size ≤ gb160)); have GE160 := Aside0.mk ((by rw [hg]; exact (below_size (zB HB)) : w.heap.size ≤ gb160)); replace HB := Aside0.mk (below_step (zB HB) hb); clear hb hbox hg) | ((with_reducible refine gate_callee (f := 43) rfl ?_); refine goesL_ (some 18) rfl rfl Tryd.func43 (by kernel_rfl) rfl #[.string a0, .string (⟨#[47]⟩ : ByteArray)] rfl (by (try simp only [List.map_toArray, List.map_cons, List.map_nil]); first | done | rfl | (simp only [List.length_drop, List.length_take]; rfl)) ?_; (with_reducible refine (strings_Cut.calls a0 (⟨#[47]⟩ : ByteArray) t161 t162 true _ A5.out (WOK.below hW_ (zB HB))).mono ?_); rintro e w62 ⟨rfl, hb⟩; refine ⟨_, rfl, ?_⟩; replace BK160 := Aside0.mk (blk_below (g := gb160) (o := .cells #[.bool false, .int .u64 0, .int .u64 0, .int .i64 0] 30 (0, 0)) (zK BK160) hb); replace HB := Aside0.mk (below_step (zB HB) hb); (try clear hb)) | ((with_reducible refine gate_callee (f := 11) rfl ?_); refine goesL_ (some 24) rfl rfl Tryd.func11 (by kernel_rfl) rfl #[.string t161] rfl (by (try simp only [List.map_toArray, List.map_cons, List.map_nil]); first | done | rfl | (simp only [List.length_drop, List.length_take]; rfl)) ?_; (with_reducible refine (address_Parse.calls k t161 t164 t165 t166 t167 _ A6.out (WOK.below hW_ (zB HB))).mono ?_); rintro e w63 ⟨rfl, hb⟩; refine ⟨_, rfl, ?_⟩; replace BK160 := Aside0.mk (blk_below (g := gb160) (o := .cells #[.bool false, .int .u64 0, .int .u64 0, .int .i64 0] 30 (0, 0)) (zK BK160) hb); replace HB := Aside0.mk (below_step (zB HB) hb); (try clear hb)) | ((with_reducible refine gate_dst (N := 7) rfl ?_); refine zx 7 #[.bool false, .int .u64 0, .int .u64 0] 25 ?_; intro gb168 hg w64 hbox hb; have BK168 := Aside0.mk (hbox); have GW168 := Aside0.mk ((by rw [hg]; exact (below_size (zB HB)) : w.heap.size ≤ gb168)); have GE168 := Aside0.mk ((by rw [hg]; exact (below_size (zB HB)) : w.heap.size ≤ gb168)); replace HB := Aside0.mk (below_step (zB HB) hb); have NB160_168 := Aside0.mk ((by rw [hg]; exact Nat.ne_of_lt (blk_lt (g := gb160) (o := .cells #[.bool false, .int .u64 0, .int .u64 0, .int .i64 0] 30 (0, 0)) (zK BK160)) : gb160 ≠ gb168)); have NB168_160 := Aside0.mk ((by rw [hg]; exact Nat.ne_of_gt (blk_lt (g := gb160) (o := .cells #[.bool false, .int .u64 0, .int .u64 0, .int .i64 0] 30 (0, 0)) (zK BK160)) : gb168 ≠ gb160)); replace BK160 := Aside0.mk (blk_below (g := gb160) (o := .cells #[.bool false, .int .u64 0, .int .u64 0, .int .i64 0] 30 (0, 0)) (zK BK160) hb); clear hb hbox hg; have hnb65 := NB168_160.out; have hnc65 := NB160_168.out; obtain ⟨hcz66_0, hcz66_1, hcz66_2⟩ := zc3 BK168; obtain ⟨hfz66_0, hfz66_1, hfz66_2⟩ := zf3 BK168))
             have n0_ : Aside0 ((((w64.setCell ⟨gb168, 0, none⟩ (.bool t164)).setCell ⟨gb168, 1, none⟩ (.int .u64 t165)).setCell ⟨gb168, 2, none⟩ (.int .u64 t166)).heap[gb160]? = some (.cells #[.bool false, .int .u64 0, .int .u64 0, .int .i64 0] 30 (0, 0))) := ⟨by refine zL ?_; refine blk_far ?_ NB160_168.out _; refine zL ?_; refine blk_far ?_ NB160_168.out _; refine zL ?_; refine blk_far ?_ NB160_168.out _; refine zL ?_; exact BK160.out⟩
             have n1_ : Aside0 ((((w64.setCell ⟨gb168, 0, none⟩ (.bool t164)).setCell ⟨gb168, 1, none⟩ (.int .u64 t165)).setCell ⟨gb168, 2, none⟩ (.int .u64 t166)).heap[gb168]? = some (.cells #[.bool t164, .int .u64 t165, .int .u64 t166] 25 (0, 0))) := ⟨by refine zL ?_; refine blk_put (cs := #[.bool t164, .int .u64 t165, .int .u64 0]) ?_ 2 _ rfl; refine zL ?_; refine blk_put (cs := #[.bool t164, .int .u64 0, .int .u64 0]) ?_ 1 _ rfl; refine zL ?_; refine blk_put (cs := #[.bool false, .int .u64 0, .int .u64 0]) ?_ 0 _ rfl; refine zL ?_; exact BK168.out⟩
             have n2_ : Aside0 (Below w.heap.size w (((w64.setCell ⟨gb168, 0, none⟩ (.bool t164)).setCell ⟨gb168, 1, none⟩ (.int .u64 t165)).setCell ⟨gb168, 2, none⟩ (.int .u64 t166))) := ⟨zB HB⟩
             (try clear BK160)
             (try clear BK168)
             (try clear HB)
             generalize (((w64.setCell ⟨gb168, 0, none⟩ (.bool t164)).setCell ⟨gb168, 1, none⟩ (.int .u64 t165)).setCell ⟨gb168, 2, none⟩ (.int .u64 t166)) = w67 at n0_ n1_ n2_ ⊢
             have BK160 := n0_
             have BK168 := n1_
             have HB := n2_
             clear n0_ n1_ n2_
             replace BK160 := Aside0.mk (blk_drew BK160.out)
             replace BK168 := Aside0.mk (blk_drew BK168.out)
             replace HB := Aside0.mk (below_drew1 HB.out)
             refine start_ (n := 6) (S := fun w' => w'.cell? ⟨gb168, 0, none⟩ = some (.bool t164) ∧ w'.cell? ⟨gb168, 1, none⟩ = some (.int .u64 t165) ∧ w'.cell? ⟨gb168, 2, none⟩ = some (.int .u64 t166)) (ds := []) #[false, false, false, false, false, false] (by kernel_rfl) rfl rfl ⟨zc BK168 0, zc BK168 1, zc BK168 2⟩ (fun hHeld => ?_)
             generalize w67.drew = w68 at BK160 BK168 HB hHeld ⊢
             refine zt0 0 30 hHeld ?_; refine zt0 1 31 hHeld ?_
             refine join_ (σ := Nat) 1 #[true, true, true, true, true, false] (fun s_ => [(32, .int .i64 t169), (9, .pointer (some ⟨s_, 0, none⟩)), (33, .agg #[.bool t164, .int .u64 t165, .int .u64 t166, .int .i64 t169])]) (fun s_ w' => (w'.cell? ⟨gb168, 0, none⟩ = some (.bool t164) ∧ w'.cell? ⟨gb168, 1, none⟩ = some (.int .u64 t165) ∧ w'.cell? ⟨gb168, 2, none⟩ = some (.int .u64 t166)) ∧ (w'.heap[gb160]? = some (.cells #[.bool false, .int .u64 0, .int .u64 0, .int .i64 0] 30 (0, 0))) ∧ (w'.heap[gb168]? = some (.cells #[.bool t164, .int .u64 t165, .int .u64 t166] 25 (0, 0))) ∧ (w'.heap[s_]? = some (.cells #[.bool false, .int .u64 0, .int .u64 0, .int .i64 0] 30 (0, 0))) ∧ (w.heap.size ≤ s_) ∧ (w.heap.size ≤ s_) ∧ (gb160 ≠ s_) ∧ (s_ ≠ gb160) ∧ (gb168 ≠ s_) ∧ (s_ ≠ gb168) ∧ (Below w.heap.size w w')) ?_ ?_
             rotate_left
             · intro hCont
               refine two_ (i := 2) (j := 4) (Ni := some 32) (Nj := some 9) #[true, true, true, false, false, false] #[true, true, false, false, true, false] rfl rfl rfl rfl (by kernel_rfl) (by decide) (by decide) (fun K hK => ?_) (fun K hK => ?_)
               · skip
                 refine zg Tryd.func44 #[.agg #[.bool t164, .int .u64 t165, .int .u64 t166]] ?_
                 with_reducible refine (address_size.calls t164 t165 t166 t169 _ A8.out).mono ?_
                 rintro e w69 ⟨rfl, hb⟩
                 refine ⟨_, rfl, ?_⟩
                 replace BK160 := Aside0.mk (blk_below (g := gb160) (o := .cells #[.bool false, .int .u64 0, .int .u64 0, .int .i64 0] 30 (0, 0)) (zK BK160) hb)
                 replace BK168 := Aside0.mk (blk_below (g := gb168) (o := .cells #[.bool t164, .int .u64 t165, .int .u64 t166] 25 (0, 0)) (zK BK168) hb)
                 replace HB := Aside0.mk (below_step (zB HB) hb)
                 (try clear hb)
                 refine hK.out _ _ ⟨zc BK168 0, zc BK168 1, zc BK168 2⟩ (fun hHeld => ?_)
                 clear hK K
                 refine zn 32 ?_; refine zp0 3 33 ?_; refine zo0 4 9 (fun K hK => ?_)
                 refine box_step ?hg (N := 9) ?hd (cs := #[.bool false, .int .u64 0, .int .u64 0, .int .i64 0]) (t := 30) ?hr ?_; (case hd => rfl); (case hg => rfl); (case hr => first | (go_simp; done) | (go_simp; rfl))
                 intro gb170 hg w70 hbox hb
                 have BK170 := Aside0.mk (hbox)
                 have GW170 := Aside0.mk ((by rw [hg]; exact (below_size (zB HB)) : w.heap.size ≤ gb170))
                 have GE170 := Aside0.mk ((by rw [hg]; exact (below_size (zB HB)) : w.heap.size ≤ gb170))
                 replace HB := Aside0.mk (below_step (zB HB) hb)
                 have NB160_170 := Aside0.mk ((by rw [hg]; exact Nat.ne_of_lt (blk_lt (g := gb160) (o := .cells #[.bool false, .int .u64 0, .int .u64 0, .int .i64 0] 30 (0, 0)) (zK BK160)) : gb160 ≠ gb170))
                 have NB170_160 := Aside0.mk ((by rw [hg]; exact Nat.ne_of_gt (blk_lt (g := gb160) (o := .cells #[.bool false, .int .u64 0, .int .u64 0, .int .i64 0] 30 (0, 0)) (zK BK160)) : gb170 ≠ gb160))
                 replace BK160 := Aside0.mk (blk_below (g := gb160) (o := .cells #[.bool false, .int .u64 0, .int .u64 0, .int .i64 0] 30 (0, 0)) (zK BK160) hb)
                 have NB168_170 := Aside0.mk ((by rw [hg]; exact Nat.ne_of_lt (blk_lt (g := gb168) (o := .cells #[.bool t164, .int .u64 t165, .int .u64 t166] 25 (0, 0)) (zK BK168)) : gb168 ≠ gb170))
                 have NB170_168 := Aside0.mk ((by rw [hg]; exact Nat.ne_of_gt (blk_lt (g := gb168) (o := .cells #[.bool t164, .int .u64 t165, .int .u64 t166] 25 (0, 0)) (zK BK168)) : gb170 ≠ gb168))
                 replace BK168 := Aside0.mk (blk_below (g := gb168) (o := .cells #[.bool t164, .int .u64 t165, .int .u64 t166] 25 (0, 0)) (zK BK168) hb)
                 clear hb hbox hg
                 refine hK.out _ _ ⟨zc BK168 0, zc BK168 1, zc BK168 2⟩ (fun hHeld => ?_)
                 clear hK K
                 refine zn 9 ?_
                 exact norm_ (by simp only [putAll, Act.put, List.setIfInBounds_toArray, List.set_cons_zero, List.set_cons_succ]) (hCont (gb170) _ ⟨hHeld, (zK BK160), (zK BK168), (zK BK170), GW170.out, GE170.out, NB160_170.out, NB170_160.out, NB168_170.out, NB170_168.out, (zB HB)⟩)
               · skip
                 refine box_step ?hg (N := 9) ?hd (cs := #[.bool false, .int .u64 0, .int .u64 0, .int .i64 0]) (t := 30) ?hr ?_; (case hd => rfl); (case hg => rfl); (case hr => first | (go_simp; done) | (go_simp; rfl))
                 intro gb170 hg w69 hbox hb
                 have BK170 := Aside0.mk (hbox)
                 have GW170 := Aside0.mk ((by rw [hg]; exact (below_size (zB HB)) : w.heap.size ≤ gb170))
                 have GE170 := Aside0.mk ((by rw [hg]; exact (below_size (zB HB)) : w.heap.size ≤ gb170))
                 replace HB := Aside0.mk (below_step (zB HB) hb)
                 have NB160_170 := Aside0.mk ((by rw [hg]; exact Nat.ne_of_lt (blk_lt (g := gb160) (o := .cells #[.bool false, .int .u64 0, .int .u64 0, .int .i64 0] 30 (0, 0)) (zK BK160)) : gb160 ≠ gb170))
                 have NB170_160 := Aside0.mk ((by rw [hg]; exact Nat.ne_of_gt (blk_lt (g := gb160) (o := .cells #[.bool false, .int .u64 0, .int .u64 0, .int .i64 0] 30 (0, 0)) (zK BK160)) : gb170 ≠ gb160))
                 replace BK160 := Aside0.mk (blk_below (g := gb160) (o := .cells #[.bool false, .int .u64 0, .int .u64 0, .int .i64 0] 30 (0, 0)) (zK BK160) hb)
                 have NB168_170 := Aside0.mk ((by rw [hg]; exact Nat.ne_of_lt (blk_lt (g := gb168) (o := .cells #[.bool t164, .int .u64 t165, .int .u64 t166] 25 (0, 0)) (zK BK168)) : gb168 ≠ gb170))
                 have NB170_168 := Aside0.mk ((by rw [hg]; exact Nat.ne_of_gt (blk_lt (g := gb168) (o := .cells #[.bool t164, .int .u64 t165, .int .u64 t166] 25 (0, 0)) (zK BK168)) : gb170 ≠ gb168))
                 replace BK168 := Aside0.mk (blk_below (g := gb168) (o := .cells #[.bool t164, .int .u64 t165, .int .u64 t166] 25 (0, 0)) (zK BK168) hb)
                 clear hb hbox hg
                 refine hK.out _ _ ⟨zc BK168 0, zc BK168 1, zc BK168 2⟩ (fun hHeld => ?_)
                 clear hK K
                 refine zn 9 ?_; refine zo0 2 32 (fun K hK => ?_)
                 refine zg Tryd.func44 #[.agg #[.bool t164, .int .u64 t165, .int .u64 t166]] ?_
                 with_reducible refine (address_size.calls t164 t165 t166 t169 _ A8.out).mono ?_
                 rintro e w70 ⟨rfl, hb⟩
                 refine ⟨_, rfl, ?_⟩
                 replace BK160 := Aside0.mk (blk_below (g := gb160) (o := .cells #[.bool false, .int .u64 0, .int .u64 0, .int .i64 0] 30 (0, 0)) (zK BK160) hb)
                 replace BK168 := Aside0.mk (blk_below (g := gb168) (o := .cells #[.bool t164, .int .u64 t165, .int .u64 t166] 25 (0, 0)) (zK BK168) hb)
                 replace BK170 := Aside0.mk (blk_below (g := gb170) (o := .cells #[.bool false, .int .u64 0, .int .u64 0, .int .i64 0] 30 (0, 0)) (zK BK170) hb)
                 replace HB := Aside0.mk (below_step (zB HB) hb)
                 (try clear hb)
                 refine hK.out _ _ ⟨zc BK168 0, zc BK168 1, zc BK168 2⟩ (fun hHeld => ?_)
                 clear hK K
                 refine zn 32 ?_; refine zp0 3 33 ?_
                 exact norm_ (by simp only [putAll, Act.put, List.setIfInBounds_toArray, List.set_cons_zero, List.set_cons_succ]) (hCont (gb170) _ ⟨hHeld, (zK BK160), (zK BK168), (zK BK170), GW170.out, GE170.out, NB160_170.out, NB170_160.out, NB168_170.out, NB170_168.out, (zB HB)⟩)
             rintro gb170 w71 ⟨hS_, h0_, h1_, h2_, h3_, h4_, h5_, h6_, h7_, h8_, h9_⟩
             have n0_ : Aside0 (w71.heap[gb160]? = some (.cells #[.bool false, .int .u64 0, .int .u64 0, .int .i64 0] 30 (0, 0))) := ⟨h0_⟩
             have n1_ : Aside0 (w71.heap[gb168]? = some (.cells #[.bool t164, .int .u64 t165, .int .u64 t166] 25 (0, 0))) := ⟨h1_⟩
             have n2_ : Aside0 (w71.heap[gb170]? = some (.cells #[.bool false, .int .u64 0, .int .u64 0, .int .i64 0] 30 (0, 0))) := ⟨h2_⟩
             have n3_ : Aside0 (w.heap.size ≤ gb170) := ⟨h3_⟩
             have n4_ : Aside0 (w.heap.size ≤ gb170) := ⟨h4_⟩
             have n5_ : Aside0 (gb160 ≠ gb170) := ⟨h5_⟩
             have n6_ : Aside0 (gb170 ≠ gb160) := ⟨h6_⟩
             have n7_ : Aside0 (gb168 ≠ gb170) := ⟨h7_⟩
             have n8_ : Aside0 (gb170 ≠ gb168) := ⟨h8_⟩
             have n9_ : Aside0 (Below w.heap.size w w71) := ⟨h9_⟩
             clear BK160
             clear BK168
             clear HB
             clear h0_ h1_ h2_ h3_ h4_ h5_ h6_ h7_ h8_ h9_
             have BK160 := n0_
             have BK168 := n1_
             have BK170 := n2_
             have GW170 := n3_
             have GE170 := n4_
             have NB160_170 := n5_
             have NB170_160 := n6_
             have NB168_170 := n7_
             have NB170_168 := n8_
             have HB := n9_
             clear n0_ n1_ n2_ n3_ n4_ n5_ n6_ n7_ n8_ n9_
             have hHeld : w71.cell? ⟨gb168, 0, none⟩ = some (.bool t164) ∧ w71.cell? ⟨gb168, 1, none⟩ = some (.int .u64 t165) ∧ w71.cell? ⟨gb168, 2, none⟩ = some (.int .u64 t166) := hS_
             refine norm_ (a' := ?_) ?_ ?_
             rotate_left
             · simp only [putAll, Act.put, List.setIfInBounds_toArray, List.set_cons_zero, List.set_cons_succ]
               rfl
             refine one_ (i := 5) (N := none) #[true, true, true, true, true, true] rfl rfl (by kernel_rfl) (by decide) (fun K hK => ?_)
             have hs72 : w71.cell? ⟨gb170, 0, none⟩ = some (.bool false) := zc BK170 0
             have hfs72 := blk_frozen BK170.out 0
             have hns72_0 := NB160_170.out
             have hns72_1 := NB168_170.out
             have hms72_0 := NB170_160.out
             have hms72_1 := NB170_168.out
             have hs73 : w71.cell? ⟨gb170, 1, none⟩ = some (.int .u64 0) := zc BK170 1
             have hfs73 := blk_frozen BK170.out 1
             have hns73_0 := NB160_170.out
             have hns73_1 := NB168_170.out
             have hms73_0 := NB170_160.out
             have hms73_1 := NB170_168.out
             have hs74 : w71.cell? ⟨gb170, 2, none⟩ = some (.int .u64 0) := zc BK170 2
             have hfs74 := blk_frozen BK170.out 2
             have hns74_0 := NB160_170.out
             have hns74_1 := NB168_170.out
             have hms74_0 := NB170_160.out
             have hms74_1 := NB170_168.out
             have hs75 : w71.cell? ⟨gb170, 3, none⟩ = some (.int .i64 0) := zc BK170 3
             have hfs75 := blk_frozen BK170.out 3
             have hns75_0 := NB160_170.out
             have hns75_1 := NB168_170.out
             have hms75_0 := NB170_160.out
             have hms75_1 := NB170_168.out
             refine skip_ (w1 := ?_) (by rfl) rfl ?_ ?_
             rotate_left
             · go_simp
               rfl
             refine hK.out _ _ ⟨((cell_far (p := ⟨gb170, _, none⟩) NB168_170.out _).trans (((cell_far (p := ⟨gb170, _, none⟩) NB168_170.out _).trans (((cell_far (p := ⟨gb170, _, none⟩) NB168_170.out _).trans (((cell_far (p := ⟨gb170, _, none⟩) NB168_170.out _).trans (hHeld.1)))))))), ((cell_far (p := ⟨gb170, _, none⟩) NB168_170.out _).trans (((cell_far (p := ⟨gb170, _, none⟩) NB168_170.out _).trans (((cell_far (p := ⟨gb170, _, none⟩) NB168_170.out _).trans (((cell_far (p := ⟨gb170, _, none⟩) NB168_170.out _).trans (hHeld.2.1)))))))), ((cell_far (p := ⟨gb170, _, none⟩) NB168_170.out _).trans (((cell_far (p := ⟨gb170, _, none⟩) NB168_170.out _).trans (((cell_far (p := ⟨gb170, _, none⟩) NB168_170.out _).trans (((cell_far (p := ⟨gb170, _, none⟩) NB168_170.out _).trans (hHeld.2.2))))))))⟩ (fun hHeld => ?_)
             clear hK K
             refine zd0 ?_
             try go_wp2_with (first | ((with_reducible refine gate_callee (f := 45) rfl ?_); refine goesL_ (some 37) rfl rfl Tryd.func45 (by kernel_rfl) rfl #[.string t162] rfl (by (try simp only [List.map_toArray, List.map_cons, List.map_nil]); first | done | rfl | (simp only [List.length_drop, List.length_take]; rfl)) ?_; (with_reducible refine (address_digits.calls k t162 t171 true _ A10.out).mono ?_); rintro e w76 ⟨rfl, hb⟩; refine ⟨_, rfl, ?_⟩; replace BK160 := Aside0.mk (blk_below (g := gb160) (o := .cells #[.bool false, .int .u64 0, .int .u64 0, .int .i64 0] 30 (0, 0)) (by refine zL ?_; refine blk_far ?_ NB160_170.out _; refine zL ?_; refine blk_far ?_ NB160_170.out _; refine zL ?_; refine blk_far ?_ NB160_170.out _; refine zL ?_; refine blk_far ?_ NB160_170.out _; refine zL ?_; exact BK160.out) hb); replace BK168 := Aside0.mk (blk_below (g := gb168) (o := .cells #[.bool t164, .int .u64 t165, .int .u64 t166] 25 (0, 0)) (by refine zL ?_; refine blk_far ?_ NB168_170.out _; refine zL ?_; refine blk_far ?_ NB168_170.out _; refine zL ?_; refine blk_far ?_ NB168_170.out _; refine zL ?_; refine blk_far ?_ NB168_170.out _; refine zL ?_; exact BK168.out) hb); replace BK170 := Aside0.mk (blk_below (g := gb170) (o := .cells #[.bool t164, .int .u64 t165, .int .u64 t166, .int .i64 t169] 30 (0, 0)) (by refine zL ?_; refine blk_put (cs := #[.bool t164, .int .u64 t165, .int .u64 t166, .int .i64 0]) ?_ 3 _ rfl; refine zL ?_; refine blk_put (cs := #[.bool t164, .int .u64 t165, .int .u64 0, .int .i64 0]) ?_ 2 _ rfl; refine zL ?_; refine blk_put (cs := #[.bool t164, .int .u64 0, .int .u64 0, .int .i64 0]) ?_ 1 _ rfl; refine zL ?_; refine blk_put (cs := #[.bool false, .int .u64 0, .int .u64 0, .int .i64 0]) ?_ 0 _ rfl; refine zL ?_; exact BK170.out) hb); replace HB := Aside0.mk (below_step (zB HB) hb); (try clear hb); have hnb77 := NB168_170.out; have hnc77 := NB170_168.out; obtain ⟨hcz78_0, hcz78_1, hcz78_2⟩ := zc3 BK168; obtain ⟨hfz78_0, hfz78_1, hfz78_2⟩ := zf3 BK168) | ((with_reducible refine gate_callee (f := 44) rfl ?_); refine goesL_ (some 47) rfl rfl Tryd.func44 (by kernel_rfl) rfl #[.agg #[.bool t164, .int .u64 t165, .int .u64 t166]] rfl (by (try simp only [List.map_toArray, List.map_cons, List.map_nil]); first | done | rfl | (simp only [List.length_drop, List.length_take]; rfl)) ?_; (with_reducible refine (address_size.calls t164 t165 t166 t173 _ A12.out).mono ?_); rintro e w79 ⟨rfl, hb⟩; refine ⟨_, rfl, ?_⟩; replace BK160 := Aside0.mk (blk_below (g := gb160) (o := .cells #[.bool false, .int .u64 0, .int .u64 0, .int .i64 0] 30 (0, 0)) (zK BK160) hb); replace BK168 := Aside0.mk (blk_below (g := gb168) (o := .cells #[.bool t164, .int .u64 t165, .int .u64 t166] 25 (0, 0)) (zK BK168) hb); replace BK170 := Aside0.mk (blk_below (g := gb170) (o := .cells #[.bool t164, .int .u64 t165, .int .u64 t166, .int .i64 t169] 30 (0, 0)) (zK BK170) hb); replace HB := Aside0.mk (below_step (zB HB) hb); (try clear hb); have hnb80 := NB170_160.out; have hnc80 := NB160_170.out; obtain ⟨hcz81_0, hcz81_1, hcz81_2, hcz81_3⟩ := zc4 BK170; obtain ⟨hfz81_0, hfz81_1, hfz81_2, hfz81_3⟩ := zf4 BK170) | ((with_reducible refine gate_callee (f := 31) rfl ?_); refine goesL_ (some 53) rfl rfl Tryd.func31 (by kernel_rfl) rfl #[.agg #[.bool t164, .int .u64 t165, .int .u64 t166, .int .i64 t171]] rfl (by (try simp only [List.map_toArray, List.map_cons, List.map_nil]); first | done | rfl | (simp only [List.length_drop, List.length_take]; rfl)) ?_; (with_reducible refine (address_ValidPrefix.calls t164 t165 t166 t171 false _ A35.out).mono ?_); rintro e w82 ⟨rfl, hb⟩; refine ⟨_, rfl, ?_⟩; replace BK160 := Aside0.mk (blk_below (g := gb160) (o := .cells #[.bool false, .int .u64 0, .int .u64 0, .int .i64 0] 30 (0, 0)) (by refine zL ?_; refine blk_far ?_ NB160_170.out _; refine zL ?_; exact BK160.out) hb); replace BK168 := Aside0.mk (blk_below (g := gb168) (o := .cells #[.bool t164, .int .u64 t165, .int .u64 t166] 25 (0, 0)) (by refine zL ?_; refine blk_far ?_ NB168_170.out _; refine zL ?_; exact BK168.out) hb); replace BK170 := Aside0.mk (blk_below (g := gb170) (o := .cells #[.bool t164, .int .u64 t165, .int .u64 t166, .int .i64 t171] 30 (0, 0)) (by refine zL ?_; refine blk_put (cs := #[.bool t164, .int .u64 t165, .int .u64 t166, .int .i64 t169]) ?_ 3 _ rfl; refine zL ?_; exact BK170.out) hb); replace HB := Aside0.mk (below_step (zB HB) hb); (try clear hb); obtain ⟨hcz83_0, hcz83_1, hcz83_2, hcz83_3⟩ := zc4 BK160; obtain ⟨hfz83_0, hfz83_1, hfz83_2, hfz83_3⟩ := zf4 BK160))
             refine bodyPost_ret (results_ct rfl _ _ gb160 30 #[.bool false, .int .u64 0, .int .u64 0, .int .i64 0] (0, 0) _ rfl (by refine zL ?_; refine blk_put (cs := #[.bool false, .int .u64 0, .int .u64 0, .int .i64 0]) ?_ 3 _ rfl; refine zL ?_; refine blk_put (cs := #[.bool false, .int .u64 0, .int .u64 0, .int .i64 0]) ?_ 2 _ rfl; refine zL ?_; refine blk_put (cs := #[.bool false, .int .u64 0, .int .u64 0, .int .i64 0]) ?_ 1 _ rfl; refine zL ?_; refine blk_put (cs := #[.bool false, .int .u64 0, .int .u64 0, .int .i64 0]) ?_ 0 _ rfl; refine zL ?_; exact BK160.out) Tryd.underlying30 rfl (by kernel_rfl)) rfl ?_
             exact ⟨by first | rfl | (simp [errW_none, errW_some] <;> rfl) | (simp [*, errW_none, errW_some] <;> rfl), by repeat (first | (with_reducible first | exact HB.out | apply below_alloc | apply pw_below_drewN | apply below_drew1 | refine below_set ?_ GE160.out | refine below_set ?_ GE168.out | refine below_set ?_ GE170.out) | exact HB.out)⟩
       · replace c11 := Bool.eq_false_iff.mpr c11
         subst c11
         rw [if_neg zF] at H
         simp only [Option.some.injEq, Prod.mk.injEq] at H
         obtain ⟨rfl, rfl, rfl, rfl, rfl⟩ := H
         go_enter Tryd.func13, Tryd.ntmps13
         try go_wp2_with (first | ((with_reducible refine gate_dst (N := 2) rfl ?_); refine zx 2 #[.bool false, .int .u64 0, .int .u64 0, .int .i64 0] 30 ?_; intro gb160 hg w84 hbox hb; have BK160 := Aside0.mk (hbox); have GW160 := Aside0.mk ((by rw [hg]; exact (below_size (zB HB)) : w.heap.size ≤ gb160)); have GE160 := Aside0.mk ((by rw [hg]; exact (below_size (zB HB)) : w.heap.size ≤ gb160)); replace HB := Aside0.mk (below_step (zB HB) hb); clear hb hbox hg) | ((with_reducible refine gate_callee (f := 43) rfl ?_); refine goesL_ (some 18) rfl rfl Tryd.func43 (by kernel_rfl) rfl #[.string a0, .string (⟨#[47]⟩ : ByteArray)] rfl (by (try simp only [List.map_toArray, List.map_cons, List.map_nil]); first | done | rfl | (simp only [List.length_drop, List.length_take]; rfl)) ?_; (with_reducible refine (strings_Cut.calls a0 (⟨#[47]⟩ : ByteArray) t161 t162 true _ A5.out (WOK.below hW_ (zB HB))).mono ?_); rintro e w85 ⟨rfl, hb⟩; refine ⟨_, rfl, ?_⟩; replace BK160 := Aside0.mk (blk_below (g := gb160) (o := .cells #[.bool false, .int .u64 0, .int .u64 0, .int .i64 0] 30 (0, 0)) (zK BK160) hb); replace HB := Aside0.mk (below_step (zB HB) hb); (try clear hb)) | ((with_reducible refine gate_callee (f := 11) rfl ?_); refine goesL_ (some 24) rfl rfl Tryd.func11 (by kernel_rfl) rfl #[.string t161] rfl (by (try simp only [List.map_toArray, List.map_cons, List.map_nil]); first | done | rfl | (simp only [List.length_drop, List.length_take]; rfl)) ?_; (with_reducible refine (address_Parse.calls k t161 t164 t165 t166 t167 _ A6.out (WOK.below hW_ (zB HB))).mono ?_); rintro e w86 ⟨rfl, hb⟩; refine ⟨_, rfl, ?_⟩; replace BK160 := Aside0.mk (blk_below (g := gb160) (o := .cells #[.bool false, .int .u64 0, .int .u64 0, .int .i64 0] 30 (0, 0)) (zK BK160) hb); replace HB := Aside0.mk (below_step (zB HB) hb); (try clear hb)) | ((with_reducible refine gate_dst (N := 7) rfl ?_); refine zx 7 #[.bool false, .int .u64 0, .int .u64 0] 25 ?_; intro gb168 hg w87 hbox hb; have BK168 := Aside0.mk (hbox); have GW168 := Aside0.mk ((by rw [hg]; exact (below_size (zB HB)) : w.heap.size ≤ gb168)); have GE168 := Aside0.mk ((by rw [hg]; exact (below_size (zB HB)) : w.heap.size ≤ gb168)); replace HB := Aside0.mk (below_step (zB HB) hb); have NB160_168 := Aside0.mk ((by rw [hg]; exact Nat.ne_of_lt (blk_lt (g := gb160) (o := .cells #[.bool false, .int .u64 0, .int .u64 0, .int .i64 0] 30 (0, 0)) (zK BK160)) : gb160 ≠ gb168)); have NB168_160 := Aside0.mk ((by rw [hg]; exact Nat.ne_of_gt (blk_lt (g := gb160) (o := .cells #[.bool false, .int .u64 0, .int .u64 0, .int .i64 0] 30 (0, 0)) (zK BK160)) : gb168 ≠ gb160)); replace BK160 := Aside0.mk (blk_below (g := gb160) (o := .cells #[.bool false, .int .u64 0, .int .u64 0, .int .i64 0] 30 (0, 0)) (zK BK160) hb); clear hb hbox hg; have hnb88 := NB168_160.out; have hnc88 := NB160_168.out; obtain ⟨hcz89_0, hcz89_1, hcz89_2⟩ := zc3 BK168; obtain ⟨hfz89_0, hfz89_1, hfz89_2⟩ := zf3 BK168))
         have n0_ : Aside0 ((((w87.setCell ⟨gb168, 0, none⟩ (.bool t164)).setCell ⟨gb168, 1, none⟩ (.int .u64 t165)).setCell ⟨gb168, 2, none⟩ (.int .u64 t166)).heap[gb160]? = some (.cells #[.bool false, .int .u64 0, .int .u64 0, .int .i64 0] 30 (0, 0))) := ⟨by refine zL ?_; refine blk_far ?_ NB160_168.out _; refine zL ?_; refine blk_far ?_ NB160_168.out _; refine zL ?_; refine blk_far ?_ NB160_168.out _; refine zL ?_; exact BK160.out⟩
         have n1_ : Aside0 ((((w87.setCell ⟨gb168, 0, none⟩ (.bool t164)).setCell ⟨gb168, 1, none⟩ (.int .u64 t165)).setCell ⟨gb168, 2, none⟩ (.int .u64 t166)).heap[gb168]? = some (.cells #[.bool t164, .int .u64 t165, .int .u64 t166] 25 (0, 0))) := ⟨by refine zL ?_; refine blk_put (cs := #[.bool t164, .int .u64 t165, .int .u64 0]) ?_ 2 _ rfl; refine zL ?_; refine blk_put (cs := #[.bool t164, .int .u64 0, .int .u64 0]) ?_ 1 _ rfl; refine zL ?_; refine blk_put (cs := #[.bool false, .int .u64 0, .int .u64 0]) ?_ 0 _ rfl; refine zL ?_; exact BK168.out⟩
         have n2_ : Aside0 (Below w.heap.size w (((w87.setCell ⟨gb168, 0, none⟩ (.bool t164)).setCell ⟨gb168, 1, none⟩ (.int .u64 t165)).setCell ⟨gb168, 2, none⟩ (.int .u64 t166))) := ⟨zB HB⟩
         (try clear BK160)
         (try clear BK168)
         (try clear HB)
         generalize (((w87.setCell ⟨gb168, 0, none⟩ (.bool t164)).setCell ⟨gb168, 1, none⟩ (.int .u64 t165)).setCell ⟨gb168, 2, none⟩ (.int .u64 t166)) = w90 at n0_ n1_ n2_ ⊢
         have BK160 := n0_
         have BK168 := n1_
         have HB := n2_
         clear n0_ n1_ n2_
         replace BK160 := Aside0.mk (blk_drew BK160.out)
         replace BK168 := Aside0.mk (blk_drew BK168.out)
         replace HB := Aside0.mk (below_drew1 HB.out)
         refine start_ (n := 6) (S := fun w' => w'.cell? ⟨gb168, 0, none⟩ = some (.bool t164) ∧ w'.cell? ⟨gb168, 1, none⟩ = some (.int .u64 t165) ∧ w'.cell? ⟨gb168, 2, none⟩ = some (.int .u64 t166)) (ds := []) #[false, false, false, false, false, false] (by kernel_rfl) rfl rfl ⟨zc BK168 0, zc BK168 1, zc BK168 2⟩ (fun hHeld => ?_)
         generalize w90.drew = w91 at BK160 BK168 HB hHeld ⊢
         refine zt0 0 30 hHeld ?_; refine zt0 1 31 hHeld ?_
         refine join_ (σ := Nat) 1 #[true, true, true, true, true, false] (fun s_ => [(32, .int .i64 t169), (9, .pointer (some ⟨s_, 0, none⟩)), (33, .agg #[.bool t164, .int .u64 t165, .int .u64 t166, .int .i64 t169])]) (fun s_ w' => (w'.cell? ⟨gb168, 0, none⟩ = some (.bool t164) ∧ w'.cell? ⟨gb168, 1, none⟩ = some (.int .u64 t165) ∧ w'.cell? ⟨gb168, 2, none⟩ = some (.int .u64 t166)) ∧ (w'.heap[gb160]? = some (.cells #[.bool false, .int .u64 0, .int .u64 0, .int .i64 0] 30 (0, 0))) ∧ (w'.heap[gb168]? = some (.cells #[.bool t164, .int .u64 t165, .int .u64 t166] 25 (0, 0))) ∧ (w'.heap[s_]? = some (.cells #[.bool false, .int .u64 0, .int .u64 0, .int .i64 0] 30 (0, 0))) ∧ (w.heap.size ≤ s_) ∧ (w.heap.size ≤ s_) ∧ (gb160 ≠ s_) ∧ (s_ ≠ gb160) ∧ (gb168 ≠ s_) ∧ (s_ ≠ gb168) ∧ (Below w.heap.size w w')) ?_ ?_
         rotate_left
         · intro hCont
           refine two_ (i := 2) (j := 4) (Ni := some 32) (Nj := some 9) #[true, true, true, false, false, false] #[true, true, false, false, true, false] rfl rfl rfl rfl (by kernel_rfl) (by decide) (by decide) (fun K hK => ?_) (fun K hK => ?_)
           · skip
             refine zg Tryd.func44 #[.agg #[.bool t164, .int .u64 t165, .int .u64 t166]] ?_
             with_reducible refine (address_size.calls t164 t165 t166 t169 _ A8.out).mono ?_
             rintro e w92 ⟨rfl, hb⟩
             refine ⟨_, rfl, ?_⟩
             replace BK160 := Aside0.mk (blk_below (g := gb160) (o := .cells #[.bool false, .int .u64 0, .int .u64 0, .int .i64 0] 30 (0, 0)) (zK BK160) hb)
             replace BK168 := Aside0.mk (blk_below (g := gb168) (o := .cells #[.bool t164, .int .u64 t165, .int .u64 t166] 25 (0, 0)) (zK BK168) hb)
             replace HB := Aside0.mk (below_step (zB HB) hb)
             (try clear hb)
             refine hK.out _ _ ⟨zc BK168 0, zc BK168 1, zc BK168 2⟩ (fun hHeld => ?_)
             clear hK K
             refine zn 32 ?_; refine zp0 3 33 ?_; refine zo0 4 9 (fun K hK => ?_)
             refine box_step ?hg (N := 9) ?hd (cs := #[.bool false, .int .u64 0, .int .u64 0, .int .i64 0]) (t := 30) ?hr ?_; (case hd => rfl); (case hg => rfl); (case hr => first | (go_simp; done) | (go_simp; rfl))
             intro gb170 hg w93 hbox hb
             have BK170 := Aside0.mk (hbox)
             have GW170 := Aside0.mk ((by rw [hg]; exact (below_size (zB HB)) : w.heap.size ≤ gb170))
             have GE170 := Aside0.mk ((by rw [hg]; exact (below_size (zB HB)) : w.heap.size ≤ gb170))
             replace HB := Aside0.mk (below_step (zB HB) hb)
             have NB160_170 := Aside0.mk ((by rw [hg]; exact Nat.ne_of_lt (blk_lt (g := gb160) (o := .cells #[.bool false, .int .u64 0, .int .u64 0, .int .i64 0] 30 (0, 0)) (zK BK160)) : gb160 ≠ gb170))
             have NB170_160 := Aside0.mk ((by rw [hg]; exact Nat.ne_of_gt (blk_lt (g := gb160) (o := .cells #[.bool false, .int .u64 0, .int .u64 0, .int .i64 0] 30 (0, 0)) (zK BK160)) : gb170 ≠ gb160))
             replace BK160 := Aside0.mk (blk_below (g := gb160) (o := .cells #[.bool false, .int .u64 0, .int .u64 0, .int .i64 0] 30 (0, 0)) (zK BK160) hb)
             have NB168_170 := Aside0.mk ((by rw [hg]; exact Nat.ne_of_lt (blk_lt (g := gb168) (o := .cells #[.bool t164, .int .u64 t165, .int .u64 t166] 25 (0, 0)) (zK BK168)) : gb168 ≠ gb170))
             have NB170_168 := Aside0.mk ((by rw [hg]; exact Nat.ne_of_gt (blk_lt (g := gb168) (o := .cells #[.bool t164, .int .u64 t165, .int .u64 t166] 25 (0, 0)) (zK BK168)) : gb170 ≠ gb168))
             replace BK168 := Aside0.mk (blk_below (g := gb168) (o := .cells #[.bool t164, .int .u64 t165, .int .u64 t166] 25 (0, 0)) (zK BK168) hb)
             clear hb hbox hg
             refine hK.out _ _ ⟨zc BK168 0, zc BK168 1, zc BK168 2⟩ (fun hHeld => ?_)
             clear hK K
             refine zn 9 ?_
             exact norm_ (by simp only [putAll, Act.put, List.setIfInBounds_toArray, List.set_cons_zero, List.set_cons_succ]) (hCont (gb170) _ ⟨hHeld, (zK BK160), (zK BK168), (zK BK170), GW170.out, GE170.out, NB160_170.out, NB170_160.out, NB168_170.out, NB170_168.out, (zB HB)⟩)
           · skip
             refine box_step ?hg (N := 9) ?hd (cs := #[.bool false, .int .u64 0, .int .u64 0, .int .i64 0]) (t := 30) ?hr ?_; (case hd => rfl); (case hg => rfl); (case hr => first | (go_simp; done) | (go_simp; rfl))
             intro gb170 hg w92 hbox hb
             have BK170 := Aside0.mk (hbox)
             have GW170 := Aside0.mk ((by rw [hg]; exact (below_size (zB HB)) : w.heap.size ≤ gb170))
             have GE170 := Aside0.mk ((by rw [hg]; exact (below_size (zB HB)) : w.heap.size ≤ gb170))
             replace HB := Aside0.mk (below_step (zB HB) hb)
             have NB160_170 := Aside0.mk ((by rw [hg]; exact Nat.ne_of_lt (blk_lt (g := gb160) (o := .cells #[.bool false, .int .u64 0, .int .u64 0, .int .i64 0] 30 (0, 0)) (zK BK160)) : gb160 ≠ gb170))
             have NB170_160 := Aside0.mk ((by rw [hg]; exact Nat.ne_of_gt (blk_lt (g := gb160) (o := .cells #[.bool false, .int .u64 0, .int .u64 0, .int .i64 0] 30 (0, 0)) (zK BK160)) : gb170 ≠ gb160))
             replace BK160 := Aside0.mk (blk_below (g := gb160) (o := .cells #[.bool false, .int .u64 0, .int .u64 0, .int .i64 0] 30 (0, 0)) (zK BK160) hb)
             have NB168_170 := Aside0.mk ((by rw [hg]; exact Nat.ne_of_lt (blk_lt (g := gb168) (o := .cells #[.bool t164, .int .u64 t165, .int .u64 t166] 25 (0, 0)) (zK BK168)) : gb168 ≠ gb170))
             have NB170_168 := Aside0.mk ((by rw [hg]; exact Nat.ne_of_gt (blk_lt (g := gb168) (o := .cells #[.bool t164, .int .u64 t165, .int .u64 t166] 25 (0, 0)) (zK BK168)) : gb170 ≠ gb168))
             replace BK168 := Aside0.mk (blk_below (g := gb168) (o := .cells #[.bool t164, .int .u64 t165, .int .u64 t166] 25 (0, 0)) (zK BK168) hb)
             clear hb hbox hg
             refine hK.out _ _ ⟨zc BK168 0, zc BK168 1, zc BK168 2⟩ (fun hHeld => ?_)
             clear hK K
             refine zn 9 ?_; refine zo0 2 32 (fun K hK => ?_)
             refine zg Tryd.func44 #[.agg #[.bool t164, .int .u64 t165, .int .u64 t166]] ?_
             with_reducible refine (address_size.calls t164 t165 t166 t169 _ A8.out).mono ?_
             rintro e w93 ⟨rfl, hb⟩
             refine ⟨_, rfl, ?_⟩
             replace BK160 := Aside0.mk (blk_below (g := gb160) (o := .cells #[.bool false, .int .u64 0, .int .u64 0, .int .i64 0] 30 (0, 0)) (zK BK160) hb)
             replace BK168 := Aside0.mk (blk_below (g := gb168) (o := .cells #[.bool t164, .int .u64 t165, .int .u64 t166] 25 (0, 0)) (zK BK168) hb)
             replace BK170 := Aside0.mk (blk_below (g := gb170) (o := .cells #[.bool false, .int .u64 0, .int .u64 0, .int .i64 0] 30 (0, 0)) (zK BK170) hb)
             replace HB := Aside0.mk (below_step (zB HB) hb)
             (try clear hb)
             refine hK.out _ _ ⟨zc BK168 0, zc BK168 1, zc BK168 2⟩ (fun hHeld => ?_)
             clear hK K
             refine zn 32 ?_; refine zp0 3 33 ?_
             exact norm_ (by simp only [putAll, Act.put, List.setIfInBounds_toArray, List.set_cons_zero, List.set_cons_succ]) (hCont (gb170) _ ⟨hHeld, (zK BK160), (zK BK168), (zK BK170), GW170.out, GE170.out, NB160_170.out, NB170_160.out, NB168_170.out, NB170_168.out, (zB HB)⟩)
         rintro gb170 w94 ⟨hS_, h0_, h1_, h2_, h3_, h4_, h5_, h6_, h7_, h8_, h9_⟩
         have n0_ : Aside0 (w94.heap[gb160]? = some (.cells #[.bool false, .int .u64 0, .int .u64 0, .int .i64 0] 30 (0, 0))) := ⟨h0_⟩
         have n1_ : Aside0 (w94.heap[gb168]? = some (.cells #[.bool t164, .int .u64 t165, .int .u64 t166] 25 (0, 0))) := ⟨h1_⟩
         have n2_ : Aside0 (w94.heap[gb170]? = some (.cells #[.bool false, .int .u64 0, .int .u64 0, .int .i64 0] 30 (0, 0))) := ⟨h2_⟩
         have n3_ : Aside0 (w.heap.size ≤ gb170) := ⟨h3_⟩
         have n4_ : Aside0 (w.heap.size ≤ gb170) := ⟨h4_⟩
         have n5_ : Aside0 (gb160 ≠ gb170) := ⟨h5_⟩
         have n6_ : Aside0 (gb170 ≠ gb160) := ⟨h6_⟩
         have n7_ : Aside0 (gb168 ≠ gb170) := ⟨h7_⟩
         have n8_ : Aside0 (gb170 ≠ gb168) := ⟨h8_⟩
         have n9_ : Aside0 (Below w.heap.size w w94) := ⟨h9_⟩
         clear BK160
         clear BK168
         clear HB
         clear h0_ h1_ h2_ h3_ h4_ h5_ h6_ h7_ h8_ h9_
         have BK160 := n0_
         have BK168 := n1_
         have BK170 := n2_
         have GW170 := n3_
         have GE170 := n4_
         have NB160_170 := n5_
         have NB170_160 := n6_
         have NB168_170 := n7_
         have NB170_168 := n8_
         have HB := n9_
         clear n0_ n1_ n2_ n3_ n4_ n5_ n6_ n7_ n8_ n9_
         have hHeld : w94.cell? ⟨gb168, 0, none⟩ = some (.bool t164) ∧ w94.cell? ⟨gb168, 1, none⟩ = some (.int .u64 t165) ∧ w94.cell? ⟨gb168, 2, none⟩ = some (.int .u64 t166) := hS_
         refine norm_ (a' := ?_) ?_ ?_
         rotate_left
         · simp only [putAll, Act.put, List.setIfInBounds_toArray, List.set_cons_zero, List.set_cons_succ]
           rfl
         refine one_ (i := 5) (N := none) #[true, true, true, true, true, true] rfl rfl (by kernel_rfl) (by decide) (fun K hK => ?_)
         have hs95 : w94.cell? ⟨gb170, 0, none⟩ = some (.bool false) := zc BK170 0
         have hfs95 := blk_frozen BK170.out 0
         have hns95_0 := NB160_170.out
         have hns95_1 := NB168_170.out
         have hms95_0 := NB170_160.out
         have hms95_1 := NB170_168.out
         have hs96 : w94.cell? ⟨gb170, 1, none⟩ = some (.int .u64 0) := zc BK170 1
         have hfs96 := blk_frozen BK170.out 1
         have hns96_0 := NB160_170.out
         have hns96_1 := NB168_170.out
         have hms96_0 := NB170_160.out
         have hms96_1 := NB170_168.out
         have hs97 : w94.cell? ⟨gb170, 2, none⟩ = some (.int .u64 0) := zc BK170 2
         have hfs97 := blk_frozen BK170.out 2
         have hns97_0 := NB160_170.out
         have hns97_1 := NB168_170.out
         have hms97_0 := NB170_160.out
         have hms97_1 := NB170_168.out
         have hs98 : w94.cell? ⟨gb170, 3, none⟩ = some (.int .i64 0) := zc BK170 3
         have hfs98 := blk_frozen BK170.out 3
         have hns98_0 := NB160_170.out
         have hns98_1 := NB168_170.out
         have hms98_0 := NB170_160.out
         have hms98_1 := NB170_168.out
         refine skip_ (w1 := ?_) (by rfl) rfl ?_ ?_
         rotate_left
         · go_simp
           rfl
         refine hK.out _ _ ⟨((cell_far (p := ⟨gb170, _, none⟩) NB168_170.out _).trans (((cell_far (p := ⟨gb170, _, none⟩) NB168_170.out _).trans (((cell_far (p := ⟨gb170, _, none⟩) NB168_170.out _).trans (((cell_far (p := ⟨gb170, _, none⟩) NB168_170.out _).trans (hHeld.1)))))))), ((cell_far (p := ⟨gb170, _, none⟩) NB168_170.out _).trans (((cell_far (p := ⟨gb170, _, none⟩) NB168_170.out _).trans (((cell_far (p := ⟨gb170, _, none⟩) NB168_170.out _).trans (((cell_far (p := ⟨gb170, _, none⟩) NB168_170.out _).trans (hHeld.2.1)))))))), ((cell_far (p := ⟨gb170, _, none⟩) NB168_170.out _).trans (((cell_far (p := ⟨gb170, _, none⟩) NB168_170.out _).trans (((cell_far (p := ⟨gb170, _, none⟩) NB168_170.out _).trans (((cell_far (p := ⟨gb170, _, none⟩) NB168_170.out _).trans (hHeld.2.2))))))))⟩ (fun hHeld => ?_)
         clear hK K
         refine zd0 ?_
         try go_wp2_with (first | ((with_reducible refine gate_callee (f := 45) rfl ?_); refine goesL_ (some 37) rfl rfl Tryd.func45 (by kernel_rfl) rfl #[.string t162] rfl (by (try simp only [List.map_toArray, List.map_cons, List.map_nil]); first | done | rfl | (simp only [List.length_drop, List.length_take]; rfl)) ?_; (with_reducible refine (address_digits.calls k t162 t171 false _ A10.out).mono ?_); rintro e w99 ⟨rfl, hb⟩; refine ⟨_, rfl, ?_⟩; replace BK160 := Aside0.mk (blk_below (g := gb160) (o := .cells #[.bool false, .int .u64 0, .int .u64 0, .int .i64 0] 30 (0, 0)) (by refine zL ?_; refine blk_far ?_ NB160_170.out _; refine zL ?_; refine blk_far ?_ NB160_170.out _; refine zL ?_; refine blk_far ?_ NB160_170.out _; refine zL ?_; refine blk_far ?_ NB160_170.out _; refine zL ?_; exact BK160.out) hb); replace BK168 := Aside0.mk (blk_below (g := gb168) (o := .cells #[.bool t164, .int .u64 t165, .int .u64 t166] 25 (0, 0)) (by refine zL ?_; refine blk_far ?_ NB168_170.out _; refine zL ?_; refine blk_far ?_ NB168_170.out _; refine zL ?_; refine blk_far ?_ NB168_170.out _; refine zL ?_; refine blk_far ?_ NB168_170.out _; refine zL ?_; exact BK168.out) hb); replace BK170 := Aside0.mk (blk_below (g := gb170) (o := .cells #[.bool t164, .int .u64 t165, .int .u64 t166, .int .i64 t169] 30 (0, 0)) (by refine zL ?_; refine blk_put (cs := #[.bool t164, .int .u64 t165, .int .u64 t166, .int .i64 0]) ?_ 3 _ rfl; refine zL ?_; refine blk_put (cs := #[.bool t164, .int .u64 t165, .int .u64 0, .int .i64 0]) ?_ 2 _ rfl; refine zL ?_; refine blk_put (cs := #[.bool t164, .int .u64 0, .int .u64 0, .int .i64 0]) ?_ 1 _ rfl; refine zL ?_; refine blk_put (cs := #[.bool false, .int .u64 0, .int .u64 0, .int .i64 0]) ?_ 0 _ rfl; refine zL ?_; exact BK170.out) hb); replace HB := Aside0.mk (below_step (zB HB) hb); (try clear hb); have hnb100 := NB160_170.out; have hnc100 := NB170_160.out; obtain ⟨hcz101_0, hcz101_1, hcz101_2, hcz101_3⟩ := zc4 BK160; obtain ⟨hfz101_0, hfz101_1, hfz101_2, hfz101_3⟩ := zf4 BK160))
         refine bodyPost_ret (results_ct rfl _ _ gb160 30 #[.bool false, .int .u64 0, .int .u64 0, .int .i64 0] (0, 0) _ rfl (by refine zL ?_; refine blk_put (cs := #[.bool false, .int .u64 0, .int .u64 0, .int .i64 0]) ?_ 3 _ rfl; refine zL ?_; refine blk_put (cs := #[.bool false, .int .u64 0, .int .u64 0, .int .i64 0]) ?_ 2 _ rfl; refine zL ?_; refine blk_put (cs := #[.bool false, .int .u64 0, .int .u64 0, .int .i64 0]) ?_ 1 _ rfl; refine zL ?_; refine blk_put (cs := #[.bool false, .int .u64 0, .int .u64 0, .int .i64 0]) ?_ 0 _ rfl; refine zL ?_; exact BK160.out) Tryd.underlying30 rfl (by kernel_rfl)) rfl ?_
         exact ⟨by first | rfl | (simp [errW_none, errW_some] <;> rfl) | (simp [*, errW_none, errW_some] <;> rfl), by repeat (first | (with_reducible first | exact HB.out | apply below_alloc | apply pw_below_drewN | apply below_drew1 | refine below_set ?_ GE160.out | refine below_set ?_ GE168.out | refine below_set ?_ GE170.out) | exact HB.out)⟩
     · replace c9 := Bool.eq_false_iff.mpr c9
       subst c9
       rw [if_neg zF] at H
       replace H := Option.bind_eq_some_iff.mp H
       obtain ⟨t175, A1020, H⟩ := H
       replace H : (if t175 = true then (some (t164, t165, t166, t169, 0)) else (some (false, 0, 0, 0, 2))) = some (r1, r2, r3, r4, r5) := H
       have A102 := Aside0.mk A1020
       clear A1020
       by_cases c103 : t175 = true
       · subst c103
         rw [if_pos rfl] at H
         simp only [Option.some.injEq, Prod.mk.injEq] at H
         obtain ⟨rfl, rfl, rfl, rfl, rfl⟩ := H
         go_enter Tryd.func13, Tryd.ntmps13
         try go_wp2_with (first | ((with_reducible refine gate_dst (N := 2) rfl ?_); refine zx 2 #[.bool false, .int .u64 0, .int .u64 0, .int .i64 0] 30 ?_; intro gb160 hg w104 hbox hb; have BK160 := Aside0.mk (hbox); have GW160 := Aside0.mk ((by rw [hg]; exact (below_size (zB HB)) : w.heap.size ≤ gb160)); have GE160 := Aside0.mk ((by rw [hg]; exact (below_size (zB HB)) : w.heap.size ≤ gb160)); replace HB := Aside0.mk (below_step (zB HB) hb); clear hb hbox hg) | ((with_reducible refine gate_callee (f := 43) rfl ?_); refine goesL_ (some 18) rfl rfl Tryd.func43 (by kernel_rfl) rfl #[.string a0, .string (⟨#[47]⟩ : ByteArray)] rfl (by (try simp only [List.map_toArray, List.map_cons, List.map_nil]); first | done | rfl | (simp only [List.length_drop, List.length_take]; rfl)) ?_; (with_reducible refine (strings_Cut.calls a0 (⟨#[47]⟩ : ByteArray) t161 t162 false _ A5.out (WOK.below hW_ (zB HB))).mono ?_); rintro e w105 ⟨rfl, hb⟩; refine ⟨_, rfl, ?_⟩; replace BK160 := Aside0.mk (blk_below (g := gb160) (o := .cells #[.bool false, .int .u64 0, .int .u64 0, .int .i64 0] 30 (0, 0)) (zK BK160) hb); replace HB := Aside0.mk (below_step (zB HB) hb); (try clear hb)) | ((with_reducible refine gate_callee (f := 11) rfl ?_); refine goesL_ (some 24) rfl rfl Tryd.func11 (by kernel_rfl) rfl #[.string t161] rfl (by (try simp only [List.map_toArray, List.map_cons, List.map_nil]); first | done | rfl | (simp only [List.length_drop, List.length_take]; rfl)) ?_; (with_reducible refine (address_Parse.calls k t161 t164 t165 t166 t167 _ A6.out (WOK.below hW_ (zB HB))).mono ?_); rintro e w106 ⟨rfl, hb⟩; refine ⟨_, rfl, ?_⟩; replace BK160 := Aside0.mk (blk_below (g := gb160) (o := .cells #[.bool false, .int .u64 0, .int .u64 0, .int .i64 0] 30 (0, 0)) (zK BK160) hb); replace HB := Aside0.mk (below_step (zB HB) hb); (try clear hb)) | ((with_reducible refine gate_dst (N := 7) rfl ?_); refine zx 7 #[.bool false, .int .u64 0, .int .u64 0] 25 ?_; intro gb168 hg w107 hbox hb; have BK168 := Aside0.mk (hbox); have GW168 := Aside0.mk ((by rw [hg]; exact (below_size (zB HB)) : w.heap.size ≤ gb168)); have GE168 := Aside0.mk ((by rw [hg]; exact (below_size (zB HB)) : w.heap.size ≤ gb168)); replace HB := Aside0.mk (below_step (zB HB) hb); have NB160_168 := Aside0.mk ((by rw [hg]; exact Nat.ne_of_lt (blk_lt (g := gb160) (o := .cells #[.bool false, .int .u64 0, .int .u64 0, .int .i64 0] 30 (0, 0)) (zK BK160)) : gb160 ≠ gb168)); have NB168_160 := Aside0.mk ((by rw [hg]; exact Nat.ne_of_gt (blk_lt (g := gb160) (o := .cells #[.bool false, .int .u64 0, .int .u64 0, .int .i64 0] 30 (0, 0)) (zK BK160)) : gb168 ≠ gb160)); replace BK160 := Aside0.mk (blk_below (g := gb160) (o := .cells #[.bool false, .int .u64 0, .int .u64 0, .int .i64 0] 30 (0, 0)) (zK BK160) hb); clear hb hbox hg; have hnb108 := NB168_160.out; have hnc108 := NB160_168.out; obtain ⟨hcz109_0, hcz109_1, hcz109_2⟩ := zc3 BK168; obtain ⟨hfz109_0, hfz109_1, hfz109_2⟩ := zf3 BK168))
         have n0_ : Aside0 ((((w107.setCell ⟨gb168, 0, none⟩ (.bool t164)).setCell ⟨gb168, 1, none⟩ (.int .u64 t165)).setCell ⟨gb168, 2, none⟩ (.int .u64 t166)).heap[gb160]? = some (.cells #[.bool false, .int .u64 0, .int .u64 0, .int .i64 0] 30 (0, 0))) := ⟨by refine zL ?_; refine blk_far ?_ NB160_168.out _; refine zL ?_; refine blk_far ?_ NB160_168.out _; refine zL ?_; refine blk_far ?_ NB160_168.out _; refine zL ?_; exact BK160.out⟩
         have n1_ : Aside0 ((((w107.setCell ⟨gb168, 0, none⟩ (.bool t164)).setCell ⟨gb168, 1, none⟩ (.int .u64 t165)).setCell ⟨gb168, 2, none⟩ (.int .u64 t166)).heap[gb168]? = some (.cells #[.bool t164, .int .u64 t165, .int .u64 t166] 25 (0, 0))) := ⟨by refine zL ?_; refine blk_put (cs := #[.bool t164, .int .u64 t165, .int .u64 0]) ?_ 2 _ rfl; refine zL ?_; refine blk_put (cs := #[.bool t164, .int .u64 0, .int .u64 0]) ?_ 1 _ rfl; refine zL ?_; refine blk_put (cs := #[.bool false, .int .u64 0, .int .u64 0]) ?_ 0 _ rfl; refine zL ?_; exact BK168.out⟩
         have n2_ : Aside0 (Below w.heap.size w (((w107.setCell ⟨gb168, 0, none⟩ (.bool t164)).setCell ⟨gb168, 1, none⟩ (.int .u64 t165)).setCell ⟨gb168, 2, none⟩ (.int .u64 t166))) := ⟨zB HB⟩
         (try clear BK160)
         (try clear BK168)
         (try clear HB)
         generalize (((w107.setCell ⟨gb168, 0, none⟩ (.bool t164)).setCell ⟨gb168, 1, none⟩ (.int .u64 t165)).setCell ⟨gb168, 2, none⟩ (.int .u64 t166)) = w110 at n0_ n1_ n2_ ⊢
         have BK160 := n0_
         have BK168 := n1_
         have HB := n2_
         clear n0_ n1_ n2_
         replace BK160 := Aside0.mk (blk_drew BK160.out)
         replace BK168 := Aside0.mk (blk_drew BK168.out)
         replace HB := Aside0.mk (below_drew1 HB.out)
         refine start_ (n := 6) (S := fun w' => w'.cell? ⟨gb168, 0, none⟩ = some (.bool t164) ∧ w'.cell? ⟨gb168, 1, none⟩ = some (.int .u64 t165) ∧ w'.cell? ⟨gb168, 2, none⟩ = some (.int .u64 t166)) (ds := []) #[false, false, false, false, false, false] (by kernel_rfl) rfl rfl ⟨zc BK168 0, zc BK168 1, zc BK168 2⟩ (fun hHeld => ?_)
         generalize w110.drew = w111 at BK160 BK168 HB hHeld ⊢
         refine zt0 0 30 hHeld ?_; refine zt0 1 31 hHeld ?_
         refine join_ (σ := Nat) 1 #[true, true, true, true, true, false] (fun s_ => [(32, .int .i64 t169), (9, .pointer (some ⟨s_, 0, none⟩)), (33, .agg #[.bool t164, .int .u64 t165, .int .u64 t166, .int .i64 t169])]) (fun s_ w' => (w'.cell? ⟨gb168, 0, none⟩ = some (.bool t164) ∧ w'.cell? ⟨gb168, 1, none⟩ = some (.int .u64 t165) ∧ w'.cell? ⟨gb168, 2, none⟩ = some (.int .u64 t166)) ∧ (w'.heap[gb160]? = some (.cells #[.bool false, .int .u64 0, .int .u64 0, .int .i64 0] 30 (0, 0))) ∧ (w'.heap[gb168]? = some (.cells #[.bool t164, .int .u64 t165, .int .u64 t166] 25 (0, 0))) ∧ (w'.heap[s_]? = some (.cells #[.bool false, .int .u64 0, .int .u64 0, .int .i64 0] 30 (0, 0))) ∧ (w.heap.size ≤ s_) ∧ (w.heap.size ≤ s_) ∧ (gb160 ≠ s_) ∧ (s_ ≠ gb160) ∧ (gb168 ≠ s_) ∧ (s_ ≠ gb168) ∧ (Below w.heap.size w w')) ?_ ?_
         rotate_left
         · intro hCont
           refine two_ (i := 2) (j := 4) (Ni := some 32) (Nj := some 9) #[true, true, true, false, false, false] #[true, true, false, false, true, false] rfl rfl rfl rfl (by kernel_rfl) (by decide) (by decide) (fun K hK => ?_) (fun K hK => ?_)
           · skip
             refine zg Tryd.func44 #[.agg #[.bool t164, .int .u64 t165, .int .u64 t166]] ?_
             with_reducible refine (address_size.calls t164 t165 t166 t169 _ A8.out).mono ?_
             rintro e w112 ⟨rfl, hb⟩
             refine ⟨_, rfl, ?_⟩
             replace BK160 := Aside0.mk (blk_below (g := gb160) (o := .cells #[.bool false, .int .u64 0, .int .u64 0, .int .i64 0] 30 (0, 0)) (zK BK160) hb)
             replace BK168 := Aside0.mk (blk_below (g := gb168) (o := .cells #[.bool t164, .int .u64 t165, .int .u64 t166] 25 (0, 0)) (zK BK168) hb)
             replace HB := Aside0.mk (below_step (zB HB) hb)
             (try clear hb)
             refine hK.out _ _ ⟨zc BK168 0, zc BK168 1, zc BK168 2⟩ (fun hHeld => ?_)
             clear hK K
             refine zn 32 ?_; refine zp0 3 33 ?_; refine zo0 4 9 (fun K hK => ?_)
             refine box_step ?hg (N := 9) ?hd (cs := #[.bool false, .int .u64 0, .int .u64 0, .int .i64 0]) (t := 30) ?hr ?_; (case hd => rfl); (case hg => rfl); (case hr => first | (go_simp; done) | (go_simp; rfl))
             intro gb170 hg w113 hbox hb
             have BK170 := Aside0.mk (hbox)
             have GW170 := Aside0.mk ((by rw [hg]; exact (below_size (zB HB)) : w.heap.size ≤ gb170))
             have GE170 := Aside0.mk ((by rw [hg]; exact (below_size (zB HB)) : w.heap.size ≤ gb170))
             replace HB := Aside0.mk (below_step (zB HB) hb)
             have NB160_170 := Aside0.mk ((by rw [hg]; exact Nat.ne_of_lt (blk_lt (g := gb160) (o := .cells #[.bool false, .int .u64 0, .int .u64 0, .int .i64 0] 30 (0, 0)) (zK BK160)) : gb160 ≠ gb170))
             have NB170_160 := Aside0.mk ((by rw [hg]; exact Nat.ne_of_gt (blk_lt (g := gb160) (o := .cells #[.bool false, .int .u64 0, .int .u64 0, .int .i64 0] 30 (0, 0)) (zK BK160)) : gb170 ≠ gb160))
             replace BK160 := Aside0.mk (blk_below (g := gb160) (o := .cells #[.bool false, .int .u64 0, .int .u64 0, .int .i64 0] 30 (0, 0)) (zK BK160) hb)
             have NB168_170 := Aside0.mk ((by rw [hg]; exact Nat.ne_of_lt (blk_lt (g := gb168) (o := .cells #[.bool t164, .int .u64 t165, .int .u64 t166] 25 (0, 0)) (zK BK168)) : gb168 ≠ gb170))
             have NB170_168 := Aside0.mk ((by rw [hg]; exact Nat.ne_of_gt (blk_lt (g := gb168) (o := .cells #[.bool t164, .int .u64 t165, .int .u64 t166] 25 (0, 0)) (zK BK168)) : gb170 ≠ gb168))
             replace BK168 := Aside0.mk (blk_below (g := gb168) (o := .cells #[.bool t164, .int .u64 t165, .int .u64 t166] 25 (0, 0)) (zK BK168) hb)
             clear hb hbox hg
             refine hK.out _ _ ⟨zc BK168 0, zc BK168 1, zc BK168 2⟩ (fun hHeld => ?_)
             clear hK K
             refine zn 9 ?_
             exact norm_ (by simp only [putAll, Act.put, List.setIfInBounds_toArray, List.set_cons_zero, List.set_cons_succ]) (hCont (gb170) _ ⟨hHeld, (zK BK160), (zK BK168), (zK BK170), GW170.out, GE170.out, NB160_170.out, NB170_160.out, NB168_170.out, NB170_168.out, (zB HB)⟩)
           · skip
             refine box_step ?hg (N := 9) ?hd (cs := #[.bool false, .int .u64 0, .int .u64 0, .int .i64 0]) (t := 30) ?hr ?_; (case hd => rfl); (case hg => rfl); (case hr => first | (go_simp; done) | (go_simp; rfl))
             intro gb170 hg w112 hbox hb
             have BK170 := Aside0.mk (hbox)
             have GW170 := Aside0.mk ((by rw [hg]; exact (below_size (zB HB)) : w.heap.size ≤ gb170))
             have GE170 := Aside0.mk ((by rw [hg]; exact (below_size (zB HB)) : w.heap.size ≤ gb170))
             replace HB := Aside0.mk (below_step (zB HB) hb)
             have NB160_170 := Aside0.mk ((by rw [hg]; exact Nat.ne_of_lt (blk_lt (g := gb160) (o := .cells #[.bool false, .int .u64 0, .int .u64 0, .int .i64 0] 30 (0, 0)) (zK BK160)) : gb160 ≠ gb170))
             have NB170_160 := Aside0.mk ((by rw [hg]; exact Nat.ne_of_gt (blk_lt (g := gb160) (o := .cells #[.bool false, .int .u64 0, .int .u64 0, .int .i64 0] 30 (0, 0)) (zK BK160)) : gb170 ≠ gb160))
             replace BK160 := Aside0.mk (blk_below (g := gb160) (o := .cells #[.bool false, .int .u64 0, .int .u64 0, .int .i64 0] 30 (0, 0)) (zK BK160) hb)
             have NB168_170 := Aside0.mk ((by rw [hg]; exact Nat.ne_of_lt (blk_lt (g := gb168) (o := .cells #[.bool t164, .int .u64 t165, .int .u64 t166] 25 (0, 0)) (zK BK168)) : gb168 ≠ gb170))
             have NB170_168 := Aside0.mk ((by rw [hg]; exact Nat.ne_of_gt (blk_lt (g := gb168) (o := .cells #[.bool t164, .int .u64 t165, .int .u64 t166] 25 (0, 0)) (zK BK168)) : gb170 ≠ gb168))
             replace BK168 := Aside0.mk (blk_below (g := gb168) (o := .cells #[.bool t164, .int .u64 t165, .int .u64 t166] 25 (0, 0)) (zK BK168) hb)
             clear hb hbox hg
             refine hK.out _ _ ⟨zc BK168 0, zc BK168 1, zc BK168 2⟩ (fun hHeld => ?_)
             clear hK K
             refine zn 9 ?_; refine zo0 2 32 (fun K hK => ?_)
             refine zg Tryd.func44 #[.agg #[.bool t164, .int .u64 t165, .int .u64 t166]] ?_
             with_reducible refine (address_size.calls t164 t165 t166 t169 _ A8.out).mono ?_
             rintro e w113 ⟨rfl, hb⟩
             refine ⟨_, rfl, ?_⟩
             replace BK160 := Aside0.mk (blk_below (g := gb160) (o := .cells #[.bool false, .int .u64 0, .int .u64 0, .int .i64 0] 30 (0, 0)) (zK BK160) hb)
             replace BK168 := Aside0.mk (blk_below (g := gb168) (o := .cells #[.bool t164, .int .u64 t165, .int .u64 t166] 25 (0, 0)) (zK BK168) hb)
             replace BK170 := Aside0.mk (blk_below (g := gb170) (o := .cells #[.bool false, .int .u64 0, .int .u64 0, .int .i64 0] 30 (0, 0)) (zK BK170) hb)
             replace HB := Aside0.mk (below_step (zB HB) hb)
             (try clear hb)
             refine hK.out _ _ ⟨zc BK168 0, zc BK168 1, zc BK168 2⟩ (fun hHeld => ?_)
             clear hK K
             refine zn 32 ?_; refine zp0 3 33 ?_
             exact norm_ (by simp only [putAll, Act.put, List.setIfInBounds_toArray, List.set_cons_zero, List.set_cons_succ]) (hCont (gb170) _ ⟨hHeld, (zK BK160), (zK BK168), (zK BK170), GW170.out, GE170.out, NB160_170.out, NB170_160.out, NB168_170.out, NB170_168.out, (zB HB)⟩)
         rintro gb170 w114 ⟨hS_, h0_, h1_, h2_, h3_, h4_, h5_, h6_, h7_, h8_, h9_⟩
         have n0_ : Aside0 (w114.heap[gb160]? = some (.cells #[.bool false, .int .u64 0, .int .u64 0, .int .i64 0] 30 (0, 0))) := ⟨h0_⟩
         have n1_ : Aside0 (w114.heap[gb168]? = some (.cells #[.bool t164, .int .u64 t165, .int .u64 t166] 25 (0, 0))) := ⟨h1_⟩
         have n2_ : Aside0 (w114.heap[gb170]? = some (.cells #[.bool false, .int .u64 0, .int .u64 0, .int .i64 0] 30 (0, 0))) := ⟨h2_⟩
         have n3_ : Aside0 (w.heap.size ≤ gb170) := ⟨h3_⟩
         have n4_ : Aside0 (w.heap.size ≤ gb170) := ⟨h4_⟩
         have n5_ : Aside0 (gb160 ≠ gb170) := ⟨h5_⟩
         have n6_ : Aside0 (gb170 ≠ gb160) := ⟨h6_⟩
         have n7_ : Aside0 (gb168 ≠ gb170) := ⟨h7_⟩
         have n8_ : Aside0 (gb170 ≠ gb168) := ⟨h8_⟩
         have n9_ : Aside0 (Below w.heap.size w w114) := ⟨h9_⟩
         clear BK160
         clear BK168
         clear HB
         clear h0_ h1_ h2_ h3_ h4_ h5_ h6_ h7_ h8_ h9_
         have BK160 := n0_
         have BK168 := n1_
         have BK170 := n2_
         have GW170 := n3_
         have GE170 := n4_
         have NB160_170 := n5_
         have NB170_160 := n6_
         have NB168_170 := n7_
         have NB170_168 := n8_
         have HB := n9_
         clear n0_ n1_ n2_ n3_ n4_ n5_ n6_ n7_ n8_ n9_
         have hHeld : w114.cell? ⟨gb168, 0, none⟩ = some (.bool t164) ∧ w114.cell? ⟨gb168, 1, none⟩ = some (.int .u64 t165) ∧ w114.cell? ⟨gb168, 2, none⟩ = some (.int .u64 t166) := hS_
         refine norm_ (a' := ?_) ?_ ?_
         rotate_left
         · simp only [putAll, Act.put, List.setIfInBounds_toArray, List.set_cons_zero, List.set_cons_succ]
           rfl
         refine one_ (i := 5) (N := none) #[true, true, true, true, true, true] rfl rfl (by kernel_rfl) (by decide) (fun K hK => ?_)
         have hs115 : w114.cell? ⟨gb170, 0, none⟩ = some (.bool false) := zc BK170 0
         have hfs115 := blk_frozen BK170.out 0
         have hns115_0 := NB160_170.out
         have hns115_1 := NB168_170.out
         have hms115_0 := NB170_160.out
         have hms115_1 := NB170_168.out
         have hs116 : w114.cell? ⟨gb170, 1, none⟩ = some (.int .u64 0) := zc BK170 1
         have hfs116 := blk_frozen BK170.out 1
         have hns116_0 := NB160_170.out
         have hns116_1 := NB168_170.out
         have hms116_0 := NB170_160.out
         have hms116_1 := NB170_168.out
         have hs117 : w114.cell? ⟨gb170, 2, none⟩ = some (.int .u64 0) := zc BK170 2
         have hfs117 := blk_frozen BK170.out 2
         have hns117_0 := NB160_170.out
         have hns117_1 := NB168_170.out
         have hms117_0 := NB170_160.out
         have hms117_1 := NB170_168.out
         have hs118 : w114.cell? ⟨gb170, 3, none⟩ = some (.int .i64 0) := zc BK170 3
         have hfs118 := blk_frozen BK170.out 3
         have hns118_0 := NB160_170.out
         have hns118_1 := NB168_170.out
         have hms118_0 := NB170_160.out
         have hms118_1 := NB170_168.out
         refine skip_ (w1 := ?_) (by rfl) rfl ?_ ?_
         rotate_left
         · go_simp
           rfl
         refine hK.out _ _ ⟨((cell_far (p := ⟨gb170, _, none⟩) NB168_170.out _).trans (((cell_far (p := ⟨gb170, _, none⟩) NB168_170.out _).trans (((cell_far (p := ⟨gb170, _, none⟩) NB168_170.out _).trans (((cell_far (p := ⟨gb170, _, none⟩) NB168_170.out _).trans (hHeld.1)))))))), ((cell_far (p := ⟨gb170, _, none⟩) NB168_170.out _).trans (((cell_far (p := ⟨gb170, _, none⟩) NB168_170.out _).trans (((cell_far (p := ⟨gb170, _, none⟩) NB168_170.out _).trans (((cell_far (p := ⟨gb170, _, none⟩) NB168_170.out _).trans (hHeld.2.1)))))))), ((cell_far (p := ⟨gb170, _, none⟩) NB168_170.out _).trans (((cell_far (p := ⟨gb170, _, none⟩) NB168_170.out _).trans (((cell_far (p := ⟨gb170, _, none⟩) NB168_170.out _).trans (((cell_far (p := ⟨gb170, _, none⟩) NB168_170.out _).trans (hHeld.2.2))))))))⟩ (fun hHeld => ?_)
         clear hK K
         refine zd0 ?_
         have hnb119 := NB170_160.out
         have hnc119 := NB160_170.out
         have hnb120 := NB170_168.out
         have hnc120 := NB168_170.out
         obtain ⟨hcz121_0, hcz121_1, hcz121_2, hcz121_3⟩ := zc4 BK170
         obtain ⟨hfz121_0, hfz121_1, hfz121_2, hfz121_3⟩ := zf4 BK170
         try go_wp2_with (first | ((with_reducible refine gate_callee (f := 31) rfl ?_); refine goesL_ (some 53) rfl rfl Tryd.func31 (by kernel_rfl) rfl #[.agg #[.bool t164, .int .u64 t165, .int .u64 t166, .int .i64 t169]] rfl (by (try simp only [List.map_toArray, List.map_cons, List.map_nil]); first | done | rfl | (simp only [List.length_drop, List.length_take]; rfl)) ?_; (with_reducible refine (address_ValidPrefix.calls t164 t165 t166 t169 true _ A102.out).mono ?_); rintro e w122 ⟨rfl, hb⟩; refine ⟨_, rfl, ?_⟩; replace BK160 := Aside0.mk (blk_below (g := gb160) (o := .cells #[.bool false, .int .u64 0, .int .u64 0, .int .i64 0] 30 (0, 0)) (by refine zL ?_; refine blk_far ?_ NB160_170.out _; refine zL ?_; refine blk_far ?_ NB160_170.out _; refine zL ?_; refine blk_far ?_ NB160_170.out _; refine zL ?_; refine blk_far ?_ NB160_170.out _; refine zL ?_; exact BK160.out) hb); replace BK168 := Aside0.mk (blk_below (g := gb168) (o := .cells #[.bool t164, .int .u64 t165, .int .u64 t166] 25 (0, 0)) (by refine zL ?_; refine blk_far ?_ NB168_170.out _; refine zL ?_; refine blk_far ?_ NB168_170.out _; refine zL ?_; refine blk_far ?_ NB168_170.out _; refine zL ?_; refine blk_far ?_ NB168_170.out _; refine zL ?_; exact BK168.out) hb); replace BK170 := Aside0.mk (blk_below (g := gb170) (o := .cells #[.bool t164, .int .u64 t165, .int .u64 t166, .int .i64 t169] 30 (0, 0)) (by refine zL ?_; refine blk_put (cs := #[.bool t164, .int .u64 t165, .int .u64 t166, .int .i64 0]) ?_ 3 _ rfl; refine zL ?_; refine blk_put (cs := #[.bool t164, .int .u64 t165, .int .u64 0, .int .i64 0]) ?_ 2 _ rfl; refine zL ?_; refine blk_put (cs := #[.bool t164, .int .u64 0, .int .u64 0, .int .i64 0]) ?_ 1 _ rfl; refine zL ?_; refine blk_put (cs := #[.bool false, .int .u64 0, .int .u64 0, .int .i64 0]) ?_ 0 _ rfl; refine zL ?_; exact BK170.out) hb); replace HB := Aside0.mk (below_step (zB HB) hb); (try clear hb); obtain ⟨hcz123_0, hcz123_1, hcz123_2, hcz123_3⟩ := zc4 BK170; obtain ⟨hfz123_0, hfz123_1, hfz123_2, hfz123_3⟩ := zf4 BK170; obtain ⟨hcz124_0, hcz124_1, hcz124_2, hcz124_3⟩ := zc4 BK160; obtain ⟨hfz124_0, hfz124_1, hfz124_2, hfz124_3⟩ := zf4 BK160))
         refine bodyPost_ret (results_ct rfl _ _ gb160 30 #[.bool t164, .int .u64 t165, .int .u64 t166, .int .i64 t169] (0, 0) _ rfl (by refine zL ?_; refine blk_put (cs := #[.bool t164, .int .u64 t165, .int .u64 t166, .int .i64 0]) ?_ 3 _ rfl; refine zL ?_; refine blk_put (cs := #[.bool t164, .int .u64 t165, .int .u64 0, .int .i64 0]) ?_ 2 _ rfl; refine zL ?_; refine blk_put (cs := #[.bool t164, .int .u64 0, .int .u64 0, .int .i64 0]) ?_ 1 _ rfl; refine zL ?_; refine blk_put (cs := #[.bool false, .int .u64 0, .int .u64 0, .int .i64 0]) ?_ 0 _ rfl; refine zL ?_; exact BK160.out) Tryd.underlying30 rfl (by kernel_rfl)) rfl ?_
         exact ⟨by first | rfl | (simp [errW_none, errW_some] <;> rfl) | (simp [*, errW_none, errW_some] <;> rfl), by repeat (first | (with_reducible first | exact HB.out | apply below_alloc | apply pw_below_drewN | apply below_drew1 | refine below_set ?_ GE160.out | refine below_set ?_ GE168.out | refine below_set ?_ GE170.out) | exact HB.out)⟩
       · replace c103 := Bool.eq_false_iff.mpr c103
         subst c103
         rw [if_neg zF] at H
         simp only [Option.some.injEq, Prod.mk.injEq] at H
         obtain ⟨rfl, rfl, rfl, rfl, rfl⟩ := H
         go_enter Tryd.func13, Tryd.ntmps13
         try go_wp2_with (first | ((with_reducible refine gate_dst (N := 2) rfl ?_); refine zx 2 #[.bool false, .int .u64 0, .int .u64 0, .int .i64 0] 30 ?_; intro gb160 hg w125 hbox hb; have BK160 := Aside0.mk (hbox); have GW160 := Aside0.mk ((by rw [hg]; exact (below_size (zB HB)) : w.heap.size ≤ gb160)); have GE160 := Aside0.mk ((by rw [hg]; exact (below_size (zB HB)) : w.heap.size ≤ gb160)); replace HB := Aside0.mk (below_step (zB HB) hb); clear hb hbox hg) | ((with_reducible refine gate_callee (f := 43) rfl ?_); refine goesL_ (some 18) rfl rfl Tryd.func43 (by kernel_rfl) rfl #[.string a0, .string (⟨#[47]⟩ : ByteArray)] rfl (by (try simp only [List.map_toArray, List.map_cons, List.map_nil]); first | done | rfl | (simp only [List.length_drop, List.length_take]; rfl)) ?_; (with_reducible refine (strings_Cut.calls a0 (⟨#[47]⟩ : ByteArray) t161 t162 false _ A5.out (WOK.below hW_ (zB HB))).mono ?_); rintro e w126 ⟨rfl, hb⟩; refine ⟨_, rfl, ?_⟩; replace BK160 := Aside0.mk (blk_below (g := gb160) (o := .cells #[.bool false, .int .u64 0, .int .u64 0, .int .i64 0] 30 (0, 0)) (zK BK160) hb); replace HB := Aside0.mk (below_step (zB HB) hb); (try clear hb)) | ((with_reducible refine gate_callee (f := 11) rfl ?_); refine goesL_ (some 24) rfl rfl Tryd.func11 (by kernel_rfl) rfl #[.string t161] rfl (by (try simp only [List.map_toArray, List.map_cons, List.map_nil]); first | done | rfl | (simp only [List.length_drop, List.length_take]; rfl)) ?_; (with_reducible refine (address_Parse.calls k t161 t164 t165 t166 t167 _ A6.out (WOK.below hW_ (zB HB))).mono ?_); rintro e w127 ⟨rfl, hb⟩; refine ⟨_, rfl, ?_⟩; replace BK160 := Aside0.mk (blk_below (g := gb160) (o := .cells #[.bool false, .int .u64 0, .int .u64 0, .int .i64 0] 30 (0, 0)) (zK BK160) hb); replace HB := Aside0.mk (below_step (zB HB) hb); (try clear hb)) | ((with_reducible refine gate_dst (N := 7) rfl ?_); refine zx 7 #[.bool false, .int .u64 0, .int .u64 0] 25 ?_; intro gb168 hg w128 hbox hb; have BK168 := Aside0.mk (hbox); have GW168 := Aside0.mk ((by rw [hg]; exact (below_size (zB HB)) : w.heap.size ≤ gb168)); have GE168 := Aside0.mk ((by rw [hg]; exact (below_size (zB HB)) : w.heap.size ≤ gb168)); replace HB := Aside0.mk (below_step (zB HB) hb); have NB160_168 := Aside0.mk ((by rw [hg]; exact Nat.ne_of_lt (blk_lt (g := gb160) (o := .cells #[.bool false, .int .u64 0, .int .u64 0, .int .i64 0] 30 (0, 0)) (zK BK160)) : gb160 ≠ gb168)); have NB168_160 := Aside0.mk ((by rw [hg]; exact Nat.ne_of_gt (blk_lt (g := gb160) (o := .cells #[.bool false, .int .u64 0, .int .u64 0, .int .i64 0] 30 (0, 0)) (zK BK160)) : gb168 ≠ gb160)); replace BK160 := Aside0.mk (blk_below (g := gb160) (o := .cells #[.bool false, .int .u64 0, .int .u64 0, .int .i64 0] 30 (0, 0)) (zK BK160) hb); clear hb hbox hg; have hnb129 := NB168_160.out; have hnc129 := NB160_168.out; obtain ⟨hcz130_0, hcz130_1, hcz130_2⟩ := zc3 BK168; obtain ⟨hfz130_0, hfz130_1, hfz130_2⟩ := zf3 BK168))
         have n0_ : Aside0 ((((w128.setCell ⟨gb168, 0, none⟩ (.bool t164)).setCell ⟨gb168, 1, none⟩ (.int .u64 t165)).setCell ⟨gb168, 2, none⟩ (.int .u64 t166)).heap[gb160]? = some (.cells #[.bool false, .int .u64 0, .int .u64 0, .int .i64 0] 30 (0, 0))) := ⟨by refine zL ?_; refine blk_far ?_ NB160_168.out _; refine zL ?_; refine blk_far ?_ NB160_168.out _; refine zL ?_; refine blk_far ?_ NB160_168.out _; refine zL ?_; exact BK160.out⟩
         have n1_ : Aside0 ((((w128.setCell ⟨gb168, 0, none⟩ (.bool t164)).setCell ⟨gb168, 1, none⟩ (.int .u64 t165)).setCell ⟨gb168, 2, none⟩ (.int .u64 t166)).heap[gb168]? = some (.cells #[.bool t164, .int .u64 t165, .int .u64 t166] 25 (0, 0))) := ⟨by refine zL ?_; refine blk_put (cs := #[.bool t164, .int .u64 t165, .int .u64 0]) ?_ 2 _ rfl; refine zL ?_; refine blk_put (cs := #[.bool t164, .int .u64 0, .int .u64 0]) ?_ 1 _ rfl; refine zL ?_; refine blk_put (cs := #[.bool false, .int .u64 0, .int .u64 0]) ?_ 0 _ rfl; refine zL ?_; exact BK168.out⟩
         have n2_ : Aside0 (Below w.heap.size w (((w128.setCell ⟨gb168, 0, none⟩ (.bool t164)).setCell ⟨gb168, 1, none⟩ (.int .u64 t165)).setCell ⟨gb168, 2, none⟩ (.int .u64 t166))) := ⟨zB HB⟩
         (try clear BK160)
         (try clear BK168)
         (try clear HB)
         generalize (((w128.setCell ⟨gb168, 0, none⟩ (.bool t164)).setCell ⟨gb168, 1, none⟩ (.int .u64 t165)).setCell ⟨gb168, 2, none⟩ (.int .u64 t166)) = w131 at n0_ n1_ n2_ ⊢
         have BK160 := n0_
         have BK168 := n1_
         have HB := n2_
         clear n0_ n1_ n2_
         replace BK160 := Aside0.mk (blk_drew BK160.out)
         replace BK168 := Aside0.mk (blk_drew BK168.out)
         replace HB := Aside0.mk (below_drew1 HB.out)
         refine start_ (n := 6) (S := fun w' => w'.cell? ⟨gb168, 0, none⟩ = some (.bool t164) ∧ w'.cell? ⟨gb168, 1, none⟩ = some (.int .u64 t165) ∧ w'.cell? ⟨gb168, 2, none⟩ = some (.int .u64 t166)) (ds := []) #[false, false, false, false, false, false] (by kernel_rfl) rfl rfl ⟨zc BK168 0, zc BK168 1, zc BK168 2⟩ (fun hHeld => ?_)
         generalize w131.drew = w132 at BK160 BK168 HB hHeld ⊢
         refine zt0 0 30 hHeld ?_; refine zt0 1 31 hHeld ?_
         refine join_ (σ := Nat) 1 #[true, true, true, true, true, false] (fun s_ => [(32, .int .i64 t169), (9, .pointer (some ⟨s_, 0, none⟩)), (33, .agg #[.bool t164, .int .u64 t165, .int .u64 t166, .int .i64 t169])]) (fun s_ w' => (w'.cell? ⟨gb168, 0, none⟩ = some (.bool t164) ∧ w'.cell? ⟨gb168, 1, none⟩ = some (.int .u64 t165) ∧ w'.cell? ⟨gb168, 2, none⟩ = some (.int .u64 t166)) ∧ (w'.heap[gb160]? = some (.cells #[.bool false, .int .u64 0, .int .u64 0, .int .i64 0] 30 (0, 0))) ∧ (w'.heap[gb168]? = some (.cells #[.bool t164, .int .u64 t165, .int .u64 t166] 25 (0, 0))) ∧ (w'.heap[s_]? = some (.cells #[.bool false, .int .u64 0, .int .u64 0, .int .i64 0] 30 (0, 0))) ∧ (w.heap.size ≤ s_) ∧ (w.heap.size ≤ s_) ∧ (gb160 ≠ s_) ∧ (s_ ≠ gb160) ∧ (gb168 ≠ s_) ∧ (s_ ≠ gb168) ∧ (Below w.heap.size w w')) ?_ ?_
         rotate_left
         · intro hCont
           refine two_ (i := 2) (j := 4) (Ni := some 32) (Nj := some 9) #[true, true, true, false, false, false] #[true, true, false, false, true, false] rfl rfl rfl rfl (by kernel_rfl) (by decide) (by decide) (fun K hK => ?_) (fun K hK => ?_)
           · skip
             refine zg Tryd.func44 #[.agg #[.bool t164, .int .u64 t165, .int .u64 t166]] ?_
             with_reducible refine (address_size.calls t164 t165 t166 t169 _ A8.out).mono ?_
             rintro e w133 ⟨rfl, hb⟩
             refine ⟨_, rfl, ?_⟩
             replace BK160 := Aside0.mk (blk_below (g := gb160) (o := .cells #[.bool false, .int .u64 0, .int .u64 0, .int .i64 0] 30 (0, 0)) (zK BK160) hb)
             replace BK168 := Aside0.mk (blk_below (g := gb168) (o := .cells #[.bool t164, .int .u64 t165, .int .u64 t166] 25 (0, 0)) (zK BK168) hb)
             replace HB := Aside0.mk (below_step (zB HB) hb)
             (try clear hb)
             refine hK.out _ _ ⟨zc BK168 0, zc BK168 1, zc BK168 2⟩ (fun hHeld => ?_)
             clear hK K
             refine zn 32 ?_; refine zp0 3 33 ?_; refine zo0 4 9 (fun K hK => ?_)
             refine box_step ?hg (N := 9) ?hd (cs := #[.bool false, .int .u64 0, .int .u64 0, .int .i64 0]) (t := 30) ?hr ?_; (case hd => rfl); (case hg => rfl); (case hr => first | (go_simp; done) | (go_simp; rfl))
             intro gb170 hg w134 hbox hb
             have BK170 := Aside0.mk (hbox)
             have GW170 := Aside0.mk ((by rw [hg]; exact (below_size (zB HB)) : w.heap.size ≤ gb170))
             have GE170 := Aside0.mk ((by rw [hg]; exact (below_size (zB HB)) : w.heap.size ≤ gb170))
             replace HB := Aside0.mk (below_step (zB HB) hb)
             have NB160_170 := Aside0.mk ((by rw [hg]; exact Nat.ne_of_lt (blk_lt (g := gb160) (o := .cells #[.bool false, .int .u64 0, .int .u64 0, .int .i64 0] 30 (0, 0)) (zK BK160)) : gb160 ≠ gb170))
             have NB170_160 := Aside0.mk ((by rw [hg]; exact Nat.ne_of_gt (blk_lt (g := gb160) (o := .cells #[.bool false, .int .u64 0, .int .u64 0, .int .i64 0] 30 (0, 0)) (zK BK160)) : gb170 ≠ gb160))
             replace BK160 := Aside0.mk (blk_below (g := gb160) (o := .cells #[.bool false, .int .u64 0, .int .u64 0, .int .i64 0] 30 (0, 0)) (zK BK160) hb)
             have NB168_170 := Aside0.mk ((by rw [hg]; exact Nat.ne_of_lt (blk_lt (g := gb168) (o := .cells #[.bool t164, .int .u64 t165, .int .u64 t166] 25 (0, 0)) (zK BK168)) : gb168 ≠ gb170))
             have NB170_168 := Aside0.mk ((by rw [hg]; exact Nat.ne_of_gt (blk_lt (g := gb168) (o := .cells #[.bool t164, .int .u64 t165, .int .u64 t166] 25 (0, 0)) (zK BK168)) : gb170 ≠ gb168))
             replace BK168 := Aside0.mk (blk_below (g := gb168) (o := .cells #[.bool t164, .int .u64 t165, .int .u64 t166] 25 (0, 0)) (zK BK168) hb)
             clear hb hbox hg
             refine hK.out _ _ ⟨zc BK168 0, zc BK168 1, zc BK168 2⟩ (fun hHeld => ?_)
             clear hK K
             refine zn 9 ?_
             exact norm_ (by simp only [putAll, Act.put, List.setIfInBounds_toArray, List.set_cons_zero, List.set_cons_succ]) (hCont (gb170) _ ⟨hHeld, (zK BK160), (zK BK168), (zK BK170), GW170.out, GE170.out, NB160_170.out, NB170_160.out, NB168_170.out, NB170_168.out, (zB HB)⟩)
           · skip
             refine box_step ?hg (N := 9) ?hd (cs := #[.bool false, .int .u64 0, .int .u64 0, .int .i64 0]) (t := 30) ?hr ?_; (case hd => rfl); (case hg => rfl); (case hr => first | (go_simp; done) | (go_simp; rfl))
             intro gb170 hg w133 hbox hb
             have BK170 := Aside0.mk (hbox)
             have GW170 := Aside0.mk ((by rw [hg]; exact (below_size (zB HB)) : w.heap.size ≤ gb170))
             have GE170 := Aside0.mk ((by rw [hg]; exact (below_size (zB HB)) : w.heap.size ≤ gb170))
             replace HB := Aside0.mk (below_step (zB HB) hb)
             have NB160_170 := Aside0.mk ((by rw [hg]; exact Nat.ne_of_lt (blk_lt (g := gb160) (o := .cells #[.bool false, .int .u64 0, .int .u64 0, .int .i64 0] 30 (0, 0)) (zK BK160)) : gb160 ≠ gb170))
             have NB170_160 := Aside0.mk ((by rw [hg]; exact Nat.ne_of_gt (blk_lt (g := gb160) (o := .cells #[.bool false, .int .u64 0, .int .u64 0, .int .i64 0] 30 (0, 0)) (zK BK160)) : gb170 ≠ gb160))
             replace BK160 := Aside0.mk (blk_below (g := gb160) (o := .cells #[.bool false, .int .u64 0, .int .u64 0, .int .i64 0] 30 (0, 0)) (zK BK160) hb)
             have NB168_170 := Aside0.mk ((by rw [hg]; exact Nat.ne_of_lt (blk_lt (g := gb168) (o := .cells #[.bool t164, .int .u64 t165, .int .u64 t166] 25 (0, 0)) (zK BK168)) : gb168 ≠ gb170))
             have NB170_168 := Aside0.mk ((by rw [hg]; exact Nat.ne_of_gt (blk_lt (g := gb168) (o := .cells #[.bool t164, .int .u64 t165, .int .u64 t166] 25 (0, 0)) (zK BK168)) : gb170 ≠ gb168))
             replace BK168 := Aside0.mk (blk_below (g := gb168) (o := .cells #[.bool t164, .int .u64 t165, .int .u64 t166] 25 (0, 0)) (zK BK168) hb)
             clear hb hbox hg
             refine hK.out _ _ ⟨zc BK168 0, zc BK168 1, zc BK168 2⟩ (fun hHeld => ?_)
             clear hK K
             refine zn 9 ?_; refine zo0 2 32 (fun K hK => ?_)
             refine zg Tryd.func44 #[.agg #[.bool t164, .int .u64 t165, .int .u64 t166]] ?_
             with_reducible refine (address_size.calls t164 t165 t166 t169 _ A8.out).mono ?_
             rintro e w134 ⟨rfl, hb⟩
             refine ⟨_, rfl, ?_⟩
             replace BK160 := Aside0.mk (blk_below (g := gb160) (o := .cells #[.bool false, .int .u64 0, .int .u64 0, .int .i64 0] 30 (0, 0)) (zK BK160) hb)
             replace BK168 := Aside0.mk (blk_below (g := gb168) (o := .cells #[.bool t164, .int .u64 t165, .int .u64 t166] 25 (0, 0)) (zK BK168) hb)
             replace BK170 := Aside0.mk (blk_below (g := gb170) (o := .cells #[.bool false, .int .u64 0, .int .u64 0, .int .i64 0] 30 (0, 0)) (zK BK170) hb)
             replace HB := Aside0.mk (below_step (zB HB) hb)
             (try clear hb)
             refine hK.out _ _ ⟨zc BK168 0, zc BK168 1, zc BK168 2⟩ (fun hHeld => ?_)
             clear hK K
             refine zn 32 ?_; refine zp0 3 33 ?_
             exact norm_ (by simp only [putAll, Act.put, List.setIfInBounds_toArray, List.set_cons_zero, List.set_cons_succ]) (hCont (gb170) _ ⟨hHeld, (zK BK160), (zK BK168), (zK BK170), GW170.out, GE170.out, NB160_170.out, NB170_160.out, NB168_170.out, NB170_168.out, (zB HB)⟩)
         rintro gb170 w135 ⟨hS_, h0_, h1_, h2_, h3_, h4_, h5_, h6_, h7_, h8_, h9_⟩
         have n0_ : Aside0 (w135.heap[gb160]? = some (.cells #[.bool false, .int .u64 0, .int .u64 0, .int .i64 0] 30 (0, 0))) := ⟨h0_⟩
         have n1_ : Aside0 (w135.heap[gb168]? = some (.cells #[.bool t164, .int .u64 t165, .int .u64 t166] 25 (0, 0))) := ⟨h1_⟩
         have n2_ : Aside0 (w135.heap[gb170]? = some (.cells #[.bool false, .int .u64 0, .int .u64 0, .int .i64 0] 30 (0, 0))) := ⟨h2_⟩
         have n3_ : Aside0 (w.heap.size ≤ gb170) := ⟨h3_⟩
         have n4_ : Aside0 (w.heap.size ≤ gb170) := ⟨h4_⟩
         have n5_ : Aside0 (gb160 ≠ gb170) := ⟨h5_⟩
         have n6_ : Aside0 (gb170 ≠ gb160) := ⟨h6_⟩
         have n7_ : Aside0 (gb168 ≠ gb170) := ⟨h7_⟩
         have n8_ : Aside0 (gb170 ≠ gb168) := ⟨h8_⟩
         have n9_ : Aside0 (Below w.heap.size w w135) := ⟨h9_⟩
         clear BK160
         clear BK168
         clear HB
         clear h0_ h1_ h2_ h3_ h4_ h5_ h6_ h7_ h8_ h9_
         have BK160 := n0_
         have BK168 := n1_
         have BK170 := n2_
         have GW170 := n3_
         have GE170 := n4_
         have NB160_170 := n5_
         have NB170_160 := n6_
         have NB168_170 := n7_
         have NB170_168 := n8_
         have HB := n9_
         clear n0_ n1_ n2_ n3_ n4_ n5_ n6_ n7_ n8_ n9_
         have hHeld : w135.cell? ⟨gb168, 0, none⟩ = some (.bool t164) ∧ w135.cell? ⟨gb168, 1, none⟩ = some (.int .u64 t165) ∧ w135.cell? ⟨gb168, 2, none⟩ = some (.int .u64 t166) := hS_
         refine norm_ (a' := ?_) ?_ ?_
         rotate_left
         · simp only [putAll, Act.put, List.setIfInBounds_toArray, List.set_cons_zero, List.set_cons_succ]
           rfl
         refine one_ (i := 5) (N := none) #[true, true, true, true, true, true] rfl rfl (by kernel_rfl) (by decide) (fun K hK => ?_)
         have hs136 : w135.cell? ⟨gb170, 0, none⟩ = some (.bool false) := zc BK170 0
         have hfs136 := blk_frozen BK170.out 0
         have hns136_0 := NB160_170.out
         have hns136_1 := NB168_170.out
         have hms136_0 := NB170_160.out
         have hms136_1 := NB170_168.out
         have hs137 : w135.cell? ⟨gb170, 1, none⟩ = some (.int .u64 0) := zc BK170 1
         have hfs137 := blk_frozen BK170.out 1
         have hns137_0 := NB160_170.out
         have hns137_1 := NB168_170.out
         have hms137_0 := NB170_160.out
         have hms137_1 := NB170_168.out
         have hs138 : w135.cell? ⟨gb170, 2, none⟩ = some (.int .u64 0) := zc BK170 2
         have hfs138 := blk_frozen BK170.out 2
         have hns138_0 := NB160_170.out
         have hns138_1 := NB168_170.out
         have hms138_0 := NB170_160.out
         have hms138_1 := NB170_168.out
         have hs139 : w135.cell? ⟨gb170, 3, none⟩ = some (.int .i64 0) := zc BK170 3
         have hfs139 := blk_frozen BK170.out 3
         have hns139_0 := NB160_170.out
         have hns139_1 := NB168_170.out
         have hms139_0 := NB170_160.out
         have hms139_1 := NB170_168.out
         refine skip_ (w1 := ?_) (by rfl) rfl ?_ ?_
         rotate_left
         · go_simp
           rfl
         refine hK.out _ _ ⟨((cell_far (p := ⟨gb170, _, none⟩) NB168_170.out _).trans (((cell_far (p := ⟨gb170, _, none⟩) NB168_170.out _).trans (((cell_far (p := ⟨gb170, _, none⟩) NB168_170.out _).trans (((cell_far (p := ⟨gb170, _, none⟩) NB168_170.out _).trans (hHeld.1)))))))), ((cell_far (p := ⟨gb170, _, none⟩) NB168_170.out _).trans (((cell_far (p := ⟨gb170, _, none⟩) NB168_170.out _).trans (((cell_far (p := ⟨gb170, _, none⟩) NB168_170.out _).trans (((cell_far (p := ⟨gb170, _, none⟩) NB168_170.out _).trans (hHeld.2.1)))))))), ((cell_far (p := ⟨gb170, _, none⟩) NB168_170.out _).trans (((cell_far (p := ⟨gb170, _, none⟩) NB168_170.out _).trans (((cell_far (p := ⟨gb170, _, none⟩) NB168_170.out _).trans (((cell_far (p := ⟨gb170, _, none⟩) NB168_170.out _).trans (hHeld.2.2))))))))⟩ (fun hHeld => ?_)
         clear hK K
         refine zd0 ?_
         have hnb140 := NB170_160.out
         have hnc140 := NB160_170.out
         have hnb141 := NB170_168.out
         have hnc141 := NB168_170.out
         obtain ⟨hcz142_0, hcz142_1, hcz142_2, hcz142_3⟩ := zc4 BK170
         obtain ⟨hfz142_0, hfz142_1, hfz142_2, hfz142_3⟩ := zf4 BK170
         try go_wp2_with (first | ((with_reducible refine gate_callee (f := 31) rfl ?_); refine goesL_ (some 53) rfl rfl Tryd.func31 (by kernel_rfl) rfl #[.agg #[.bool t164, .int .u64 t165, .int .u64 t166, .int .i64 t169]] rfl (by (try simp only [List.map_toArray, List.map_cons, List.map_nil]); first | done | rfl | (simp only [List.length_drop, List.length_take]; rfl)) ?_; (with_reducible refine (address_ValidPrefix.calls t164 t165 t166 t169 false _ A102.out).mono ?_); rintro e w143 ⟨rfl, hb⟩; refine ⟨_, rfl, ?_⟩; replace BK160 := Aside0.mk (blk_below (g := gb160) (o := .cells #[.bool false, .int .u64 0, .int .u64 0, .int .i64 0] 30 (0, 0)) (by refine zL ?_; refine blk_far ?_ NB160_170.out _; refine zL ?_; refine blk_far ?_ NB160_170.out _; refine zL ?_; refine blk_far ?_ NB160_170.out _; refine zL ?_; refine blk_far ?_ NB160_170.out _; refine zL ?_; exact BK160.out) hb); replace BK168 := Aside0.mk (blk_below (g := gb168) (o := .cells #[.bool t164, .int .u64 t165, .int .u64 t166] 25 (0, 0)) (by refine zL ?_; refine blk_far ?_ NB168_170.out _; refine zL ?_; refine blk_far ?_ NB168_170.out _; refine zL ?_; refine blk_far ?_ NB168_170.out _; refine zL ?_; refine blk_far ?_ NB168_170.out _; refine zL ?_; exact BK168.out) hb); replace BK170 := Aside0.mk (blk_below (g := gb170) (o := .cells #[.bool t164, .int .u64 t165, .int .u64 t166, .int .i64 t169] 30 (0, 0)) (by refine zL ?_; refine blk_put (cs := #[.bool t164, .int .u64 t165, .int .u64 t166, .int .i64 0]) ?_ 3 _ rfl; refine zL ?_; refine blk_put (cs := #[.bool t164, .int .u64 t165, .int .u64 0, .int .i64 0]) ?_ 2 _ rfl; refine zL ?_; refine blk_put (cs := #[.bool t164, .int .u64 0, .int .u64 0, .int .i64 0]) ?_ 1 _ rfl; refine zL ?_; refine blk_put (cs := #[.bool false, .int .u64 0, .int .u64 0, .int .i64 0]) ?_ 0 _ rfl; refine zL ?_; exact BK170.out) hb); replace HB := Aside0.mk (below_step (zB HB) hb); (try clear hb); obtain ⟨hcz144_0, hcz144_1, hcz144_2, hcz144_3⟩ := zc4 BK160; obtain ⟨hfz144_0, hfz144_1, hfz144_2, hfz144_3⟩ := zf4 BK160))
         refine bodyPost_ret (results_ct rfl _ _ gb160 30 #[.bool false, .int .u64 0, .int .u64 0, .int .i64 0] (0, 0) _ rfl (by refine zL ?_; refine blk_put (cs := #[.bool false, .int .u64 0, .int .u64 0, .int .i64 0]) ?_ 3 _ rfl; refine zL ?_; refine blk_put (cs := #[.bool false, .int .u64 0, .int .u64 0, .int .i64 0]) ?_ 2 _ rfl; refine zL ?_; refine blk_put (cs := #[.bool false, .int .u64 0, .int .u64 0, .int .i64 0]) ?_ 1 _ rfl; refine zL ?_; refine blk_put (cs := #[.bool false, .int .u64 0, .int .u64 0, .int .i64 0]) ?_ 0 _ rfl; refine zL ?_; exact BK160.out) Tryd.underlying30 rfl (by kernel_rfl)) rfl ?_
         exact ⟨by first | rfl | (simp [errW_none, errW_some] <;> rfl) | (simp [*, errW_none, errW_some] <;> rfl), by repeat (first | (with_reducible first | exact HB.out | apply below_alloc | apply pw_below_drewN | apply below_drew1 | refine below_set ?_ GE160.out | refine below_set ?_ GE168.out | refine below_set ?_ GE170.out) | exact HB.out)⟩
   · rw [if_neg c7] at H
     have c7b0 : (t167 == 0) = false := beq_eq_false_iff_ne.mpr c7
     have c7b1 : (t167 != 0) = true := bne_iff_ne.mpr c7
     simp only [Option.some.injEq, Prod.mk.injEq] at H
     obtain ⟨rfl, rfl, rfl, rfl, rfl⟩ := H
     go_enter Tryd.func13, Tryd.ntmps13
     go_wp2_with (first | ((with_reducible refine gate_dst (N := 2) rfl ?_); refine zx 2 #[.bool false, .int .u64 0, .int .u64 0, .int .i64 0] 30 ?_; intro gb160 hg w145 hbox hb; have BK160 := Aside0.mk (hbox); have GW160 := Aside0.mk ((by rw [hg]; exact (below_size (zB HB)) : w.heap.size ≤ gb160)); have GE160 := Aside0.mk ((by rw [hg]; exact (below_size (zB HB)) : w.heap.size ≤ gb160)); replace HB := Aside0.mk (below_step (zB HB) hb); clear hb hbox hg) | ((with_reducible refine gate_callee (f := 43) rfl ?_); refine goesL_ (some 18) rfl rfl Tryd.func43 (by kernel_rfl) rfl #[.string a0, .string (⟨#[47]⟩ : ByteArray)] rfl (by (try simp only [List.map_toArray, List.map_cons, List.map_nil]); first | done | rfl | (simp only [List.length_drop, List.length_take]; rfl)) ?_; (with_reducible refine (strings_Cut.calls a0 (⟨#[47]⟩ : ByteArray) t161 t162 t163 _ A5.out (WOK.below hW_ (zB HB))).mono ?_); rintro e w146 ⟨rfl, hb⟩; refine ⟨_, rfl, ?_⟩; replace BK160 := Aside0.mk (blk_below (g := gb160) (o := .cells #[.bool false, .int .u64 0, .int .u64 0, .int .i64 0] 30 (0, 0)) (zK BK160) hb); replace HB := Aside0.mk (below_step (zB HB) hb); (try clear hb)) | ((with_reducible refine gate_callee (f := 11) rfl ?_); refine goesL_ (some 24) rfl rfl Tryd.func11 (by kernel_rfl) rfl #[.string t161] rfl (by (try simp only [List.map_toArray, List.map_cons, List.map_nil]); first | done | rfl | (simp only [List.length_drop, List.length_take]; rfl)) ?_; (with_reducible refine (address_Parse.calls k t161 t164 t165 t166 t167 _ A6.out (WOK.below hW_ (zB HB))).mono ?_); rintro e w147 ⟨rfl, hb⟩; refine ⟨_, rfl, ?_⟩; replace BK160 := Aside0.mk (blk_below (g := gb160) (o := .cells #[.bool false, .int .u64 0, .int .u64 0, .int .i64 0] 30 (0, 0)) (zK BK160) hb); replace HB := Aside0.mk (below_step (zB HB) hb); (try clear hb)) | ((with_reducible refine gate_dst (N := 7) rfl ?_); refine zx 7 #[.bool false, .int .u64 0, .int .u64 0] 25 ?_; intro gb168 hg w148 hbox hb; have BK168 := Aside0.mk (hbox); have GW168 := Aside0.mk ((by rw [hg]; exact (below_size (zB HB)) : w.heap.size ≤ gb168)); have GE168 := Aside0.mk ((by rw [hg]; exact (below_size (zB HB)) : w.heap.size ≤ gb168)); replace HB := Aside0.mk (below_step (zB HB) hb); have NB160_168 := Aside0.mk ((by rw [hg]; exact Nat.ne_of_lt (blk_lt (g := gb160) (o := .cells #[.bool false, .int .u64 0, .int .u64 0, .int .i64 0] 30 (0, 0)) (zK BK160)) : gb160 ≠ gb168)); have NB168_160 := Aside0.mk ((by rw [hg]; exact Nat.ne_of_gt (blk_lt (g := gb160) (o := .cells #[.bool false, .int .u64 0, .int .u64 0, .int .i64 0] 30 (0, 0)) (zK BK160)) : gb168 ≠ gb160)); replace BK160 := Aside0.mk (blk_below (g := gb160) (o := .cells #[.bool false, .int .u64 0, .int .u64 0, .int .i64 0] 30 (0, 0)) (zK BK160) hb); clear hb hbox hg; have hnb149 := NB168_160.out; have hnc149 := NB160_168.out; obtain ⟨hcz150_0, hcz150_1, hcz150_2⟩ := zc3 BK168; obtain ⟨hfz150_0, hfz150_1, hfz150_2⟩ := zf3 BK168; obtain ⟨hcz151_0, hcz151_1, hcz151_2, hcz151_3⟩ := zc4 BK160; obtain ⟨hfz151_0, hfz151_1, hfz151_2, hfz151_3⟩ := zf4 BK160))
     refine bodyPost_ret (results_ct rfl _ _ gb160 30 #[.bool false, .int .u64 0, .int .u64 0, .int .i64 0] (0, 0) _ rfl (by refine zL ?_; refine blk_put (cs := #[.bool false, .int .u64 0, .int .u64 0, .int .i64 0]) ?_ 3 _ rfl; refine zL ?_; refine blk_put (cs := #[.bool false, .int .u64 0, .int .u64 0, .int .i64 0]) ?_ 2 _ rfl; refine zL ?_; refine blk_put (cs := #[.bool false, .int .u64 0, .int .u64 0, .int .i64 0]) ?_ 1 _ rfl; refine zL ?_; refine blk_put (cs := #[.bool false, .int .u64 0, .int .u64 0, .int .i64 0]) ?_ 0 _ rfl; refine zL ?_; refine blk_far ?_ NB160_168.out _; refine zL ?_; refine blk_far ?_ NB160_168.out _; refine zL ?_; refine blk_far ?_ NB160_168.out _; refine zL ?_; exact BK160.out) Tryd.underlying30 rfl (by kernel_rfl)) rfl ?_
     exact ⟨by first | rfl | (simp [errW_none, errW_some] <;> rfl) | (simp [*, errW_none, errW_some] <;> rfl), by repeat (first | (with_reducible first | exact HB.out | apply below_alloc | apply pw_below_drewN | apply below_drew1 | refine below_set ?_ GE160.out | refine below_set ?_ GE168.out) | exact HB.out)⟩
end Go.Proofs.YtlgfinnldhjgeaaDoor.Q
end

section
namespace Go.Proofs.YtlgfinnldhjgeaaDoor.Q
open Go.RowKit Go.Proofs.YtlgfinnldhjgeaaDoorW.PrintWords Go.Proofs.YtlgfinnldhjgeaaDoorW.PrintLast Go.Proofs.YtlgfinnldhjgeaaDoorW.PrintMore
attribute [local go_sem] max2_int min2_int max_two min_two max_three min_three max_four min_four
set_option linter.unusedVariables false
set_option linter.unusedSimpArgs false
def address_last.f (a0 : Bool) : Option (Bool × Int × Int) := if a0 = true then (some (true, 18446744073709551615, 18446744073709551615)) else (some (false, 0, 4294967295))
set_option maxHeartbeats 8000000 in
set_option maxRecDepth 100000 in
theorem address_last.calls (a0 : Bool) (r1 : Bool) (r2 : Int) (r3 : Int) (w : World) (h : address_last.f a0 = some (r1, r2, r3)) :
 Calls Tryd.prog 49 #[.bool a0] w fun e w' => e = .returned (.agg #[.bool r1, .int .u64 r2, .int .u64 r3]) ∧ Below w.heap.size w w' := by
 have hu25 := Tryd.underlying25
 have HB := Aside0.mk (Below.refl w.heap.size w)
 unfold address_last.f at h; have H := h
 clear h
 by_cases c2 : a0 = true
 · subst c2
   rw [if_pos rfl] at H
   simp only [Option.some.injEq, Prod.mk.injEq] at H
   obtain ⟨rfl, rfl, rfl⟩ := H
   go_enter Tryd.func49, Tryd.ntmps49
   go_wp2_with (first | ((with_reducible refine gate_dst (N := 2) rfl ?_); refine zx 2 #[.bool false, .int .u64 0, .int .u64 0] 25 ?_; intro gb176 hg w3 hbox hb; have BK176 := Aside0.mk (hbox); have GW176 := Aside0.mk ((by rw [hg]; exact (below_size (zB HB)) : w.heap.size ≤ gb176)); have GE176 := Aside0.mk ((by rw [hg]; exact (below_size (zB HB)) : w.heap.size ≤ gb176)); replace HB := Aside0.mk (below_step (zB HB) hb); clear hb hbox hg; obtain ⟨hcz4_0, hcz4_1, hcz4_2⟩ := zc3 BK176; obtain ⟨hfz4_0, hfz4_1, hfz4_2⟩ := zf3 BK176))
   refine bodyPost_ret (results_cell_row rfl _ _ gb176 25 #[.bool true, .int .u64 18446744073709551615, .int .u64 18446744073709551615] (0, 0) _ rfl (by refine zL ?_; refine blk_put (cs := #[.bool true, .int .u64 18446744073709551615, .int .u64 0]) ?_ 2 _ rfl; refine zL ?_; refine blk_put (cs := #[.bool true, .int .u64 0, .int .u64 0]) ?_ 1 _ rfl; refine zL ?_; refine blk_put (cs := #[.bool false, .int .u64 0, .int .u64 0]) ?_ 0 _ rfl; refine zL ?_; exact BK176.out) Tryd.underlying25 rfl (by kernel_rfl)) rfl ?_
   exact ⟨by first | rfl | (simp [errW_none, errW_some] <;> rfl) | (simp [*, errW_none, errW_some] <;> rfl), by repeat (first | (with_reducible first | exact HB.out | apply below_alloc | apply pw_below_drewN | apply below_drew1 | refine below_set ?_ GE176.out) | exact HB.out)⟩
 · replace c2 := Bool.eq_false_iff.mpr c2
   subst c2
   rw [if_neg zF] at H
   simp only [Option.some.injEq, Prod.mk.injEq] at H
   obtain ⟨rfl, rfl, rfl⟩ := H
   go_enter Tryd.func49, Tryd.ntmps49
   go_wp2_with (first | ((with_reducible refine gate_dst (N := 2) rfl ?_); refine zx 2 #[.bool false, .int .u64 0, .int .u64 0] 25 ?_; intro gb176 hg w5 hbox hb; have BK176 := Aside0.mk (hbox); have GW176 := Aside0.mk ((by rw [hg]; exact (below_size (zB HB)) : w.heap.size ≤ gb176)); have GE176 := Aside0.mk ((by rw [hg]; exact (below_size (zB HB)) : w.heap.size ≤ gb176)); replace HB := Aside0.mk (below_step (zB HB) hb); clear hb hbox hg; obtain ⟨hcz6_0, hcz6_1, hcz6_2⟩ := zc3 BK176; obtain ⟨hfz6_0, hfz6_1, hfz6_2⟩ := zf3 BK176))
   refine bodyPost_ret (results_cell_row rfl _ _ gb176 25 #[.bool false, .int .u64 0, .int .u64 4294967295] (0, 0) _ rfl (by refine zL ?_; refine blk_put (cs := #[.bool false, .int .u64 0, .int .u64 0]) ?_ 2 _ rfl; refine zL ?_; refine blk_put (cs := #[.bool false, .int .u64 0, .int .u64 0]) ?_ 1 _ rfl; refine zL ?_; refine blk_put (cs := #[.bool false, .int .u64 0, .int .u64 0]) ?_ 0 _ rfl; refine zL ?_; exact BK176.out) Tryd.underlying25 rfl (by kernel_rfl)) rfl ?_
   exact ⟨by first | rfl | (simp [errW_none, errW_some] <;> rfl) | (simp [*, errW_none, errW_some] <;> rfl), by repeat (first | (with_reducible first | exact HB.out | apply below_alloc | apply pw_below_drewN | apply below_drew1 | refine below_set ?_ GE176.out) | exact HB.out)⟩
end Go.Proofs.YtlgfinnldhjgeaaDoor.Q
end

section
namespace Go.Proofs.YtlgfinnldhjgeaaDoor.Q
open Go.RowKit Go.Proofs.YtlgfinnldhjgeaaDoorW.PrintWords Go.Proofs.YtlgfinnldhjgeaaDoorW.PrintLast Go.Proofs.YtlgfinnldhjgeaaDoorW.PrintMore
attribute [local go_sem] max2_int min2_int max_two min_two max_three min_three max_four min_four
set_option linter.unusedVariables false
set_option linter.unusedSimpArgs false
attribute [local go_sem high] eqA25
def address_Next.f (a0_0 : Bool) (a0_1 : Int) (a0_2 : Int) : Option (Bool × Int × Int × Bool) := (address_last.f a0_0).bind fun bt179 => (if (a0_0 == bt179.1 && (a0_1 == bt179.2.1 && (a0_2 == bt179.2.2))) = true then (some (false, 0, 0, false)) else (if (IntKind.u64.wrap (a0_2 + 1)) = 0 then (some (a0_0, IntKind.u64.wrap (a0_1 + 1), IntKind.u64.wrap (a0_2 + 1), true)) else (some (a0_0, a0_1, IntKind.u64.wrap (a0_2 + 1), true))))
set_option maxHeartbeats 8000000 in
set_option maxRecDepth 100000 in
theorem address_Next.calls (a0_0 : Bool) (a0_1 : Int) (a0_2 : Int) (r1 : Bool) (r2 : Int) (r3 : Int) (r4 : Bool) (w : World) (h : address_Next.f a0_0 a0_1 a0_2 = some (r1, r2, r3, r4)) :
 Calls Tryd.prog 16 #[.agg #[.bool a0_0, .int .u64 a0_1, .int .u64 a0_2]] w fun e w' => e = .returned (.tuple #[.agg #[.bool r1, .int .u64 r2, .int .u64 r3], .bool r4]) ∧ Below w.heap.size w w' := by
 have hu25 := Tryd.underlying25
 have HB := Aside0.mk (Below.refl w.heap.size w)
 unfold address_Next.f at h; have H := h
 clear h
 replace H := Option.bind_eq_some_iff.mp H
 obtain ⟨⟨t179, t180, t181⟩, A20, H⟩ := H
 replace H : (if (a0_0 == t179 && (a0_1 == t180 && (a0_2 == t181))) = true then (some (false, 0, 0, false)) else (if (IntKind.u64.wrap (a0_2 + 1)) = 0 then (some (a0_0, IntKind.u64.wrap (a0_1 + 1), IntKind.u64.wrap (a0_2 + 1), true)) else (some (a0_0, a0_1, IntKind.u64.wrap (a0_2 + 1), true)))) = some (r1, r2, r3, r4) := H
 have A2 := Aside0.mk A20
 clear A20
 by_cases c3 : (a0_0 == t179 && (a0_1 == t180 && (a0_2 == t181))) = true
 · rw [if_pos c3] at H
   have c3b0 : (a0_0 == t179 && (a0_1 == t180 && (a0_2 == t181))) = true := c3
   (try (have c3b1 : decide (a0_0 = t179 && (a0_1 == t180 && (a0_2 == t181))) = true := by first | (simpa using c3) | exact decide_eq_true (Decidable.not_not.1 (fun hn => c3 (bne_iff_ne.2 hn))) | exact beq_iff_eq.2 (Decidable.not_not.1 (fun hn => c3 (bne_iff_ne.2 hn))) | exact decide_eq_false (bne_iff_ne.1 c3) | exact beq_eq_false_iff_ne.2 (bne_iff_ne.1 c3) | exact bne_iff_ne.1 c3))
   (try (have c3b2 : (a0_0 == t179 && (a0_1 == t180 && (a0_2 == t181))) = true := by first | (simpa using c3) | exact decide_eq_true (Decidable.not_not.1 (fun hn => c3 (bne_iff_ne.2 hn))) | exact beq_iff_eq.2 (Decidable.not_not.1 (fun hn => c3 (bne_iff_ne.2 hn))) | exact decide_eq_false (bne_iff_ne.1 c3) | exact beq_eq_false_iff_ne.2 (bne_iff_ne.1 c3) | exact bne_iff_ne.1 c3))
   clear c3
   simp only [Option.some.injEq, Prod.mk.injEq] at H
   obtain ⟨rfl, rfl, rfl, rfl⟩ := H
   go_enter Tryd.func16, Tryd.ntmps16
   try go_wp2_with (first | ((with_reducible refine gate_dst (N := 1) rfl ?_); refine zx 1 #[.bool a0_0, .int .u64 a0_1, .int .u64 a0_2] 25 ?_; intro gb177 hg w4 hbox hb; have BK177 := Aside0.mk (hbox); have GW177 := Aside0.mk ((by rw [hg]; exact (below_size (zB HB)) : w.heap.size ≤ gb177)); have GE177 := Aside0.mk ((by rw [hg]; exact (below_size (zB HB)) : w.heap.size ≤ gb177)); replace HB := Aside0.mk (below_step (zB HB) hb); clear hb hbox hg) | ((with_reducible refine gate_dst (N := 2) rfl ?_); refine zx 2 #[.bool false, .int .u64 0, .int .u64 0] 25 ?_; intro gb178 hg w5 hbox hb; have BK178 := Aside0.mk (hbox); have GW178 := Aside0.mk ((by rw [hg]; exact (below_size (zB HB)) : w.heap.size ≤ gb178)); have GE178 := Aside0.mk ((by rw [hg]; exact (below_size (zB HB)) : w.heap.size ≤ gb178)); replace HB := Aside0.mk (below_step (zB HB) hb); have NB177_178 := Aside0.mk ((by rw [hg]; exact Nat.ne_of_lt (blk_lt (g := gb177) (o := .cells #[.bool a0_0, .int .u64 a0_1, .int .u64 a0_2] 25 (0, 0)) (zK BK177)) : gb177 ≠ gb178)); have NB178_177 := Aside0.mk ((by rw [hg]; exact Nat.ne_of_gt (blk_lt (g := gb177) (o := .cells #[.bool a0_0, .int .u64 a0_1, .int .u64 a0_2] 25 (0, 0)) (zK BK177)) : gb178 ≠ gb177)); replace BK177 := Aside0.mk (blk_below (g := gb177) (o := .cells #[.bool a0_0, .int .u64 a0_1, .int .u64 a0_2] 25 (0, 0)) (zK BK177) hb); clear hb hbox hg))
   replace BK177 := Aside0.mk (blk_drew BK177.out)
   replace BK178 := Aside0.mk (blk_drew BK178.out)
   replace HB := Aside0.mk (below_drew1 HB.out)
   refine start_ (n := 5) (S := fun w' => w'.cell? ⟨gb177, 0, none⟩ = some (.bool a0_0) ∧ w'.cell? ⟨gb177, 1, none⟩ = some (.int .u64 a0_1) ∧ w'.cell? ⟨gb177, 2, none⟩ = some (.int .u64 a0_2)) (ds := []) #[false, false, false, false, false] (by kernel_rfl) rfl rfl ⟨zc BK177 0, zc BK177 1, zc BK177 2⟩ (fun hHeld => ?_)
   generalize w5.drew = w6 at BK177 BK178 HB hHeld ⊢
   refine zp0 1 5 ?_; refine zt0 0 4 hHeld ?_; refine zt0 2 6 hHeld ?_; refine zo0 3 7 (fun K hK => ?_)
   refine zg Tryd.func49 #[.bool a0_0] ?_
   with_reducible refine (address_last.calls a0_0 t179 t180 t181 _ A2.out).mono ?_
   rintro e w7 ⟨rfl, hb⟩
   refine ⟨_, rfl, ?_⟩
   replace BK177 := Aside0.mk (blk_below (g := gb177) (o := .cells #[.bool a0_0, .int .u64 a0_1, .int .u64 a0_2] 25 (0, 0)) (zK BK177) hb)
   replace BK178 := Aside0.mk (blk_below (g := gb178) (o := .cells #[.bool false, .int .u64 0, .int .u64 0] 25 (0, 0)) (zK BK178) hb)
   replace HB := Aside0.mk (below_step (zB HB) hb)
   (try clear hb)
   refine hK.out _ _ ⟨zc BK177 0, zc BK177 1, zc BK177 2⟩ (fun hHeld => ?_)
   clear hK K
   refine zn 7 ?_; refine zp0 4 8 ?_; refine zd0 ?_
   have hnb8 := NB178_177.out
   have hnc8 := NB177_178.out
   obtain ⟨hcz9_0, hcz9_1, hcz9_2⟩ := zc3 BK178
   obtain ⟨hfz9_0, hfz9_1, hfz9_2⟩ := zf3 BK178
   try go_wp2
   refine bodyPost_ret (results_ct rfl _ _ gb178 25 #[.bool false, .int .u64 0, .int .u64 0] (0, 0) _ rfl (by refine zL ?_; refine blk_put (cs := #[.bool false, .int .u64 0, .int .u64 0]) ?_ 2 _ rfl; refine zL ?_; refine blk_put (cs := #[.bool false, .int .u64 0, .int .u64 0]) ?_ 1 _ rfl; refine zL ?_; refine blk_put (cs := #[.bool false, .int .u64 0, .int .u64 0]) ?_ 0 _ rfl; refine zL ?_; exact BK178.out) Tryd.underlying25 rfl (by kernel_rfl)) rfl ?_
   exact ⟨by first | rfl | (simp [errW_none, errW_some] <;> rfl) | (simp [*, errW_none, errW_some] <;> rfl), by repeat (first | (with_reducible first | exact HB.out | apply below_alloc | apply pw_below_drewN | apply below_drew1 | refine below_set ?_ GE177.out | refine below_set ?_ GE178.out) | exact HB.out)⟩
 · rw [if_neg c3] at H
   have c3b0 : (a0_0 == t179 && (a0_1 == t180 && (a0_2 == t181))) = false := by simpa using c3
   (try (have c3b1 : decide (a0_0 = t179 && (a0_1 == t180 && (a0_2 == t181))) = false := by first | (simpa using c3) | exact decide_eq_true (Decidable.not_not.1 (fun hn => c3 (bne_iff_ne.2 hn))) | exact beq_iff_eq.2 (Decidable.not_not.1 (fun hn => c3 (bne_iff_ne.2 hn))) | exact decide_eq_false (bne_iff_ne.1 c3) | exact beq_eq_false_iff_ne.2 (bne_iff_ne.1 c3) | exact bne_iff_ne.1 c3))
   (try (have c3b2 : (a0_0 == t179 && (a0_1 == t180 && (a0_2 == t181))) = false := by first | (simpa using c3) | exact decide_eq_true (Decidable.not_not.1 (fun hn => c3 (bne_iff_ne.2 hn))) | exact beq_iff_eq.2 (Decidable.not_not.1 (fun hn => c3 (bne_iff_ne.2 hn))) | exact decide_eq_false (bne_iff_ne.1 c3) | exact beq_eq_false_iff_ne.2 (bne_iff_ne.1 c3) | exact bne_iff_ne.1 c3))
   (try (have c3b3 : ¬ (a0_0 = t179 && (a0_1 == t180 && (a0_2 == t181))) := by first | (simpa using c3) | exact decide_eq_true (Decidable.not_not.1 (fun hn => c3 (bne_iff_ne.2 hn))) | exact beq_iff_eq.2 (Decidable.not_not.1 (fun hn => c3 (bne_iff_ne.2 hn))) | exact decide_eq_false (bne_iff_ne.1 c3) | exact beq_eq_false_iff_ne.2 (bne_iff_ne.1 c3) | exact bne_iff_ne.1 c3))
   clear c3
   by_cases c10 : (IntKind.u64.wrap (a0_2 + 1)) = 0
   · rw [if_pos c10] at H
     have c10b0 : ((IntKind.u64.wrap (a0_2 + 1)) == 0) = true := beq_iff_eq.mpr c10
     have c10b1 : ((IntKind.u64.wrap (a0_2 + 1)) != 0) = false := bne_eq_false_iff_eq.mpr c10
     clear c10
     simp only [Option.some.injEq, Prod.mk.injEq] at H
     obtain ⟨rfl, rfl, rfl, rfl⟩ := H
     go_enter Tryd.func16, Tryd.ntmps16
     try go_wp2_with (first | ((with_reducible refine gate_dst (N := 1) rfl ?_); refine zx 1 #[.bool a0_0, .int .u64 a0_1, .int .u64 a0_2] 25 ?_; intro gb177 hg w11 hbox hb; have BK177 := Aside0.mk (hbox); have GW177 := Aside0.mk ((by rw [hg]; exact (below_size (zB HB)) : w.heap.size ≤ gb177)); have GE177 := Aside0.mk ((by rw [hg]; exact (below_size (zB HB)) : w.heap.size ≤ gb177)); replace HB := Aside0.mk (below_step (zB HB) hb); clear hb hbox hg) | ((with_reducible refine gate_dst (N := 2) rfl ?_); refine zx 2 #[.bool false, .int .u64 0, .int .u64 0] 25 ?_; intro gb178 hg w12 hbox hb; have BK178 := Aside0.mk (hbox); have GW178 := Aside0.mk ((by rw [hg]; exact (below_size (zB HB)) : w.heap.size ≤ gb178)); have GE178 := Aside0.mk ((by rw [hg]; exact (below_size (zB HB)) : w.heap.size ≤ gb178)); replace HB := Aside0.mk (below_step (zB HB) hb); have NB177_178 := Aside0.mk ((by rw [hg]; exact Nat.ne_of_lt (blk_lt (g := gb177) (o := .cells #[.bool a0_0, .int .u64 a0_1, .int .u64 a0_2] 25 (0, 0)) (zK BK177)) : gb177 ≠ gb178)); have NB178_177 := Aside0.mk ((by rw [hg]; exact Nat.ne_of_gt (blk_lt (g := gb177) (o := .cells #[.bool a0_0, .int .u64 a0_1, .int .u64 a0_2] 25 (0, 0)) (zK BK177)) : gb178 ≠ gb177)); replace BK177 := Aside0.mk (blk_below (g := gb177) (o := .cells #[.bool a0_0, .int .u64 a0_1, .int .u64 a0_2] 25 (0, 0)) (zK BK177) hb); clear hb hbox hg))
     replace BK177 := Aside0.mk (blk_drew BK177.out)
     replace BK178 := Aside0.mk (blk_drew BK178.out)
     replace HB := Aside0.mk (below_drew1 HB.out)
     refine start_ (n := 5) (S := fun w' => w'.cell? ⟨gb177, 0, none⟩ = some (.bool a0_0) ∧ w'.cell? ⟨gb177, 1, none⟩ = some (.int .u64 a0_1) ∧ w'.cell? ⟨gb177, 2, none⟩ = some (.int .u64 a0_2)) (ds := []) #[false, false, false, false, false] (by kernel_rfl) rfl rfl ⟨zc BK177 0, zc BK177 1, zc BK177 2⟩ (fun hHeld => ?_)
     generalize w12.drew = w13 at BK177 BK178 HB hHeld ⊢
     refine zp0 1 5 ?_; refine zt0 0 4 hHeld ?_; refine zt0 2 6 hHeld ?_; refine zo0 3 7 (fun K hK => ?_)
     refine zg Tryd.func49 #[.bool a0_0] ?_
     with_reducible refine (address_last.calls a0_0 t179 t180 t181 _ A2.out).mono ?_
     rintro e w14 ⟨rfl, hb⟩
     refine ⟨_, rfl, ?_⟩
     replace BK177 := Aside0.mk (blk_below (g := gb177) (o := .cells #[.bool a0_0, .int .u64 a0_1, .int .u64 a0_2] 25 (0, 0)) (zK BK177) hb)
     replace BK178 := Aside0.mk (blk_below (g := gb178) (o := .cells #[.bool false, .int .u64 0, .int .u64 0] 25 (0, 0)) (zK BK178) hb)
     replace HB := Aside0.mk (below_step (zB HB) hb)
     (try clear hb)
     refine hK.out _ _ ⟨zc BK177 0, zc BK177 1, zc BK177 2⟩ (fun hHeld => ?_)
     clear hK K
     refine zn 7 ?_; refine zp0 4 8 ?_; refine zd0 ?_
     have hnb15 := NB177_178.out
     have hnc15 := NB178_177.out
     obtain ⟨hcz16_0, hcz16_1, hcz16_2⟩ := zc3 BK177
     obtain ⟨hfz16_0, hfz16_1, hfz16_2⟩ := zf3 BK177
     obtain ⟨hcz17_0, hcz17_1, hcz17_2⟩ := zc3 BK178
     obtain ⟨hfz17_0, hfz17_1, hfz17_2⟩ := zf3 BK178
     try go_wp2
     refine bodyPost_ret (results_ct rfl _ _ gb178 25 #[.bool a0_0, .int .u64 (IntKind.u64.wrap (a0_1 + 1)), .int .u64 (IntKind.u64.wrap (a0_2 + 1))] (0, 0) _ rfl (by refine zL ?_; refine blk_put (cs := #[.bool a0_0, .int .u64 (IntKind.u64.wrap (a0_1 + 1)), .int .u64 0]) ?_ 2 _ rfl; refine zL ?_; refine blk_put (cs := #[.bool a0_0, .int .u64 0, .int .u64 0]) ?_ 1 _ rfl; refine zL ?_; refine blk_put (cs := #[.bool false, .int .u64 0, .int .u64 0]) ?_ 0 _ rfl; refine zL ?_; refine blk_far ?_ NB178_177.out _; refine zL ?_; refine blk_far ?_ NB178_177.out _; refine zL ?_; exact BK178.out) Tryd.underlying25 rfl (by kernel_rfl)) rfl ?_
     exact ⟨by first | rfl | (simp [errW_none, errW_some] <;> rfl) | (simp [*, errW_none, errW_some] <;> rfl), by repeat (first | (with_reducible first | exact HB.out | apply below_alloc | apply pw_below_drewN | apply below_drew1 | refine below_set ?_ GE177.out | refine below_set ?_ GE178.out) | exact HB.out)⟩
   · rw [if_neg c10] at H
     have c10b0 : ((IntKind.u64.wrap (a0_2 + 1)) == 0) = false := beq_eq_false_iff_ne.mpr c10
     have c10b1 : ((IntKind.u64.wrap (a0_2 + 1)) != 0) = true := bne_iff_ne.mpr c10
     simp only [Option.some.injEq, Prod.mk.injEq] at H
     obtain ⟨rfl, rfl, rfl, rfl⟩ := H
     go_enter Tryd.func16, Tryd.ntmps16
     try go_wp2_with (first | ((with_reducible refine gate_dst (N := 1) rfl ?_); refine zx 1 #[.bool a0_0, .int .u64 a0_1, .int .u64 a0_2] 25 ?_; intro gb177 hg w18 hbox hb; have BK177 := Aside0.mk (hbox); have GW177 := Aside0.mk ((by rw [hg]; exact (below_size (zB HB)) : w.heap.size ≤ gb177)); have GE177 := Aside0.mk ((by rw [hg]; exact (below_size (zB HB)) : w.heap.size ≤ gb177)); replace HB := Aside0.mk (below_step (zB HB) hb); clear hb hbox hg) | ((with_reducible refine gate_dst (N := 2) rfl ?_); refine zx 2 #[.bool false, .int .u64 0, .int .u64 0] 25 ?_; intro gb178 hg w19 hbox hb; have BK178 := Aside0.mk (hbox); have GW178 := Aside0.mk ((by rw [hg]; exact (below_size (zB HB)) : w.heap.size ≤ gb178)); have GE178 := Aside0.mk ((by rw [hg]; exact (below_size (zB HB)) : w.heap.size ≤ gb178)); replace HB := Aside0.mk (below_step (zB HB) hb); have NB177_178 := Aside0.mk ((by rw [hg]; exact Nat.ne_of_lt (blk_lt (g := gb177) (o := .cells #[.bool a0_0, .int .u64 a0_1, .int .u64 a0_2] 25 (0, 0)) (zK BK177)) : gb177 ≠ gb178)); have NB178_177 := Aside0.mk ((by rw [hg]; exact Nat.ne_of_gt (blk_lt (g := gb177) (o := .cells #[.bool a0_0, .int .u64 a0_1, .int .u64 a0_2] 25 (0, 0)) (zK BK177)) : gb178 ≠ gb177)); replace BK177 := Aside0.mk (blk_below (g := gb177) (o := .cells #[.bool a0_0, .int .u64 a0_1, .int .u64 a0_2] 25 (0, 0)) (zK BK177) hb); clear hb hbox hg))
     replace BK177 := Aside0.mk (blk_drew BK177.out)
     replace BK178 := Aside0.mk (blk_drew BK178.out)
     replace HB := Aside0.mk (below_drew1 HB.out)
     refine start_ (n := 5) (S := fun w' => w'.cell? ⟨gb177, 0, none⟩ = some (.bool a0_0) ∧ w'.cell? ⟨gb177, 1, none⟩ = some (.int .u64 a0_1) ∧ w'.cell? ⟨gb177, 2, none⟩ = some (.int .u64 a0_2)) (ds := []) #[false, false, false, false, false] (by kernel_rfl) rfl rfl ⟨zc BK177 0, zc BK177 1, zc BK177 2⟩ (fun hHeld => ?_)
     generalize w19.drew = w20 at BK177 BK178 HB hHeld ⊢
     refine zp0 1 5 ?_; refine zt0 0 4 hHeld ?_; refine zt0 2 6 hHeld ?_; refine zo0 3 7 (fun K hK => ?_)
     refine zg Tryd.func49 #[.bool a0_0] ?_
     with_reducible refine (address_last.calls a0_0 t179 t180 t181 _ A2.out).mono ?_
     rintro e w21 ⟨rfl, hb⟩
     refine ⟨_, rfl, ?_⟩
     replace BK177 := Aside0.mk (blk_below (g := gb177) (o := .cells #[.bool a0_0, .int .u64 a0_1, .int .u64 a0_2] 25 (0, 0)) (zK BK177) hb)
     replace BK178 := Aside0.mk (blk_below (g := gb178) (o := .cells #[.bool false, .int .u64 0, .int .u64 0] 25 (0, 0)) (zK BK178) hb)
     replace HB := Aside0.mk (below_step (zB HB) hb)
     (try clear hb)
     refine hK.out _ _ ⟨zc BK177 0, zc BK177 1, zc BK177 2⟩ (fun hHeld => ?_)
     clear hK K
     refine zn 7 ?_; refine zp0 4 8 ?_; refine zd0 ?_
     have hnb22 := NB177_178.out
     have hnc22 := NB178_177.out
     obtain ⟨hcz23_0, hcz23_1, hcz23_2⟩ := zc3 BK177
     obtain ⟨hfz23_0, hfz23_1, hfz23_2⟩ := zf3 BK177
     obtain ⟨hcz24_0, hcz24_1, hcz24_2⟩ := zc3 BK178
     obtain ⟨hfz24_0, hfz24_1, hfz24_2⟩ := zf3 BK178
     try go_wp2
     refine bodyPost_ret (results_ct rfl _ _ gb178 25 #[.bool a0_0, .int .u64 a0_1, .int .u64 (IntKind.u64.wrap (a0_2 + 1))] (0, 0) _ rfl (by refine zL ?_; refine blk_put (cs := #[.bool a0_0, .int .u64 a0_1, .int .u64 0]) ?_ 2 _ rfl; refine zL ?_; refine blk_put (cs := #[.bool a0_0, .int .u64 0, .int .u64 0]) ?_ 1 _ rfl; refine zL ?_; refine blk_put (cs := #[.bool false, .int .u64 0, .int .u64 0]) ?_ 0 _ rfl; refine zL ?_; refine blk_far ?_ NB178_177.out _; refine zL ?_; exact BK178.out) Tryd.underlying25 rfl (by kernel_rfl)) rfl ?_
     exact ⟨by first | rfl | (simp [errW_none, errW_some] <;> rfl) | (simp [*, errW_none, errW_some] <;> rfl), by repeat (first | (with_reducible first | exact HB.out | apply below_alloc | apply pw_below_drewN | apply below_drew1 | refine below_set ?_ GE177.out | refine below_set ?_ GE178.out) | exact HB.out)⟩
end Go.Proofs.YtlgfinnldhjgeaaDoor.Q
end
