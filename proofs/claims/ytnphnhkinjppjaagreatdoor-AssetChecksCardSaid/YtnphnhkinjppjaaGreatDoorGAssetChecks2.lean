/- The law AssetChecks answers true for every input and leaves its arguments as they were. No condition. (Part 2 of 6: the kit's printed words and walks, hand-made contracts and plain laws, joined in build order, without what the theorem does not reach.) -/
import Derived.Shelf.Strings.BuilderK
import Derived.Test.YtnphnhkinjppjaaGreatDoorGAssetChecks1
set_option linter.unusedVariables false
set_option linter.unusedSimpArgs false
section
set_option maxHeartbeats 8000000
set_option maxRecDepth 100000
namespace Go.Proofs.YtnphnhkinjppjaaGreatDoor.Q
open Go.RowKit Go.Proofs.YtnphnhkinjppjaaGreatDoorW.PrintWords Go.Proofs.YtnphnhkinjppjaaGreatDoorW.PrintLast Go.Proofs.YtnphnhkinjppjaaGreatDoorW.PrintMore
attribute [local go_sem] max2_int min2_int max_two min_two max_three min_three max_four min_four
mutual
def asset_checkOne.j0 : Nat → Bool → ByteArray → Bool → Int → Int → Int → Int → Int → Int → Int → Bool → Int → List (S74) → Option (Int)
  | 0, _, _, _, _, _, _, _, _, _, _, _, _, _ => none
  | k + 1, x15, x120000, x120001, x120002, x120003, x120004, x120005, x120006, x120007, x120008, x120009, x120010, x120011 => if x15 = true then (some 4) else (if x120007 < 0 then (some 4) else (if x120007 > 64 then (some 4) else (if x120008 < 1 then (some 4) else (if x120008 > 8192 then (some 4) else (if x120010 < 0 then (some 4) else (if x120010 > 3 then (some 4) else (asset_checkOne.l0 k x120011 (x120011.length : Int) 0 x120000 x120001 x120002 x120003 x120004 x120005 x120006 x120007 x120008 x120009 x120010 x120011)))))))
def asset_checkOne.l0 : Nat → List (S74) → Int → Int → ByteArray → Bool → Int → Int → Int → Int → Int → Int → Int → Bool → Int → List (S74) → Option (Int)
  | 0, _, _, _, _, _, _, _, _, _, _, _, _, _, _, _ => none
  | k + 1, x64, x65, x66, x120000, x120001, x120002, x120003, x120004, x120005, x120006, x120007, x120008, x120009, x120010, x120011 => if x66 < x65 then (if 0 ≤ x66 then (if x66 < (x64.length : Int) then (if ((rd_T74 x64 x66).f0) = 6 then (if ((rd_T74 x64 x66).f1) < 0 then (some 4) else (if ((rd_T74 x64 x66).f1) > 65535 then (some 4) else (if ((rd_T74 x64 x66).f2) < 0 then (some 4) else (if ((rd_T74 x64 x66).f2) > 4 then (some 4) else (asset_checkOne.l0 k x64 x65 (wrap64 (x66 + 1)) x120000 x120001 x120002 x120003 x120004 x120005 x120006 x120007 x120008 x120009 x120010 x120011))))) else (if ((rd_T74 x64 x66).f0) = 17 then (if ((rd_T74 x64 x66).f1) < 0 then (some 4) else (if ((rd_T74 x64 x66).f1) > 65535 then (some 4) else (if ((rd_T74 x64 x66).f2) < 0 then (some 4) else (if ((rd_T74 x64 x66).f2) > 4 then (some 4) else (asset_checkOne.l0 k x64 x65 (wrap64 (x66 + 1)) x120000 x120001 x120002 x120003 x120004 x120005 x120006 x120007 x120008 x120009 x120010 x120011))))) else (some 4))) else (none)) else (none)) else ((address_ValidPrefix.f x120001 x120002 x120003 x120004).bind fun t123 => (if t123 = true then (some 0) else (some 2)))
end
def asset_checkOne.f (k : Nat) (a0_0 : ByteArray) (a0_1 : Bool) (a0_2 : Int) (a0_3 : Int) (a0_4 : Int) (a0_5 : Int) (a0_6 : Int) (a0_7 : Int) (a0_8 : Int) (a0_9 : Bool) (a0_10 : Int) (l0_11 : List (S74)) : Option (Int) := if (l0_11.length : Int) > 16 then (some 3) else ((lexer_IsName.f k a0_0).bind fun t120 => (if t120 = true then (if a0_5 < 1 then (asset_checkOne.j0 k true a0_0 a0_1 a0_2 a0_3 a0_4 a0_5 a0_6 a0_7 a0_8 a0_9 a0_10 l0_11) else (if a0_5 > 4 then (asset_checkOne.j0 k true a0_0 a0_1 a0_2 a0_3 a0_4 a0_5 a0_6 a0_7 a0_8 a0_9 a0_10 l0_11) else (if a0_6 < 1 then (asset_checkOne.j0 k true a0_0 a0_1 a0_2 a0_3 a0_4 a0_5 a0_6 a0_7 a0_8 a0_9 a0_10 l0_11) else (asset_checkOne.j0 k (decide (a0_6 > 5)) a0_0 a0_1 a0_2 a0_3 a0_4 a0_5 a0_6 a0_7 a0_8 a0_9 a0_10 l0_11)))) else (some 5)))
theorem asset_checkOne.mono_l : ∀ k, (∀ y0 y1 y2 y3 y4 y5 y6 y7 y8 y9 y10 y11 y12, LeO (asset_checkOne.j0 k y0 y1 y2 y3 y4 y5 y6 y7 y8 y9 y10 y11 y12) (asset_checkOne.j0 (k + 1) y0 y1 y2 y3 y4 y5 y6 y7 y8 y9 y10 y11 y12)) ∧ (∀ y0 y1 y2 y3 y4 y5 y6 y7 y8 y9 y10 y11 y12 y13 y14, LeO (asset_checkOne.l0 k y0 y1 y2 y3 y4 y5 y6 y7 y8 y9 y10 y11 y12 y13 y14) (asset_checkOne.l0 (k + 1) y0 y1 y2 y3 y4 y5 y6 y7 y8 y9 y10 y11 y12 y13 y14))
  | 0 => ⟨fun _ _ _ _ _ _ _ _ _ _ _ _ _ r h => by simp [asset_checkOne.j0] at h, fun _ _ _ _ _ _ _ _ _ _ _ _ _ _ _ r h => by simp [asset_checkOne.l0] at h⟩
  | k + 1 => by
    obtain ⟨ih0, ih1⟩ := asset_checkOne.mono_l k
    refine ⟨?_, ?_⟩
    · intro y0 y1 y2 y3 y4 y5 y6 y7 y8 y9 y10 y11 y12
      unfold asset_checkOne.j0
      repeat' first
      | (with_reducible exact ih0 _ _ _ _ _ _ _ _ _ _ _ _ _)
      | (with_reducible exact ih1 _ _ _ _ _ _ _ _ _ _ _ _ _ _ _)
      | (with_reducible exact lexer_IsName.mono _ _)
      | (with_reducible exact LeO.refl _)
      | (with_reducible exact LeO.none _)
      | (with_reducible refine LeO.ite ?_ ?_)
      | (with_reducible refine LeO.bind ?_ (fun _ => ?_))
    · intro y0 y1 y2 y3 y4 y5 y6 y7 y8 y9 y10 y11 y12 y13 y14
      unfold asset_checkOne.l0
      repeat' first
      | (with_reducible exact ih0 _ _ _ _ _ _ _ _ _ _ _ _ _)
      | (with_reducible exact ih1 _ _ _ _ _ _ _ _ _ _ _ _ _ _ _)
      | (with_reducible exact lexer_IsName.mono _ _)
      | (with_reducible exact LeO.refl _)
      | (with_reducible exact LeO.none _)
      | (with_reducible refine LeO.ite ?_ ?_)
      | (with_reducible refine LeO.bind ?_ (fun _ => ?_))
theorem asset_checkOne.mono : ∀ a0 a1 a2 a3 a4 a5 a6 a7 a8 a9 a10 a11 k, LeO (asset_checkOne.f k a0 a1 a2 a3 a4 a5 a6 a7 a8 a9 a10 a11) (asset_checkOne.f (k + 1) a0 a1 a2 a3 a4 a5 a6 a7 a8 a9 a10 a11) := by
  intro a0 a1 a2 a3 a4 a5 a6 a7 a8 a9 a10 a11 k
  obtain ⟨ih0, ih1⟩ := asset_checkOne.mono_l k
  unfold asset_checkOne.f
  repeat' first
      | (with_reducible exact ih0 _ _ _ _ _ _ _ _ _ _ _ _ _)
      | (with_reducible exact ih1 _ _ _ _ _ _ _ _ _ _ _ _ _ _ _)
      | (with_reducible exact lexer_IsName.mono _ _)
      | (with_reducible exact LeO.refl _)
      | (with_reducible exact LeO.none _)
      | (with_reducible refine LeO.ite ?_ ?_)
      | (with_reducible refine LeO.bind ?_ (fun _ => ?_))
theorem asset_checkOne.calls (k : Nat) (a0_0 : ByteArray) (a0_1 : Bool) (a0_2 : Int) (a0_3 : Int) (a0_4 : Int) (a0_5 : Int) (a0_6 : Int) (a0_7 : Int) (a0_8 : Int) (a0_9 : Bool) (a0_10 : Int) (A0_11 : Option Addr) (c0_11 : Nat) (l0_11 : List (S74)) (r : Int) (w : World) (hr0_11 : Kd.C k74 w A0_11 l0_11.length l0_11) (hc0_11 : l0_11.length ≤ c0_11) (h : asset_checkOne.f k a0_0 a0_1 a0_2 a0_3 a0_4 a0_5 a0_6 a0_7 a0_8 a0_9 a0_10 l0_11 = some r) :
 Calls Tryz.prog 30 #[.agg #[.string a0_0, .bool a0_1, .int .u64 a0_2, .int .u64 a0_3, .int .i64 a0_4, .int .i64 a0_5, .int .i64 a0_6, .int .i64 a0_7, .int .i64 a0_8, .bool a0_9, .int .i64 a0_10, .slice A0_11 l0_11.length c0_11]] w fun e w' => e = .returned (.int .i64 r) ∧ Below w.heap.size w w' := by
 have hu36 := Tryz.underlying36
 have hu74 := Tryz.underlying74
 have hu33 := Tryz.underlying33
 have HR0_11 := Aside0.mk hr0_11; have HC0_11 := Aside0.mk hc0_11; clear hr0_11 hc0_11; have HB := Aside0.mk (Below.refl w.heap.size w)
 unfold asset_checkOne.f at h; have H := h
 clear h
 by_cases c2 : (l0_11.length : Int) > 16
 · rw [if_pos c2] at H
   have c2b0 : decide (16 < (l0_11.length : Int)) = true := decide_eq_true c2
   have c2b1 : decide (16 < l0_11.length) = true := decide_eq_true (by omega)
   clear c2
   obtain rfl := Option.some.inj H
   go_enter Tryz.func30, Tryz.ntmps30
   go_wp2_with (first | ((with_reducible refine gate_dst (N := 1) rfl ?_); refine zx 1 #[.string a0_0, .bool a0_1, .int .u64 a0_2, .int .u64 a0_3, .int .i64 a0_4, .int .i64 a0_5, .int .i64 a0_6, .int .i64 a0_7, .int .i64 a0_8, .bool a0_9, .int .i64 a0_10, .slice A0_11 l0_11.length c0_11] 36 ?_; intro gb119 hg w3 hbox hb; have BK119 := Aside0.mk (hbox); have GW119 := zG HB hg; have GE119 := zG HB hg; replace HB := Aside0.mk (below_step (zB HB) hb); clear hb hbox hg; obtain ⟨hcz4_0, hcz4_1, hcz4_2, hcz4_3, hcz4_4, hcz4_5, hcz4_6, hcz4_7, hcz4_8, hcz4_9, hcz4_10, hcz4_11⟩ := zc12 BK119; obtain ⟨hfz4_0, hfz4_1, hfz4_2, hfz4_3, hfz4_4, hfz4_5, hfz4_6, hfz4_7, hfz4_8, hfz4_9, hfz4_10, hfz4_11⟩ := zf12 BK119))
   go_ret
   exact ⟨zr, zB HB⟩
 rw [if_neg c2] at H; have c2b0 : decide (16 < (l0_11.length : Int)) = false := decide_eq_false c2
 have c2b1 : decide (16 < l0_11.length) = false := decide_eq_false (by omega)
 clear c2
 replace H := Option.bind_eq_some_iff.mp H
 obtain ⟨t120, A50, H⟩ := H
 try dsimp only at H
 have A5 := Aside0.mk A50; clear A50
 by_cases c6 : t120 = true
 rotate_left
 · replace c6 := Bool.eq_false_iff.mpr c6
   subst c6; rw [if_neg zF] at H
   obtain rfl := Option.some.inj H
   go_enter Tryz.func30, Tryz.ntmps30
   go_wp2_with (first | ((with_reducible refine gate_dst (N := 1) rfl ?_); refine zx 1 #[.string a0_0, .bool a0_1, .int .u64 a0_2, .int .u64 a0_3, .int .i64 a0_4, .int .i64 a0_5, .int .i64 a0_6, .int .i64 a0_7, .int .i64 a0_8, .bool a0_9, .int .i64 a0_10, .slice A0_11 l0_11.length c0_11] 36 ?_; intro gb119 hg w83 hbox hb; have BK119 := Aside0.mk (hbox); have GW119 := zG HB hg; have GE119 := zG HB hg; replace HB := Aside0.mk (below_step (zB HB) hb); clear hb hbox hg; obtain ⟨hcz84_0, hcz84_1, hcz84_2, hcz84_3, hcz84_4, hcz84_5, hcz84_6, hcz84_7, hcz84_8, hcz84_9, hcz84_10, hcz84_11⟩ := zc12 BK119; obtain ⟨hfz84_0, hfz84_1, hfz84_2, hfz84_3, hfz84_4, hfz84_5, hfz84_6, hfz84_7, hfz84_8, hfz84_9, hfz84_10, hfz84_11⟩ := zf12 BK119) | ((with_reducible refine gate_callee (f := 55) rfl ?_); refine zgl 13 Tryz.func55 #[.string a0_0] ?_; (with_reducible refine (lexer_IsName.calls k a0_0 false _ A5.out).mono ?_); rintro e w' ⟨rfl, ⟨nd, rfl⟩⟩; refine ⟨_, rfl, ?_⟩))
   go_ret
   exact ⟨zr, zB HB⟩
 subst c6
 rw [if_pos rfl] at H; have HC7 := Aside0.mk H; clear H
 go_enter Tryz.func30, Tryz.ntmps30
 go_upto_region 5 with (first | ((with_reducible refine gate_dst (N := 1) rfl ?_); refine zx 1 #[.string a0_0, .bool a0_1, .int .u64 a0_2, .int .u64 a0_3, .int .i64 a0_4, .int .i64 a0_5, .int .i64 a0_6, .int .i64 a0_7, .int .i64 a0_8, .bool a0_9, .int .i64 a0_10, .slice A0_11 l0_11.length c0_11] 36 ?_; intro gb119 hg w8 hbox hb; have BK119 := Aside0.mk (hbox); have GW119 := zG HB hg; have GE119 := zG HB hg; replace HB := Aside0.mk (below_step (zB HB) hb); clear hb hbox hg; obtain ⟨hcz9_0, hcz9_1, hcz9_2, hcz9_3, hcz9_4, hcz9_5, hcz9_6, hcz9_7, hcz9_8, hcz9_9, hcz9_10, hcz9_11⟩ := zc12 BK119; obtain ⟨hfz9_0, hfz9_1, hfz9_2, hfz9_3, hfz9_4, hfz9_5, hfz9_6, hfz9_7, hfz9_8, hfz9_9, hfz9_10, hfz9_11⟩ := zf12 BK119) | ((with_reducible refine gate_callee (f := 55) rfl ?_); refine zgl 13 Tryz.func55 #[.string a0_0] ?_; (with_reducible refine (lexer_IsName.calls k a0_0 true _ A5.out).mono ?_); rintro e w' ⟨rfl, ⟨nd, rfl⟩⟩; refine ⟨_, rfl, ?_⟩))
 (try simp only [Act.put, List.setIfInBounds_toArray, List.set_cons_zero, List.set_cons_succ])
 go_cut [15] (fun v15 wc => ∃ (kq : Nat) (x15_6 : Bool), v15 = .bool x15_6 ∧ Aside0 (asset_checkOne.j0 kq x15_6 a0_0 a0_1 a0_2 a0_3 a0_4 a0_5 a0_6 a0_7 a0_8 a0_9 a0_10 l0_11 = some r) ∧ Aside0 (kq ≤ k) ∧ Aside0 (wc.heap[gb119]? = some (.cells #[.string a0_0, .bool a0_1, .int .u64 a0_2, .int .u64 a0_3, .int .i64 a0_4, .int .i64 a0_5, .int .i64 a0_6, .int .i64 a0_7, .int .i64 a0_8, .bool a0_9, .int .i64 a0_10, (.slice A0_11 l0_11.length c0_11)] 36 (0, 0))) ∧ Aside0 (Below w.heap.size w wc))
 case first =>
  have H := HC7.out
  clear HC7
  by_cases c10 : a0_5 < 1
  · rw [if_pos c10] at H
    have c10b0 : decide (a0_5 < 1) = true := decide_eq_true c10; clear c10
    (first | rw [c10b0] | (simp only [i64_w, i32_w]; rw [c10b0]) | skip)
    have H' := Aside0.mk H
    clear H; obtain ⟨hcz11_0, hcz11_1, hcz11_2, hcz11_3, hcz11_4, hcz11_5, hcz11_6, hcz11_7, hcz11_8, hcz11_9, hcz11_10, hcz11_11⟩ := zc12 BK119; obtain ⟨hfz11_0, hfz11_1, hfz11_2, hfz11_3, hfz11_4, hfz11_5, hfz11_6, hfz11_7, hfz11_8, hfz11_9, hfz11_10, hfz11_11⟩ := zf12 BK119
    go_wp2
    go_meet
    case rel => exact ⟨_, (true), zI, H', ⟨by first | omega | exact Nat.le_refl _⟩, ⟨zK BK119⟩, ⟨zB HB⟩⟩
  rw [if_neg c10] at H
  have c10b0 : decide (a0_5 < 1) = false := decide_eq_false c10; clear c10
  (first | rw [c10b0] | (simp only [i64_w, i32_w]; rw [c10b0]) | skip)
  by_cases c12 : a0_5 > 4
  · rw [if_pos c12] at H
    have c12b0 : decide (4 < a0_5) = true := decide_eq_true c12; clear c12
    have H' := Aside0.mk H
    clear H; obtain ⟨hcz13_0, hcz13_1, hcz13_2, hcz13_3, hcz13_4, hcz13_5, hcz13_6, hcz13_7, hcz13_8, hcz13_9, hcz13_10, hcz13_11⟩ := zc12 BK119; obtain ⟨hfz13_0, hfz13_1, hfz13_2, hfz13_3, hfz13_4, hfz13_5, hfz13_6, hfz13_7, hfz13_8, hfz13_9, hfz13_10, hfz13_11⟩ := zf12 BK119
    go_wp2
    go_meet
    case rel => exact ⟨_, (true), zI, H', ⟨by first | omega | exact Nat.le_refl _⟩, ⟨zK BK119⟩, ⟨zB HB⟩⟩
  rw [if_neg c12] at H
  have c12b0 : decide (4 < a0_5) = false := decide_eq_false c12; clear c12
  by_cases c14 : a0_6 < 1
  · rw [if_pos c14] at H
    have c14b0 : decide (a0_6 < 1) = true := decide_eq_true c14; clear c14
    have H' := Aside0.mk H
    clear H; obtain ⟨hcz15_0, hcz15_1, hcz15_2, hcz15_3, hcz15_4, hcz15_5, hcz15_6, hcz15_7, hcz15_8, hcz15_9, hcz15_10, hcz15_11⟩ := zc12 BK119; obtain ⟨hfz15_0, hfz15_1, hfz15_2, hfz15_3, hfz15_4, hfz15_5, hfz15_6, hfz15_7, hfz15_8, hfz15_9, hfz15_10, hfz15_11⟩ := zf12 BK119
    go_wp2
    go_meet
    case rel => exact ⟨_, (true), zI, H', ⟨by first | omega | exact Nat.le_refl _⟩, ⟨zK BK119⟩, ⟨zB HB⟩⟩
  rw [if_neg c14] at H
  have c14b0 : decide (a0_6 < 1) = false := decide_eq_false c14; clear c14
  have H' := Aside0.mk H
  clear H; obtain ⟨hcz16_0, hcz16_1, hcz16_2, hcz16_3, hcz16_4, hcz16_5, hcz16_6, hcz16_7, hcz16_8, hcz16_9, hcz16_10, hcz16_11⟩ := zc12 BK119; obtain ⟨hfz16_0, hfz16_1, hfz16_2, hfz16_3, hfz16_4, hfz16_5, hfz16_6, hfz16_7, hfz16_8, hfz16_9, hfz16_10, hfz16_11⟩ := zf12 BK119
  go_wp2
  go_meet
  case rel => exact ⟨_, (decide (a0_6 > 5)), zI, H', ⟨by first | omega | exact Nat.le_refl _⟩, ⟨zK BK119⟩, ⟨zB HB⟩⟩
 case rest =>
  clear HC7
  (try clear c2b0); (try clear c2b1); (try clear c6); (try clear hcz9_0 hcz9_1 hcz9_10 hcz9_11 hcz9_2 hcz9_3 hcz9_4 hcz9_5 hcz9_6 hcz9_7 hcz9_8 hcz9_9); (try clear hfz9_0 hfz9_1 hfz9_10 hfz9_11 hfz9_2 hfz9_3 hfz9_4 hfz9_5 hfz9_6 hfz9_7 hfz9_8 hfz9_9)
  obtain ⟨kq, x15_6, rfl, HA, HJ6, BK119, HB⟩ := hcut
  rcases kq with _ | kj6
  · exact absurd HA.out (by simp [asset_checkOne.j0])
  have H := HA.out
  clear HA
  simp only [asset_checkOne.j0] at H
  by_cases c17 : x15_6 = true
  · subst c17
    rw [if_pos rfl] at H
    obtain rfl := Option.some.inj H
    go_wp2
    go_ret
    exact ⟨zr, zB HB⟩
  replace c17 := Bool.eq_false_iff.mpr c17
  subst c17; rw [if_neg zF] at H
  by_cases c18 : a0_7 < 0
  · rw [if_pos c18] at H
    have c18b0 : decide (a0_7 < 0) = true := decide_eq_true c18; clear c18
    obtain rfl := Option.some.inj H
    obtain ⟨hcz19_0, hcz19_1, hcz19_2, hcz19_3, hcz19_4, hcz19_5, hcz19_6, hcz19_7, hcz19_8, hcz19_9, hcz19_10, hcz19_11⟩ := zc12 BK119; obtain ⟨hfz19_0, hfz19_1, hfz19_2, hfz19_3, hfz19_4, hfz19_5, hfz19_6, hfz19_7, hfz19_8, hfz19_9, hfz19_10, hfz19_11⟩ := zf12 BK119
    go_wp2
    go_ret
    exact ⟨zr, zB HB⟩
  rw [if_neg c18] at H
  have c18b0 : decide (a0_7 < 0) = false := decide_eq_false c18; clear c18
  by_cases c20 : a0_7 > 64
  · rw [if_pos c20] at H
    have c20b0 : decide (64 < a0_7) = true := decide_eq_true c20; clear c20
    obtain rfl := Option.some.inj H
    obtain ⟨hcz21_0, hcz21_1, hcz21_2, hcz21_3, hcz21_4, hcz21_5, hcz21_6, hcz21_7, hcz21_8, hcz21_9, hcz21_10, hcz21_11⟩ := zc12 BK119; obtain ⟨hfz21_0, hfz21_1, hfz21_2, hfz21_3, hfz21_4, hfz21_5, hfz21_6, hfz21_7, hfz21_8, hfz21_9, hfz21_10, hfz21_11⟩ := zf12 BK119
    go_wp2
    go_ret
    exact ⟨zr, zB HB⟩
  rw [if_neg c20] at H
  have c20b0 : decide (64 < a0_7) = false := decide_eq_false c20; clear c20
  by_cases c22 : a0_8 < 1
  · rw [if_pos c22] at H
    have c22b0 : decide (a0_8 < 1) = true := decide_eq_true c22; clear c22
    obtain rfl := Option.some.inj H
    obtain ⟨hcz23_0, hcz23_1, hcz23_2, hcz23_3, hcz23_4, hcz23_5, hcz23_6, hcz23_7, hcz23_8, hcz23_9, hcz23_10, hcz23_11⟩ := zc12 BK119; obtain ⟨hfz23_0, hfz23_1, hfz23_2, hfz23_3, hfz23_4, hfz23_5, hfz23_6, hfz23_7, hfz23_8, hfz23_9, hfz23_10, hfz23_11⟩ := zf12 BK119
    go_wp2
    go_ret
    exact ⟨zr, zB HB⟩
  rw [if_neg c22] at H
  have c22b0 : decide (a0_8 < 1) = false := decide_eq_false c22; clear c22
  by_cases c24 : a0_8 > 8192
  · rw [if_pos c24] at H
    have c24b0 : decide (8192 < a0_8) = true := decide_eq_true c24; clear c24
    obtain rfl := Option.some.inj H
    obtain ⟨hcz25_0, hcz25_1, hcz25_2, hcz25_3, hcz25_4, hcz25_5, hcz25_6, hcz25_7, hcz25_8, hcz25_9, hcz25_10, hcz25_11⟩ := zc12 BK119; obtain ⟨hfz25_0, hfz25_1, hfz25_2, hfz25_3, hfz25_4, hfz25_5, hfz25_6, hfz25_7, hfz25_8, hfz25_9, hfz25_10, hfz25_11⟩ := zf12 BK119
    go_wp2
    go_ret
    exact ⟨zr, zB HB⟩
  rw [if_neg c24] at H
  have c24b0 : decide (8192 < a0_8) = false := decide_eq_false c24; clear c24
  by_cases c26 : a0_10 < 0
  · rw [if_pos c26] at H
    have c26b0 : decide (a0_10 < 0) = true := decide_eq_true c26; clear c26
    obtain rfl := Option.some.inj H
    obtain ⟨hcz27_0, hcz27_1, hcz27_2, hcz27_3, hcz27_4, hcz27_5, hcz27_6, hcz27_7, hcz27_8, hcz27_9, hcz27_10, hcz27_11⟩ := zc12 BK119; obtain ⟨hfz27_0, hfz27_1, hfz27_2, hfz27_3, hfz27_4, hfz27_5, hfz27_6, hfz27_7, hfz27_8, hfz27_9, hfz27_10, hfz27_11⟩ := zf12 BK119
    go_wp2
    go_ret
    exact ⟨zr, zB HB⟩
  rw [if_neg c26] at H
  have c26b0 : decide (a0_10 < 0) = false := decide_eq_false c26; clear c26
  by_cases c28 : a0_10 > 3
  · rw [if_pos c28] at H
    have c28b0 : decide (3 < a0_10) = true := decide_eq_true c28; clear c28
    obtain rfl := Option.some.inj H
    obtain ⟨hcz29_0, hcz29_1, hcz29_2, hcz29_3, hcz29_4, hcz29_5, hcz29_6, hcz29_7, hcz29_8, hcz29_9, hcz29_10, hcz29_11⟩ := zc12 BK119; obtain ⟨hfz29_0, hfz29_1, hfz29_2, hfz29_3, hfz29_4, hfz29_5, hfz29_6, hfz29_7, hfz29_8, hfz29_9, hfz29_10, hfz29_11⟩ := zf12 BK119
    go_wp2
    go_ret
    exact ⟨zr, zB HB⟩
  rw [if_neg c28] at H
  have c28b0 : decide (3 < a0_10) = false := decide_eq_false c28; clear c28
  have H' := Aside0.mk H
  clear H; obtain ⟨hcz30_0, hcz30_1, hcz30_2, hcz30_3, hcz30_4, hcz30_5, hcz30_6, hcz30_7, hcz30_8, hcz30_9, hcz30_10, hcz30_11⟩ := zc12 BK119; obtain ⟨hfz30_0, hfz30_1, hfz30_2, hfz30_3, hfz30_4, hfz30_5, hfz30_6, hfz30_7, hfz30_8, hfz30_9, hfz30_10, hfz30_11⟩ := zf12 BK119
  go_wp2
  go_loopg [66] kj6 (fun kq v66 w' => ∃ (x66_2 : Int), v66 = .int .i64 x66_2 ∧ Aside0 (asset_checkOne.l0 kq l0_11 (l0_11.length : Int) x66_2 a0_0 a0_1 a0_2 a0_3 a0_4 a0_5 a0_6 a0_7 a0_8 a0_9 a0_10 l0_11 = some r) ∧ Aside0 (kq ≤ kj6) ∧ Aside0 (w'.heap[gb119]? = some (.cells #[.string a0_0, .bool a0_1, .int .u64 a0_2, .int .u64 a0_3, .int .i64 a0_4, .int .i64 a0_5, .int .i64 a0_6, .int .i64 a0_7, .int .i64 a0_8, .bool a0_9, .int .i64 a0_10, (.slice A0_11 l0_11.length c0_11)] 36 (0, 0))) ∧ Aside0 (Below w.heap.size w w'))
  case atStart => exact ⟨(0), zI, H', ⟨Nat.le_refl _⟩, ⟨zK BK119⟩, ⟨zB HB⟩⟩
  case round =>
   clear H'
   (try clear c17); (try clear c18); (try clear c18b0); (try clear c20); (try clear c20b0); (try clear c22); (try clear c22b0); (try clear c24); (try clear c24b0); (try clear c26); (try clear c26b0); (try clear c28); (try clear c28b0); (try clear hcz30_0 hcz30_1 hcz30_10 hcz30_11 hcz30_2 hcz30_3 hcz30_4 hcz30_5 hcz30_6 hcz30_7 hcz30_8 hcz30_9); (try clear hfz30_0 hfz30_1 hfz30_10 hfz30_11 hfz30_2 hfz30_3 hfz30_4 hfz30_5 hfz30_6 hfz30_7 hfz30_8 hfz30_9)
   obtain ⟨x66_2, rfl, HA, HK2, BK119, HB⟩ := hrel
   rcases gk with _ | k2
   · exact absurd HA.out (by simp [asset_checkOne.l0])
   have H := HA.out
   clear HA
   simp only [asset_checkOne.l0] at H
   by_cases c31 : x66_2 < (l0_11.length : Int)
   rotate_left
   · rw [if_neg c31] at H
     have c31b0 : decide (x66_2 < (l0_11.length : Int)) = false := decide_eq_false c31; clear c31
     replace H := Option.bind_eq_some_iff.mp H
     obtain ⟨t123, A770, H⟩ := H
     try dsimp only at H
     have A77 := Aside0.mk A770; clear A770
     by_cases c78 : t123 = true
     · subst c78
       rw [if_pos rfl] at H
       obtain rfl := Option.some.inj H
       obtain ⟨hcz79_0, hcz79_1, hcz79_2, hcz79_3, hcz79_4, hcz79_5, hcz79_6, hcz79_7, hcz79_8, hcz79_9, hcz79_10, hcz79_11⟩ := zc12 BK119; obtain ⟨hfz79_0, hfz79_1, hfz79_2, hfz79_3, hfz79_4, hfz79_5, hfz79_6, hfz79_7, hfz79_8, hfz79_9, hfz79_10, hfz79_11⟩ := zf12 BK119
       go_wp2_with (first | ((with_reducible refine gate_callee (f := 56) rfl ?_); refine zgl 101 Tryz.func56 #[.agg #[.bool a0_1, .int .u64 a0_2, .int .u64 a0_3, .int .i64 a0_4]] ?_; (with_reducible refine (address_ValidPrefix.calls a0_1 a0_2 a0_3 a0_4 true _ A77.out).mono ?_); rintro e w80 ⟨rfl, hb⟩; refine ⟨_, rfl, ?_⟩; replace BK119 := zkb BK119 hb; replace HB := Aside0.mk (below_step (zB HB) hb); (try clear hb)))
       go_ret
       exact ⟨zr, zB HB⟩
     replace c78 := Bool.eq_false_iff.mpr c78
     subst c78; rw [if_neg zF] at H
     obtain rfl := Option.some.inj H
     obtain ⟨hcz81_0, hcz81_1, hcz81_2, hcz81_3, hcz81_4, hcz81_5, hcz81_6, hcz81_7, hcz81_8, hcz81_9, hcz81_10, hcz81_11⟩ := zc12 BK119; obtain ⟨hfz81_0, hfz81_1, hfz81_2, hfz81_3, hfz81_4, hfz81_5, hfz81_6, hfz81_7, hfz81_8, hfz81_9, hfz81_10, hfz81_11⟩ := zf12 BK119
     go_wp2_with (first | ((with_reducible refine gate_callee (f := 56) rfl ?_); refine zgl 101 Tryz.func56 #[.agg #[.bool a0_1, .int .u64 a0_2, .int .u64 a0_3, .int .i64 a0_4]] ?_; (with_reducible refine (address_ValidPrefix.calls a0_1 a0_2 a0_3 a0_4 false _ A77.out).mono ?_); rintro e w82 ⟨rfl, hb⟩; refine ⟨_, rfl, ?_⟩; replace BK119 := zkb BK119 hb; replace HB := Aside0.mk (below_step (zB HB) hb); (try clear hb)))
     go_ret
     exact ⟨zr, zB HB⟩
   rw [if_pos c31] at H
   have c31b0 : decide (x66_2 < (l0_11.length : Int)) = true := decide_eq_true c31; clear c31
   by_cases c32 : 0 ≤ x66_2
   rotate_left
   · rw [if_neg c32] at H
     exact absurd H (by simp)
   rw [if_pos c32] at H
   have c32b0 : decide (0 ≤ x66_2) = true := decide_eq_true c32; clear c32
   by_cases c33 : x66_2 < (l0_11.length : Int)
   rotate_left
   · rw [if_neg c33] at H
     exact absurd H (by simp)
   rw [if_pos c33] at H
   have c33b0 : decide (x66_2 < (l0_11.length : Int)) = true := decide_eq_true c33; clear c33
   by_cases c34 : ((rd_T74 l0_11 x66_2).f0) = 6
   · rw [if_pos c34] at H
     have c34b0 : (((rd_T74 l0_11 x66_2).f0) == 6) = true := beq_iff_eq.mpr c34; have c34b1 : (((rd_T74 l0_11 x66_2).f0) != 6) = false := bne_eq_false_iff_eq.mpr c34; clear c34
     by_cases c35 : ((rd_T74 l0_11 x66_2).f1) < 0
     · rw [if_pos c35] at H
       have c35b0 : decide (((rd_T74 l0_11 x66_2).f1) < 0) = true := decide_eq_true c35; clear c35
       obtain rfl := Option.some.inj H
       have p121 : 0 ≤ (x66_2 : Int) := za
       have q121 : x66_2 < (l0_11.length : Int) := za
       obtain ⟨ad121, e121, hx121_0, hx121_1, hx121_2⟩ := at_T74 HR0_11.out x66_2 p121 q121
       cases e121
       replace hx121_0 := zh HB hx121_0; replace hx121_1 := zh HB hx121_1; replace hx121_2 := zh HB hx121_2
       replace p121 := eq_true p121
       replace q121 := eq_true q121
       go_wp2_with (first | ((with_reducible refine gate_dst (N := 4) rfl ?_); refine zx 4 #[.int .i64 0, .int .i64 0, .int .i64 0] 74 ?_; intro gb122 hg w36 hbox hb; have BK122 := Aside0.mk (hbox); have GW122 := zG HB hg; have GE122 := zG HB hg; replace HB := Aside0.mk (below_step (zB HB) hb); have NB119_122 := Aside0.mk ((by rw [hg]; exact Nat.ne_of_lt (blk_lt (g := gb119) (o := .cells #[.string a0_0, .bool a0_1, .int .u64 a0_2, .int .u64 a0_3, .int .i64 a0_4, .int .i64 a0_5, .int .i64 a0_6, .int .i64 a0_7, .int .i64 a0_8, .bool a0_9, .int .i64 a0_10, .slice (some ad121) l0_11.length c0_11] 36 (0, 0)) (zK BK119)) : gb119 ≠ gb122)); have NB122_119 := Aside0.mk ((by rw [hg]; exact Nat.ne_of_gt (blk_lt (g := gb119) (o := .cells #[.string a0_0, .bool a0_1, .int .u64 a0_2, .int .u64 a0_3, .int .i64 a0_4, .int .i64 a0_5, .int .i64 a0_6, .int .i64 a0_7, .int .i64 a0_8, .bool a0_9, .int .i64 a0_10, .slice (some ad121) l0_11.length c0_11] 36 (0, 0)) (zK BK119)) : gb122 ≠ gb119)); replace BK119 := zkb BK119 hb; clear hb hbox hg; have hnb37 := NB122_119.out; have hnc37 := NB119_122.out; obtain ⟨hcz38_0, hcz38_1, hcz38_2⟩ := zc3 BK122; obtain ⟨hfz38_0, hfz38_1, hfz38_2⟩ := zf3 BK122))
       go_ret
       exact ⟨zr, zB HB⟩
     rw [if_neg c35] at H
     have c35b0 : decide (((rd_T74 l0_11 x66_2).f1) < 0) = false := decide_eq_false c35; clear c35
     by_cases c39 : ((rd_T74 l0_11 x66_2).f1) > 65535
     · rw [if_pos c39] at H
       have c39b0 : decide (65535 < ((rd_T74 l0_11 x66_2).f1)) = true := decide_eq_true c39; clear c39
       obtain rfl := Option.some.inj H
       have p121 : 0 ≤ (x66_2 : Int) := za
       have q121 : x66_2 < (l0_11.length : Int) := za
       obtain ⟨ad121, e121, hx121_0, hx121_1, hx121_2⟩ := at_T74 HR0_11.out x66_2 p121 q121
       cases e121
       replace hx121_0 := zh HB hx121_0; replace hx121_1 := zh HB hx121_1; replace hx121_2 := zh HB hx121_2
       replace p121 := eq_true p121
       replace q121 := eq_true q121
       go_wp2_with (first | ((with_reducible refine gate_dst (N := 4) rfl ?_); refine zx 4 #[.int .i64 0, .int .i64 0, .int .i64 0] 74 ?_; intro gb122 hg w40 hbox hb; have BK122 := Aside0.mk (hbox); have GW122 := zG HB hg; have GE122 := zG HB hg; replace HB := Aside0.mk (below_step (zB HB) hb); have NB119_122 := Aside0.mk ((by rw [hg]; exact Nat.ne_of_lt (blk_lt (g := gb119) (o := .cells #[.string a0_0, .bool a0_1, .int .u64 a0_2, .int .u64 a0_3, .int .i64 a0_4, .int .i64 a0_5, .int .i64 a0_6, .int .i64 a0_7, .int .i64 a0_8, .bool a0_9, .int .i64 a0_10, .slice (some ad121) l0_11.length c0_11] 36 (0, 0)) (zK BK119)) : gb119 ≠ gb122)); have NB122_119 := Aside0.mk ((by rw [hg]; exact Nat.ne_of_gt (blk_lt (g := gb119) (o := .cells #[.string a0_0, .bool a0_1, .int .u64 a0_2, .int .u64 a0_3, .int .i64 a0_4, .int .i64 a0_5, .int .i64 a0_6, .int .i64 a0_7, .int .i64 a0_8, .bool a0_9, .int .i64 a0_10, .slice (some ad121) l0_11.length c0_11] 36 (0, 0)) (zK BK119)) : gb122 ≠ gb119)); replace BK119 := zkb BK119 hb; clear hb hbox hg; have hnb41 := NB122_119.out; have hnc41 := NB119_122.out; obtain ⟨hcz42_0, hcz42_1, hcz42_2⟩ := zc3 BK122; obtain ⟨hfz42_0, hfz42_1, hfz42_2⟩ := zf3 BK122))
       go_ret
       exact ⟨zr, zB HB⟩
     rw [if_neg c39] at H
     have c39b0 : decide (65535 < ((rd_T74 l0_11 x66_2).f1)) = false := decide_eq_false c39; clear c39
     by_cases c43 : ((rd_T74 l0_11 x66_2).f2) < 0
     · rw [if_pos c43] at H
       have c43b0 : decide (((rd_T74 l0_11 x66_2).f2) < 0) = true := decide_eq_true c43; clear c43
       obtain rfl := Option.some.inj H
       have p121 : 0 ≤ (x66_2 : Int) := za
       have q121 : x66_2 < (l0_11.length : Int) := za
       obtain ⟨ad121, e121, hx121_0, hx121_1, hx121_2⟩ := at_T74 HR0_11.out x66_2 p121 q121
       cases e121
       replace hx121_0 := zh HB hx121_0; replace hx121_1 := zh HB hx121_1; replace hx121_2 := zh HB hx121_2
       replace p121 := eq_true p121
       replace q121 := eq_true q121
       go_wp2_with (first | ((with_reducible refine gate_dst (N := 4) rfl ?_); refine zx 4 #[.int .i64 0, .int .i64 0, .int .i64 0] 74 ?_; intro gb122 hg w44 hbox hb; have BK122 := Aside0.mk (hbox); have GW122 := zG HB hg; have GE122 := zG HB hg; replace HB := Aside0.mk (below_step (zB HB) hb); have NB119_122 := Aside0.mk ((by rw [hg]; exact Nat.ne_of_lt (blk_lt (g := gb119) (o := .cells #[.string a0_0, .bool a0_1, .int .u64 a0_2, .int .u64 a0_3, .int .i64 a0_4, .int .i64 a0_5, .int .i64 a0_6, .int .i64 a0_7, .int .i64 a0_8, .bool a0_9, .int .i64 a0_10, .slice (some ad121) l0_11.length c0_11] 36 (0, 0)) (zK BK119)) : gb119 ≠ gb122)); have NB122_119 := Aside0.mk ((by rw [hg]; exact Nat.ne_of_gt (blk_lt (g := gb119) (o := .cells #[.string a0_0, .bool a0_1, .int .u64 a0_2, .int .u64 a0_3, .int .i64 a0_4, .int .i64 a0_5, .int .i64 a0_6, .int .i64 a0_7, .int .i64 a0_8, .bool a0_9, .int .i64 a0_10, .slice (some ad121) l0_11.length c0_11] 36 (0, 0)) (zK BK119)) : gb122 ≠ gb119)); replace BK119 := zkb BK119 hb; clear hb hbox hg; have hnb45 := NB122_119.out; have hnc45 := NB119_122.out; obtain ⟨hcz46_0, hcz46_1, hcz46_2⟩ := zc3 BK122; obtain ⟨hfz46_0, hfz46_1, hfz46_2⟩ := zf3 BK122))
       go_ret
       exact ⟨zr, zB HB⟩
     rw [if_neg c43] at H
     have c43b0 : decide (((rd_T74 l0_11 x66_2).f2) < 0) = false := decide_eq_false c43; clear c43
     by_cases c47 : ((rd_T74 l0_11 x66_2).f2) > 4
     · rw [if_pos c47] at H
       have c47b0 : decide (4 < ((rd_T74 l0_11 x66_2).f2)) = true := decide_eq_true c47; clear c47
       obtain rfl := Option.some.inj H
       have p121 : 0 ≤ (x66_2 : Int) := za
       have q121 : x66_2 < (l0_11.length : Int) := za
       obtain ⟨ad121, e121, hx121_0, hx121_1, hx121_2⟩ := at_T74 HR0_11.out x66_2 p121 q121
       cases e121
       replace hx121_0 := zh HB hx121_0; replace hx121_1 := zh HB hx121_1; replace hx121_2 := zh HB hx121_2
       replace p121 := eq_true p121
       replace q121 := eq_true q121
       go_wp2_with (first | ((with_reducible refine gate_dst (N := 4) rfl ?_); refine zx 4 #[.int .i64 0, .int .i64 0, .int .i64 0] 74 ?_; intro gb122 hg w48 hbox hb; have BK122 := Aside0.mk (hbox); have GW122 := zG HB hg; have GE122 := zG HB hg; replace HB := Aside0.mk (below_step (zB HB) hb); have NB119_122 := Aside0.mk ((by rw [hg]; exact Nat.ne_of_lt (blk_lt (g := gb119) (o := .cells #[.string a0_0, .bool a0_1, .int .u64 a0_2, .int .u64 a0_3, .int .i64 a0_4, .int .i64 a0_5, .int .i64 a0_6, .int .i64 a0_7, .int .i64 a0_8, .bool a0_9, .int .i64 a0_10, .slice (some ad121) l0_11.length c0_11] 36 (0, 0)) (zK BK119)) : gb119 ≠ gb122)); have NB122_119 := Aside0.mk ((by rw [hg]; exact Nat.ne_of_gt (blk_lt (g := gb119) (o := .cells #[.string a0_0, .bool a0_1, .int .u64 a0_2, .int .u64 a0_3, .int .i64 a0_4, .int .i64 a0_5, .int .i64 a0_6, .int .i64 a0_7, .int .i64 a0_8, .bool a0_9, .int .i64 a0_10, .slice (some ad121) l0_11.length c0_11] 36 (0, 0)) (zK BK119)) : gb122 ≠ gb119)); replace BK119 := zkb BK119 hb; clear hb hbox hg; have hnb49 := NB122_119.out; have hnc49 := NB119_122.out; obtain ⟨hcz50_0, hcz50_1, hcz50_2⟩ := zc3 BK122; obtain ⟨hfz50_0, hfz50_1, hfz50_2⟩ := zf3 BK122))
       go_ret
       exact ⟨zr, zB HB⟩
     rw [if_neg c47] at H
     have c47b0 : decide (4 < ((rd_T74 l0_11 x66_2).f2)) = false := decide_eq_false c47; clear c47
     have H' := Aside0.mk H
     clear H
     have p121 : 0 ≤ (x66_2 : Int) := za
     have q121 : x66_2 < (l0_11.length : Int) := za
     obtain ⟨ad121, e121, hx121_0, hx121_1, hx121_2⟩ := at_T74 HR0_11.out x66_2 p121 q121
     cases e121
     replace hx121_0 := zh HB hx121_0; replace hx121_1 := zh HB hx121_1; replace hx121_2 := zh HB hx121_2
     replace p121 := eq_true p121
     replace q121 := eq_true q121
     go_wp2_with (first | ((with_reducible refine gate_dst (N := 4) rfl ?_); refine zx 4 #[.int .i64 0, .int .i64 0, .int .i64 0] 74 ?_; intro gb122 hg w51 hbox hb; have BK122 := Aside0.mk (hbox); have GW122 := zG HB hg; have GE122 := zG HB hg; replace HB := Aside0.mk (below_step (zB HB) hb); have NB119_122 := Aside0.mk ((by rw [hg]; exact Nat.ne_of_lt (blk_lt (g := gb119) (o := .cells #[.string a0_0, .bool a0_1, .int .u64 a0_2, .int .u64 a0_3, .int .i64 a0_4, .int .i64 a0_5, .int .i64 a0_6, .int .i64 a0_7, .int .i64 a0_8, .bool a0_9, .int .i64 a0_10, .slice (some ad121) l0_11.length c0_11] 36 (0, 0)) (zK BK119)) : gb119 ≠ gb122)); have NB122_119 := Aside0.mk ((by rw [hg]; exact Nat.ne_of_gt (blk_lt (g := gb119) (o := .cells #[.string a0_0, .bool a0_1, .int .u64 a0_2, .int .u64 a0_3, .int .i64 a0_4, .int .i64 a0_5, .int .i64 a0_6, .int .i64 a0_7, .int .i64 a0_8, .bool a0_9, .int .i64 a0_10, .slice (some ad121) l0_11.length c0_11] 36 (0, 0)) (zK BK119)) : gb122 ≠ gb119)); replace BK119 := zkb BK119 hb; clear hb hbox hg; have hnb52 := NB122_119.out; have hnc52 := NB119_122.out; obtain ⟨hcz53_0, hcz53_1, hcz53_2⟩ := zc3 BK122; obtain ⟨hfz53_0, hfz53_1, hfz53_2⟩ := zf3 BK122))
     go_roundg k2
     case measure => have := HJ6.out; have := HK2.out; omega
     case rel => exact ⟨(wrap64 (x66_2 + 1)), zI, H', ⟨by have := HJ6.out; have := HK2.out; omega⟩, ⟨by refine zL ?_; refine blk_far ?_ NB119_122.out _; refine zL ?_; refine blk_far ?_ NB119_122.out _; refine zL ?_; refine blk_far ?_ NB119_122.out _; refine zL ?_; exact BK119.out⟩, ⟨zB HB⟩⟩
   rw [if_neg c34] at H
   have c34b0 : (((rd_T74 l0_11 x66_2).f0) == 6) = false := beq_eq_false_iff_ne.mpr c34
   have c34b1 : (((rd_T74 l0_11 x66_2).f0) != 6) = true := bne_iff_ne.mpr c34
   by_cases c54 : ((rd_T74 l0_11 x66_2).f0) = 17
   rotate_left
   · rw [if_neg c54] at H
     have c54b0 : (((rd_T74 l0_11 x66_2).f0) == 17) = false := beq_eq_false_iff_ne.mpr c54
     have c54b1 : (((rd_T74 l0_11 x66_2).f0) != 17) = true := bne_iff_ne.mpr c54
     obtain rfl := Option.some.inj H
     have p121 : 0 ≤ (x66_2 : Int) := za
     have q121 : x66_2 < (l0_11.length : Int) := za
     obtain ⟨ad121, e121, hx121_0, hx121_1, hx121_2⟩ := at_T74 HR0_11.out x66_2 p121 q121
     cases e121
     replace hx121_0 := zh HB hx121_0; replace hx121_1 := zh HB hx121_1; replace hx121_2 := zh HB hx121_2
     replace p121 := eq_true p121
     replace q121 := eq_true q121
     go_wp2_with (first | ((with_reducible refine gate_dst (N := 4) rfl ?_); refine zx 4 #[.int .i64 0, .int .i64 0, .int .i64 0] 74 ?_; intro gb122 hg w74 hbox hb; have BK122 := Aside0.mk (hbox); have GW122 := zG HB hg; have GE122 := zG HB hg; replace HB := Aside0.mk (below_step (zB HB) hb); have NB119_122 := Aside0.mk ((by rw [hg]; exact Nat.ne_of_lt (blk_lt (g := gb119) (o := .cells #[.string a0_0, .bool a0_1, .int .u64 a0_2, .int .u64 a0_3, .int .i64 a0_4, .int .i64 a0_5, .int .i64 a0_6, .int .i64 a0_7, .int .i64 a0_8, .bool a0_9, .int .i64 a0_10, .slice (some ad121) l0_11.length c0_11] 36 (0, 0)) (zK BK119)) : gb119 ≠ gb122)); have NB122_119 := Aside0.mk ((by rw [hg]; exact Nat.ne_of_gt (blk_lt (g := gb119) (o := .cells #[.string a0_0, .bool a0_1, .int .u64 a0_2, .int .u64 a0_3, .int .i64 a0_4, .int .i64 a0_5, .int .i64 a0_6, .int .i64 a0_7, .int .i64 a0_8, .bool a0_9, .int .i64 a0_10, .slice (some ad121) l0_11.length c0_11] 36 (0, 0)) (zK BK119)) : gb122 ≠ gb119)); replace BK119 := zkb BK119 hb; clear hb hbox hg; have hnb75 := NB122_119.out; have hnc75 := NB119_122.out; obtain ⟨hcz76_0, hcz76_1, hcz76_2⟩ := zc3 BK122; obtain ⟨hfz76_0, hfz76_1, hfz76_2⟩ := zf3 BK122))
     go_ret
     exact ⟨zr, zB HB⟩
   rw [if_pos c54] at H
   have c54b0 : (((rd_T74 l0_11 x66_2).f0) == 17) = true := beq_iff_eq.mpr c54; have c54b1 : (((rd_T74 l0_11 x66_2).f0) != 17) = false := bne_eq_false_iff_eq.mpr c54; clear c54
   by_cases c55 : ((rd_T74 l0_11 x66_2).f1) < 0
   · rw [if_pos c55] at H
     have c55b0 : decide (((rd_T74 l0_11 x66_2).f1) < 0) = true := decide_eq_true c55; clear c55
     obtain rfl := Option.some.inj H
     have p121 : 0 ≤ (x66_2 : Int) := za
     have q121 : x66_2 < (l0_11.length : Int) := za
     obtain ⟨ad121, e121, hx121_0, hx121_1, hx121_2⟩ := at_T74 HR0_11.out x66_2 p121 q121
     cases e121
     replace hx121_0 := zh HB hx121_0; replace hx121_1 := zh HB hx121_1; replace hx121_2 := zh HB hx121_2
     replace p121 := eq_true p121
     replace q121 := eq_true q121
     go_wp2_with (first | ((with_reducible refine gate_dst (N := 4) rfl ?_); refine zx 4 #[.int .i64 0, .int .i64 0, .int .i64 0] 74 ?_; intro gb122 hg w56 hbox hb; have BK122 := Aside0.mk (hbox); have GW122 := zG HB hg; have GE122 := zG HB hg; replace HB := Aside0.mk (below_step (zB HB) hb); have NB119_122 := Aside0.mk ((by rw [hg]; exact Nat.ne_of_lt (blk_lt (g := gb119) (o := .cells #[.string a0_0, .bool a0_1, .int .u64 a0_2, .int .u64 a0_3, .int .i64 a0_4, .int .i64 a0_5, .int .i64 a0_6, .int .i64 a0_7, .int .i64 a0_8, .bool a0_9, .int .i64 a0_10, .slice (some ad121) l0_11.length c0_11] 36 (0, 0)) (zK BK119)) : gb119 ≠ gb122)); have NB122_119 := Aside0.mk ((by rw [hg]; exact Nat.ne_of_gt (blk_lt (g := gb119) (o := .cells #[.string a0_0, .bool a0_1, .int .u64 a0_2, .int .u64 a0_3, .int .i64 a0_4, .int .i64 a0_5, .int .i64 a0_6, .int .i64 a0_7, .int .i64 a0_8, .bool a0_9, .int .i64 a0_10, .slice (some ad121) l0_11.length c0_11] 36 (0, 0)) (zK BK119)) : gb122 ≠ gb119)); replace BK119 := zkb BK119 hb; clear hb hbox hg; have hnb57 := NB122_119.out; have hnc57 := NB119_122.out; obtain ⟨hcz58_0, hcz58_1, hcz58_2⟩ := zc3 BK122; obtain ⟨hfz58_0, hfz58_1, hfz58_2⟩ := zf3 BK122))
     go_ret
     exact ⟨zr, zB HB⟩
   rw [if_neg c55] at H
   have c55b0 : decide (((rd_T74 l0_11 x66_2).f1) < 0) = false := decide_eq_false c55; clear c55
   by_cases c59 : ((rd_T74 l0_11 x66_2).f1) > 65535
   · rw [if_pos c59] at H
     have c59b0 : decide (65535 < ((rd_T74 l0_11 x66_2).f1)) = true := decide_eq_true c59; clear c59
     obtain rfl := Option.some.inj H
     have p121 : 0 ≤ (x66_2 : Int) := za
     have q121 : x66_2 < (l0_11.length : Int) := za
     obtain ⟨ad121, e121, hx121_0, hx121_1, hx121_2⟩ := at_T74 HR0_11.out x66_2 p121 q121
     cases e121
     replace hx121_0 := zh HB hx121_0; replace hx121_1 := zh HB hx121_1; replace hx121_2 := zh HB hx121_2
     replace p121 := eq_true p121
     replace q121 := eq_true q121
     go_wp2_with (first | ((with_reducible refine gate_dst (N := 4) rfl ?_); refine zx 4 #[.int .i64 0, .int .i64 0, .int .i64 0] 74 ?_; intro gb122 hg w60 hbox hb; have BK122 := Aside0.mk (hbox); have GW122 := zG HB hg; have GE122 := zG HB hg; replace HB := Aside0.mk (below_step (zB HB) hb); have NB119_122 := Aside0.mk ((by rw [hg]; exact Nat.ne_of_lt (blk_lt (g := gb119) (o := .cells #[.string a0_0, .bool a0_1, .int .u64 a0_2, .int .u64 a0_3, .int .i64 a0_4, .int .i64 a0_5, .int .i64 a0_6, .int .i64 a0_7, .int .i64 a0_8, .bool a0_9, .int .i64 a0_10, .slice (some ad121) l0_11.length c0_11] 36 (0, 0)) (zK BK119)) : gb119 ≠ gb122)); have NB122_119 := Aside0.mk ((by rw [hg]; exact Nat.ne_of_gt (blk_lt (g := gb119) (o := .cells #[.string a0_0, .bool a0_1, .int .u64 a0_2, .int .u64 a0_3, .int .i64 a0_4, .int .i64 a0_5, .int .i64 a0_6, .int .i64 a0_7, .int .i64 a0_8, .bool a0_9, .int .i64 a0_10, .slice (some ad121) l0_11.length c0_11] 36 (0, 0)) (zK BK119)) : gb122 ≠ gb119)); replace BK119 := zkb BK119 hb; clear hb hbox hg; have hnb61 := NB122_119.out; have hnc61 := NB119_122.out; obtain ⟨hcz62_0, hcz62_1, hcz62_2⟩ := zc3 BK122; obtain ⟨hfz62_0, hfz62_1, hfz62_2⟩ := zf3 BK122))
     go_ret
     exact ⟨zr, zB HB⟩
   rw [if_neg c59] at H
   have c59b0 : decide (65535 < ((rd_T74 l0_11 x66_2).f1)) = false := decide_eq_false c59; clear c59
   by_cases c63 : ((rd_T74 l0_11 x66_2).f2) < 0
   · rw [if_pos c63] at H
     have c63b0 : decide (((rd_T74 l0_11 x66_2).f2) < 0) = true := decide_eq_true c63; clear c63
     obtain rfl := Option.some.inj H
     have p121 : 0 ≤ (x66_2 : Int) := za
     have q121 : x66_2 < (l0_11.length : Int) := za
     obtain ⟨ad121, e121, hx121_0, hx121_1, hx121_2⟩ := at_T74 HR0_11.out x66_2 p121 q121
     cases e121
     replace hx121_0 := zh HB hx121_0; replace hx121_1 := zh HB hx121_1; replace hx121_2 := zh HB hx121_2
     replace p121 := eq_true p121
     replace q121 := eq_true q121
     go_wp2_with (first | ((with_reducible refine gate_dst (N := 4) rfl ?_); refine zx 4 #[.int .i64 0, .int .i64 0, .int .i64 0] 74 ?_; intro gb122 hg w64 hbox hb; have BK122 := Aside0.mk (hbox); have GW122 := zG HB hg; have GE122 := zG HB hg; replace HB := Aside0.mk (below_step (zB HB) hb); have NB119_122 := Aside0.mk ((by rw [hg]; exact Nat.ne_of_lt (blk_lt (g := gb119) (o := .cells #[.string a0_0, .bool a0_1, .int .u64 a0_2, .int .u64 a0_3, .int .i64 a0_4, .int .i64 a0_5, .int .i64 a0_6, .int .i64 a0_7, .int .i64 a0_8, .bool a0_9, .int .i64 a0_10, .slice (some ad121) l0_11.length c0_11] 36 (0, 0)) (zK BK119)) : gb119 ≠ gb122)); have NB122_119 := Aside0.mk ((by rw [hg]; exact Nat.ne_of_gt (blk_lt (g := gb119) (o := .cells #[.string a0_0, .bool a0_1, .int .u64 a0_2, .int .u64 a0_3, .int .i64 a0_4, .int .i64 a0_5, .int .i64 a0_6, .int .i64 a0_7, .int .i64 a0_8, .bool a0_9, .int .i64 a0_10, .slice (some ad121) l0_11.length c0_11] 36 (0, 0)) (zK BK119)) : gb122 ≠ gb119)); replace BK119 := zkb BK119 hb; clear hb hbox hg; have hnb65 := NB122_119.out; have hnc65 := NB119_122.out; obtain ⟨hcz66_0, hcz66_1, hcz66_2⟩ := zc3 BK122; obtain ⟨hfz66_0, hfz66_1, hfz66_2⟩ := zf3 BK122))
     go_ret
     exact ⟨zr, zB HB⟩
   rw [if_neg c63] at H
   have c63b0 : decide (((rd_T74 l0_11 x66_2).f2) < 0) = false := decide_eq_false c63; clear c63
   by_cases c67 : ((rd_T74 l0_11 x66_2).f2) > 4
   · rw [if_pos c67] at H
     have c67b0 : decide (4 < ((rd_T74 l0_11 x66_2).f2)) = true := decide_eq_true c67; clear c67
     obtain rfl := Option.some.inj H
     have p121 : 0 ≤ (x66_2 : Int) := za
     have q121 : x66_2 < (l0_11.length : Int) := za
     obtain ⟨ad121, e121, hx121_0, hx121_1, hx121_2⟩ := at_T74 HR0_11.out x66_2 p121 q121
     cases e121
     replace hx121_0 := zh HB hx121_0; replace hx121_1 := zh HB hx121_1; replace hx121_2 := zh HB hx121_2
     replace p121 := eq_true p121
     replace q121 := eq_true q121
     go_wp2_with (first | ((with_reducible refine gate_dst (N := 4) rfl ?_); refine zx 4 #[.int .i64 0, .int .i64 0, .int .i64 0] 74 ?_; intro gb122 hg w68 hbox hb; have BK122 := Aside0.mk (hbox); have GW122 := zG HB hg; have GE122 := zG HB hg; replace HB := Aside0.mk (below_step (zB HB) hb); have NB119_122 := Aside0.mk ((by rw [hg]; exact Nat.ne_of_lt (blk_lt (g := gb119) (o := .cells #[.string a0_0, .bool a0_1, .int .u64 a0_2, .int .u64 a0_3, .int .i64 a0_4, .int .i64 a0_5, .int .i64 a0_6, .int .i64 a0_7, .int .i64 a0_8, .bool a0_9, .int .i64 a0_10, .slice (some ad121) l0_11.length c0_11] 36 (0, 0)) (zK BK119)) : gb119 ≠ gb122)); have NB122_119 := Aside0.mk ((by rw [hg]; exact Nat.ne_of_gt (blk_lt (g := gb119) (o := .cells #[.string a0_0, .bool a0_1, .int .u64 a0_2, .int .u64 a0_3, .int .i64 a0_4, .int .i64 a0_5, .int .i64 a0_6, .int .i64 a0_7, .int .i64 a0_8, .bool a0_9, .int .i64 a0_10, .slice (some ad121) l0_11.length c0_11] 36 (0, 0)) (zK BK119)) : gb122 ≠ gb119)); replace BK119 := zkb BK119 hb; clear hb hbox hg; have hnb69 := NB122_119.out; have hnc69 := NB119_122.out; obtain ⟨hcz70_0, hcz70_1, hcz70_2⟩ := zc3 BK122; obtain ⟨hfz70_0, hfz70_1, hfz70_2⟩ := zf3 BK122))
     go_ret
     exact ⟨zr, zB HB⟩
   rw [if_neg c67] at H
   have c67b0 : decide (4 < ((rd_T74 l0_11 x66_2).f2)) = false := decide_eq_false c67; clear c67
   have H' := Aside0.mk H
   clear H
   have p121 : 0 ≤ (x66_2 : Int) := za
   have q121 : x66_2 < (l0_11.length : Int) := za
   obtain ⟨ad121, e121, hx121_0, hx121_1, hx121_2⟩ := at_T74 HR0_11.out x66_2 p121 q121
   cases e121
   replace hx121_0 := zh HB hx121_0; replace hx121_1 := zh HB hx121_1; replace hx121_2 := zh HB hx121_2
   replace p121 := eq_true p121
   replace q121 := eq_true q121
   go_wp2_with (first | ((with_reducible refine gate_dst (N := 4) rfl ?_); refine zx 4 #[.int .i64 0, .int .i64 0, .int .i64 0] 74 ?_; intro gb122 hg w71 hbox hb; have BK122 := Aside0.mk (hbox); have GW122 := zG HB hg; have GE122 := zG HB hg; replace HB := Aside0.mk (below_step (zB HB) hb); have NB119_122 := Aside0.mk ((by rw [hg]; exact Nat.ne_of_lt (blk_lt (g := gb119) (o := .cells #[.string a0_0, .bool a0_1, .int .u64 a0_2, .int .u64 a0_3, .int .i64 a0_4, .int .i64 a0_5, .int .i64 a0_6, .int .i64 a0_7, .int .i64 a0_8, .bool a0_9, .int .i64 a0_10, .slice (some ad121) l0_11.length c0_11] 36 (0, 0)) (zK BK119)) : gb119 ≠ gb122)); have NB122_119 := Aside0.mk ((by rw [hg]; exact Nat.ne_of_gt (blk_lt (g := gb119) (o := .cells #[.string a0_0, .bool a0_1, .int .u64 a0_2, .int .u64 a0_3, .int .i64 a0_4, .int .i64 a0_5, .int .i64 a0_6, .int .i64 a0_7, .int .i64 a0_8, .bool a0_9, .int .i64 a0_10, .slice (some ad121) l0_11.length c0_11] 36 (0, 0)) (zK BK119)) : gb122 ≠ gb119)); replace BK119 := zkb BK119 hb; clear hb hbox hg; have hnb72 := NB122_119.out; have hnc72 := NB119_122.out; obtain ⟨hcz73_0, hcz73_1, hcz73_2⟩ := zc3 BK122; obtain ⟨hfz73_0, hfz73_1, hfz73_2⟩ := zf3 BK122))
   go_roundg k2
   case measure => have := HJ6.out; have := HK2.out; omega
   case rel => exact ⟨(wrap64 (x66_2 + 1)), zI, H', ⟨by have := HJ6.out; have := HK2.out; omega⟩, ⟨by refine zL ?_; refine blk_far ?_ NB119_122.out _; refine zL ?_; refine blk_far ?_ NB119_122.out _; refine zL ?_; refine blk_far ?_ NB119_122.out _; refine zL ?_; exact BK119.out⟩, ⟨zB HB⟩⟩
end Go.Proofs.YtnphnhkinjppjaaGreatDoor.Q
end

section
set_option maxHeartbeats 8000000
set_option maxRecDepth 100000
namespace Go.Proofs.YtnphnhkinjppjaaGreatDoor.Q
open Go.RowKit Go.Proofs.YtnphnhkinjppjaaGreatDoorW.PrintWords Go.Proofs.YtnphnhkinjppjaaGreatDoorW.PrintLast Go.Proofs.YtnphnhkinjppjaaGreatDoorW.PrintMore
attribute [local go_sem] max2_int min2_int max_two min_two max_three min_three max_four min_four
mutual
def asset_twice.l0 : Nat → List (S74) → List (S74) → Int → Int → Option (Bool)
  | 0, _, _, _, _ => none
  | k + 1, x0, x7, x8, x9 => if x9 < x8 then (if 0 ≤ x9 then (if x9 < (x7.length : Int) then (if x9 ≤ (x0.length : Int) then ((some (x0.take (x9 : Int).toNat : List (S74))).bind fun y127 => (asset_twice.l1 k x0 x7 x8 x9 y127 (y127.length : Int) 0 ((rd_T74 x7 x9).f0) ((rd_T74 x7 x9).f1) ((rd_T74 x7 x9).f2))) else (none)) else (none)) else (none)) else (some false)
def asset_twice.l1 : Nat → List (S74) → List (S74) → Int → Int → List (S74) → Int → Int → Int → Int → Int → Option (Bool)
  | 0, _, _, _, _, _, _, _, _, _, _ => none
  | k + 1, x0, x7, x8, x9, x16, x17, x18, x127000, x127001, x127002 => if x18 < x17 then (if 0 ≤ x18 then (if x18 < (x16.length : Int) then (if x127000 = ((rd_T74 x16 x18).f0) then (if x127001 = ((rd_T74 x16 x18).f1) then (some true) else (asset_twice.l1 k x0 x7 x8 x9 x16 x17 (wrap64 (x18 + 1)) x127000 x127001 x127002)) else (asset_twice.l1 k x0 x7 x8 x9 x16 x17 (wrap64 (x18 + 1)) x127000 x127001 x127002)) else (none)) else (none)) else (asset_twice.l0 k x0 x7 x8 (wrap64 (x9 + 1)))
end
def asset_twice.f (k : Nat) (l0 : List (S74)) : Option (Bool) := asset_twice.l0 k l0 l0 (l0.length : Int) 0
theorem asset_twice.mono_l : ∀ k, (∀ y0 y1 y2 y3, LeO (asset_twice.l0 k y0 y1 y2 y3) (asset_twice.l0 (k + 1) y0 y1 y2 y3)) ∧ (∀ y0 y1 y2 y3 y4 y5 y6 y7 y8 y9, LeO (asset_twice.l1 k y0 y1 y2 y3 y4 y5 y6 y7 y8 y9) (asset_twice.l1 (k + 1) y0 y1 y2 y3 y4 y5 y6 y7 y8 y9))
  | 0 => ⟨fun _ _ _ _ r h => by simp [asset_twice.l0] at h, fun _ _ _ _ _ _ _ _ _ _ r h => by simp [asset_twice.l1] at h⟩
  | k + 1 => by
    obtain ⟨ih0, ih1⟩ := asset_twice.mono_l k
    refine ⟨?_, ?_⟩
    · intro y0 y1 y2 y3
      unfold asset_twice.l0
      repeat' first
      | (with_reducible exact ih0 _ _ _ _)
      | (with_reducible exact ih1 _ _ _ _ _ _ _ _ _ _)
      | (with_reducible exact LeO.refl _)
      | (with_reducible exact LeO.none _)
      | (with_reducible refine LeO.ite ?_ ?_)
      | (with_reducible refine LeO.bind ?_ (fun _ => ?_))
    · intro y0 y1 y2 y3 y4 y5 y6 y7 y8 y9
      unfold asset_twice.l1
      repeat' first
      | (with_reducible exact ih0 _ _ _ _)
      | (with_reducible exact ih1 _ _ _ _ _ _ _ _ _ _)
      | (with_reducible exact LeO.refl _)
      | (with_reducible exact LeO.none _)
      | (with_reducible refine LeO.ite ?_ ?_)
      | (with_reducible refine LeO.bind ?_ (fun _ => ?_))
theorem asset_twice.mono : ∀ a0 k, LeO (asset_twice.f k a0) (asset_twice.f (k + 1) a0) := by
  intro a0 k
  obtain ⟨ih0, ih1⟩ := asset_twice.mono_l k
  unfold asset_twice.f
  repeat' first
      | (with_reducible exact ih0 _ _ _ _)
      | (with_reducible exact ih1 _ _ _ _ _ _ _ _ _ _)
      | (with_reducible exact LeO.refl _)
      | (with_reducible exact LeO.none _)
      | (with_reducible refine LeO.ite ?_ ?_)
      | (with_reducible refine LeO.bind ?_ (fun _ => ?_))
theorem asset_twice.calls (k : Nat) (A0 : Option Addr) (c0 : Nat) (l0 : List (S74)) (r : Bool) (w : World) (hr0 : Kd.C k74 w A0 l0.length l0) (hc0 : l0.length ≤ c0) (h : asset_twice.f k l0 = some r) :
 Calls Tryz.prog 33 #[.slice A0 l0.length c0] w fun e w' => e = .returned (.bool r) ∧ Below w.heap.size w w' := by
 have hu74 := Tryz.underlying74
 have HR0 := Aside0.mk hr0; have HC0 := Aside0.mk hc0; clear hr0 hc0; have HB := Aside0.mk (Below.refl w.heap.size w)
 unfold asset_twice.f at h; have H := h
 clear h
 have H' := Aside0.mk H
 clear H
 go_enter Tryz.func33, Tryz.ntmps33
 go_wp2
 go_loopg [9] k (fun kq v9 w' => ∃ (x9_1 : Int), v9 = .int .i64 x9_1 ∧ Aside0 (asset_twice.l0 kq l0 l0 (l0.length : Int) x9_1 = some r) ∧ Aside0 (kq ≤ k) ∧ Aside0 (Below w.heap.size w w'))
 case atStart => exact ⟨(0), zI, H', ⟨Nat.le_refl _⟩, ⟨zB HB⟩⟩
 case round =>
  clear H'
  obtain ⟨x9_1, rfl, HA, HK1, HB⟩ := hrel
  rcases gk with _ | k1
  · exact absurd HA.out (by simp [asset_twice.l0])
  have H := HA.out
  clear HA
  simp only [asset_twice.l0] at H
  by_cases c2 : x9_1 < (l0.length : Int)
  rotate_left
  · rw [if_neg c2] at H
    have c2b0 : decide (x9_1 < (l0.length : Int)) = false := decide_eq_false c2; clear c2
    obtain rfl := Option.some.inj H
    go_wp2
    go_ret
    exact ⟨zr, zB HB⟩
  rw [if_pos c2] at H
  have c2b0 : decide (x9_1 < (l0.length : Int)) = true := decide_eq_true c2; clear c2
  by_cases c3 : 0 ≤ x9_1
  rotate_left
  · rw [if_neg c3] at H
    exact absurd H (by simp)
  rw [if_pos c3] at H
  have c3b0 : decide (0 ≤ x9_1) = true := decide_eq_true c3; clear c3
  by_cases c4 : x9_1 < (l0.length : Int)
  rotate_left
  · rw [if_neg c4] at H
    exact absurd H (by simp)
  rw [if_pos c4] at H
  have c4b0 : decide (x9_1 < (l0.length : Int)) = true := decide_eq_true c4; clear c4
  have c5b0 := eq_true (of_decide_eq_true (by first | (with_reducible assumption) | assumption) : 0 ≤ x9_1)
  by_cases c6 : x9_1 ≤ (l0.length : Int)
  rotate_left
  · rw [if_neg c6] at H
    exact absurd H (by simp)
  rw [if_pos c6] at H
  have c6b0 := eq_true c6
  have c6b1 : decide (x9_1 ≤ (l0.length : Int)) = true := decide_eq_true c6; clear c6
  obtain ⟨y127, hy127⟩ : ∃ y_ : List (S74), y_ = (l0.take (x9_1 : Int).toNat) := ⟨_, rfl⟩
  rw [← hy127] at H; try dsimp only [Option.bind_some] at H
  have Ny127 := Aside0.mk hy127; clear hy127
  have H' := Aside0.mk H
  clear H
  have p125 : 0 ≤ (x9_1 : Int) := za
  have q125 : x9_1 < (l0.length : Int) := za
  obtain ⟨ad125, e125, hx125_0, hx125_1, hx125_2⟩ := at_T74 HR0.out x9_1 p125 q125
  cases e125
  replace hx125_0 := zh HB hx125_0; replace hx125_1 := zh HB hx125_1; replace hx125_2 := zh HB hx125_2
  replace p125 := eq_true p125
  replace q125 := eq_true q125
  go_wp2_with (first | ((with_reducible refine gate_dst (N := 4) rfl ?_); refine zx 4 #[.int .i64 0, .int .i64 0, .int .i64 0] 74 ?_; intro gb126 hg w7 hbox hb; have BK126 := Aside0.mk (hbox); have GW126 := zG HB hg; have GE126 := zG HB hg; replace HB := Aside0.mk (below_step (zB HB) hb); clear hb hbox hg; obtain ⟨hcz8_0, hcz8_1, hcz8_2⟩ := zc3 BK126; obtain ⟨hfz8_0, hfz8_1, hfz8_2⟩ := zf3 BK126) | ((with_reducible refine gate_store (t := 74) (p := 4) rfl ?_); refine store_event (t := 74) (p := 4) (v := ?vo_w9) (w1 := (((w7.setCell ⟨gb126, 0, none⟩ (.int .i64 ((rd_T74 l0 x9_1).f0))).setCell ⟨gb126, 1, none⟩ (.int .i64 ((rd_T74 l0 x9_1).f1))).setCell ⟨gb126, 2, none⟩ (.int .i64 ((rd_T74 l0 x9_1).f2)))) ?hg ?ho ?hn ?hr ?_; (case ho => rfl); (case hg => rfl); (case hn => rfl); (case hr => first | (go_simp; done) | (go_simp; rfl)); intro w9 hw; replace BK126 : Aside0 (w9.heap[gb126]? = some (.cells #[.int .i64 ((rd_T74 l0 x9_1).f0), .int .i64 ((rd_T74 l0 x9_1).f1), .int .i64 ((rd_T74 l0 x9_1).f2)] 74 (0, 0))) := ⟨(by rw [hw]; exact (by refine zL ?_; refine blk_put (cs := #[.int .i64 ((rd_T74 l0 x9_1).f0), .int .i64 ((rd_T74 l0 x9_1).f1), .int .i64 0]) ?_ 2 _ rfl; refine zL ?_; refine blk_put (cs := #[.int .i64 ((rd_T74 l0 x9_1).f0), .int .i64 0, .int .i64 0]) ?_ 1 _ rfl; refine zL ?_; refine blk_put (cs := #[.int .i64 0, .int .i64 0, .int .i64 0]) ?_ 0 _ rfl; refine zL ?_; exact BK126.out))⟩; replace HB : Aside0 (Below w.heap.size w w9) := ⟨(by rw [hw]; exact (zB HB))⟩; clear hw; have q10 : (x9_1 : Int) ≤ ((l0.length : Int) : Int) := za; obtain ⟨i010, hi010, _, hsz10, _⟩ := info_parts info74; have hroom10 : l0.length ≤ c0 := HC0.out; have hC10 : Kd.C k74 _ (some ad125) l0.length l0 := HR0.out; have hcut10 := cut_to (P := Tryz.prog) 34 74 .i64 Tryz.underlying34 hi010 (some ad125) l0.length c0 x9_1 (of_decide_eq_true (by first | (with_reducible assumption) | assumption)) q10 hroom10; have hr10 := Kd.C_take (m := (x9_1 : Int).toNat) hC10 (by omega); have hy10 : y127.length = (x9_1 : Int).toNat := (by rw [Ny127.out, List.length_take]; omega); rw [← Ny127.out] at hr10; rw [← hy10] at hcut10; have HR130 := Aside0.mk hr10; have HC130 := Aside0.mk (show y127.length ≤ c0 from by omega); clear hr10 hC10 hroom10 hi010 hsz10; have KY10 := Aside0.mk hy10; clear hy10; replace q10 := eq_true q10))
  go_loopg [18] k1 (fun kq v18 w' => ∃ (x18_2 : Int), v18 = .int .i64 x18_2 ∧ Aside0 (asset_twice.l1 kq l0 l0 (l0.length : Int) x9_1 y127 (y127.length : Int) x18_2 ((rd_T74 l0 x9_1).f0) ((rd_T74 l0 x9_1).f1) ((rd_T74 l0 x9_1).f2) = some r) ∧ Aside0 (kq ≤ k1) ∧ Aside0 (w'.heap[gb126]? = some (.cells #[.int .i64 ((rd_T74 l0 x9_1).f0), .int .i64 ((rd_T74 l0 x9_1).f1), .int .i64 ((rd_T74 l0 x9_1).f2)] 74 (0, 0))) ∧ Aside0 (Below w.heap.size w w'))
  case atStart => exact ⟨(0), zI, H', ⟨Nat.le_refl _⟩, ⟨zK BK126⟩, ⟨zB HB⟩⟩
  case round =>
   clear H'
   (try clear c2); (try clear c2b0); (try clear c3); (try clear c3b0); (try clear c4); (try clear c4b0); (try clear c5b0); (try clear c6); (try clear c6b0); (try clear c6b1); (try clear q10); (try clear hcz8_0 hcz8_1 hcz8_2); (try clear hfz8_0 hfz8_1 hfz8_2); (try clear hx125_0); (try clear hx125_1); (try clear hx125_2); (try clear p125); (try clear q125)
   obtain ⟨x18_2, rfl, HA, HK2, BK126, HB⟩ := hrel
   rcases gk with _ | k2
   · exact absurd HA.out (by simp [asset_twice.l1])
   have H := HA.out
   clear HA
   simp only [asset_twice.l1] at H
   by_cases c11 : x18_2 < (y127.length : Int)
   rotate_left
   · rw [if_neg c11] at H
     have c11b0 : decide (x18_2 < (y127.length : Int)) = false := decide_eq_false c11; clear c11
     have H' := Aside0.mk H
     clear H
     go_wp2
     go_roundg k2
     case measure => have := HK1.out; have := HK2.out; omega
     case rel => exact ⟨(wrap64 (x9_1 + 1)), zI, H', ⟨by have := HK1.out; have := HK2.out; omega⟩, ⟨zB HB⟩⟩
   rw [if_pos c11] at H
   have c11b0 : decide (x18_2 < (y127.length : Int)) = true := decide_eq_true c11; clear c11
   by_cases c12 : 0 ≤ x18_2
   rotate_left
   · rw [if_neg c12] at H
     exact absurd H (by simp)
   rw [if_pos c12] at H
   have c12b0 : decide (0 ≤ x18_2) = true := decide_eq_true c12; clear c12
   by_cases c13 : x18_2 < (y127.length : Int)
   rotate_left
   · rw [if_neg c13] at H
     exact absurd H (by simp)
   rw [if_pos c13] at H
   have c13b0 : decide (x18_2 < (y127.length : Int)) = true := decide_eq_true c13; clear c13
   by_cases c14 : ((rd_T74 l0 x9_1).f0) = ((rd_T74 y127 x18_2).f0)
   · rw [if_pos c14] at H
     have c14b0 : (((rd_T74 l0 x9_1).f0) == ((rd_T74 y127 x18_2).f0)) = true := beq_iff_eq.mpr c14; have c14b1 : (((rd_T74 l0 x9_1).f0) != ((rd_T74 y127 x18_2).f0)) = false := bne_eq_false_iff_eq.mpr c14; clear c14
     by_cases c15 : ((rd_T74 l0 x9_1).f1) = ((rd_T74 y127 x18_2).f1)
     · rw [if_pos c15] at H
       have c15b0 : (((rd_T74 l0 x9_1).f1) == ((rd_T74 y127 x18_2).f1)) = true := beq_iff_eq.mpr c15; have c15b1 : (((rd_T74 l0 x9_1).f1) != ((rd_T74 y127 x18_2).f1)) = false := bne_eq_false_iff_eq.mpr c15; clear c15
       obtain rfl := Option.some.inj H
       have p131 : 0 ≤ (x18_2 : Int) := za
       have q131 : x18_2 < (y127.length : Int) := za
       obtain ⟨ad131, e131, hx131_0, hx131_1, hx131_2⟩ := at_T74 HR130.out x18_2 p131 q131
       obtain rfl : ad125 = ad131 := (by injection e131)
       replace hx131_0 := zh HB hx131_0; replace hx131_1 := zh HB hx131_1; replace hx131_2 := zh HB hx131_2
       replace p131 := eq_true p131
       replace q131 := eq_true q131
       go_wp2_with (first | ((with_reducible refine gate_dst (N := 6) rfl ?_); refine zx 6 #[.int .i64 0, .int .i64 0, .int .i64 0] 74 ?_; intro gb132 hg w16 hbox hb; have BK132 := Aside0.mk (hbox); have GW132 := zG HB hg; have GE132 := zG HB hg; replace HB := Aside0.mk (below_step (zB HB) hb); have NB126_132 := Aside0.mk ((by rw [hg]; exact Nat.ne_of_lt (blk_lt (g := gb126) (o := .cells #[.int .i64 ((rd_T74 l0 x9_1).f0), .int .i64 ((rd_T74 l0 x9_1).f1), .int .i64 ((rd_T74 l0 x9_1).f2)] 74 (0, 0)) (zK BK126)) : gb126 ≠ gb132)); have NB132_126 := Aside0.mk ((by rw [hg]; exact Nat.ne_of_gt (blk_lt (g := gb126) (o := .cells #[.int .i64 ((rd_T74 l0 x9_1).f0), .int .i64 ((rd_T74 l0 x9_1).f1), .int .i64 ((rd_T74 l0 x9_1).f2)] 74 (0, 0)) (zK BK126)) : gb132 ≠ gb126)); replace BK126 := zkb BK126 hb; clear hb hbox hg; have hnb17 := NB132_126.out; have hnc17 := NB126_132.out; obtain ⟨hcz18_0, hcz18_1, hcz18_2⟩ := zc3 BK132; obtain ⟨hfz18_0, hfz18_1, hfz18_2⟩ := zf3 BK132; obtain ⟨hcz19_0, hcz19_1, hcz19_2⟩ := zc3 BK126; obtain ⟨hfz19_0, hfz19_1, hfz19_2⟩ := zf3 BK126))
       go_ret
       exact ⟨zr, zB HB⟩
     rw [if_neg c15] at H
     have c15b0 : (((rd_T74 l0 x9_1).f1) == ((rd_T74 y127 x18_2).f1)) = false := beq_eq_false_iff_ne.mpr c15
     have c15b1 : (((rd_T74 l0 x9_1).f1) != ((rd_T74 y127 x18_2).f1)) = true := bne_iff_ne.mpr c15
     have H' := Aside0.mk H
     clear H
     have p131 : 0 ≤ (x18_2 : Int) := za
     have q131 : x18_2 < (y127.length : Int) := za
     obtain ⟨ad131, e131, hx131_0, hx131_1, hx131_2⟩ := at_T74 HR130.out x18_2 p131 q131
     obtain rfl : ad125 = ad131 := (by injection e131)
     replace hx131_0 := zh HB hx131_0; replace hx131_1 := zh HB hx131_1; replace hx131_2 := zh HB hx131_2
     replace p131 := eq_true p131
     replace q131 := eq_true q131
     go_wp2_with (first | ((with_reducible refine gate_dst (N := 6) rfl ?_); refine zx 6 #[.int .i64 0, .int .i64 0, .int .i64 0] 74 ?_; intro gb132 hg w20 hbox hb; have BK132 := Aside0.mk (hbox); have GW132 := zG HB hg; have GE132 := zG HB hg; replace HB := Aside0.mk (below_step (zB HB) hb); have NB126_132 := Aside0.mk ((by rw [hg]; exact Nat.ne_of_lt (blk_lt (g := gb126) (o := .cells #[.int .i64 ((rd_T74 l0 x9_1).f0), .int .i64 ((rd_T74 l0 x9_1).f1), .int .i64 ((rd_T74 l0 x9_1).f2)] 74 (0, 0)) (zK BK126)) : gb126 ≠ gb132)); have NB132_126 := Aside0.mk ((by rw [hg]; exact Nat.ne_of_gt (blk_lt (g := gb126) (o := .cells #[.int .i64 ((rd_T74 l0 x9_1).f0), .int .i64 ((rd_T74 l0 x9_1).f1), .int .i64 ((rd_T74 l0 x9_1).f2)] 74 (0, 0)) (zK BK126)) : gb132 ≠ gb126)); replace BK126 := zkb BK126 hb; clear hb hbox hg; have hnb21 := NB132_126.out; have hnc21 := NB126_132.out; obtain ⟨hcz22_0, hcz22_1, hcz22_2⟩ := zc3 BK132; obtain ⟨hfz22_0, hfz22_1, hfz22_2⟩ := zf3 BK132; obtain ⟨hcz23_0, hcz23_1, hcz23_2⟩ := zc3 BK126; obtain ⟨hfz23_0, hfz23_1, hfz23_2⟩ := zf3 BK126))
     go_roundg k2
     case measure => have := HK1.out; have := HK2.out; omega
     case rel => exact ⟨(wrap64 (x18_2 + 1)), zI, H', ⟨by have := HK1.out; have := HK2.out; omega⟩, ⟨by refine zL ?_; refine blk_far ?_ NB126_132.out _; refine zL ?_; refine blk_far ?_ NB126_132.out _; refine zL ?_; refine blk_far ?_ NB126_132.out _; refine zL ?_; exact BK126.out⟩, ⟨zB HB⟩⟩
   rw [if_neg c14] at H
   have c14b0 : (((rd_T74 l0 x9_1).f0) == ((rd_T74 y127 x18_2).f0)) = false := beq_eq_false_iff_ne.mpr c14
   have c14b1 : (((rd_T74 l0 x9_1).f0) != ((rd_T74 y127 x18_2).f0)) = true := bne_iff_ne.mpr c14
   have H' := Aside0.mk H
   clear H
   have p131 : 0 ≤ (x18_2 : Int) := za
   have q131 : x18_2 < (y127.length : Int) := za
   obtain ⟨ad131, e131, hx131_0, hx131_1, hx131_2⟩ := at_T74 HR130.out x18_2 p131 q131
   obtain rfl : ad125 = ad131 := (by injection e131)
   replace hx131_0 := zh HB hx131_0; replace hx131_1 := zh HB hx131_1; replace hx131_2 := zh HB hx131_2
   replace p131 := eq_true p131
   replace q131 := eq_true q131
   go_wp2_with (first | ((with_reducible refine gate_dst (N := 6) rfl ?_); refine zx 6 #[.int .i64 0, .int .i64 0, .int .i64 0] 74 ?_; intro gb132 hg w24 hbox hb; have BK132 := Aside0.mk (hbox); have GW132 := zG HB hg; have GE132 := zG HB hg; replace HB := Aside0.mk (below_step (zB HB) hb); have NB126_132 := Aside0.mk ((by rw [hg]; exact Nat.ne_of_lt (blk_lt (g := gb126) (o := .cells #[.int .i64 ((rd_T74 l0 x9_1).f0), .int .i64 ((rd_T74 l0 x9_1).f1), .int .i64 ((rd_T74 l0 x9_1).f2)] 74 (0, 0)) (zK BK126)) : gb126 ≠ gb132)); have NB132_126 := Aside0.mk ((by rw [hg]; exact Nat.ne_of_gt (blk_lt (g := gb126) (o := .cells #[.int .i64 ((rd_T74 l0 x9_1).f0), .int .i64 ((rd_T74 l0 x9_1).f1), .int .i64 ((rd_T74 l0 x9_1).f2)] 74 (0, 0)) (zK BK126)) : gb132 ≠ gb126)); replace BK126 := zkb BK126 hb; clear hb hbox hg; have hnb25 := NB132_126.out; have hnc25 := NB126_132.out; obtain ⟨hcz26_0, hcz26_1, hcz26_2⟩ := zc3 BK132; obtain ⟨hfz26_0, hfz26_1, hfz26_2⟩ := zf3 BK132; obtain ⟨hcz27_0, hcz27_1, hcz27_2⟩ := zc3 BK126; obtain ⟨hfz27_0, hfz27_1, hfz27_2⟩ := zf3 BK126))
   go_roundg k2
   case measure => have := HK1.out; have := HK2.out; omega
   case rel => exact ⟨(wrap64 (x18_2 + 1)), zI, H', ⟨by have := HK1.out; have := HK2.out; omega⟩, ⟨by refine zL ?_; refine blk_far ?_ NB126_132.out _; refine zL ?_; refine blk_far ?_ NB126_132.out _; refine zL ?_; refine blk_far ?_ NB126_132.out _; refine zL ?_; exact BK126.out⟩, ⟨zB HB⟩⟩
end Go.Proofs.YtnphnhkinjppjaaGreatDoor.Q
end

section
namespace Go.Proofs.YtnphnhkinjppjaaGreatDoor.Q
open Go.RowKit Go.Proofs.YtnphnhkinjppjaaGreatDoorW.PrintWords Go.Proofs.YtnphnhkinjppjaaGreatDoorW.PrintLast Go.Proofs.YtnphnhkinjppjaaGreatDoorW.PrintMore
attribute [local go_sem] max2_int min2_int max_two min_two max_three min_three max_four min_four
theorem eqA31 (d : Nat) (w : World) (x0 y0 : Bool) (x1 y1 : Int) (x2 y2 : Int) :
    (Op.equalIn (d + 2) 31 (.agg #[.bool x0, .int .u64 x1, .int .u64 x2]) (.agg #[.bool y0, .int .u64 y1, .int .u64 y2])).run Tryz.prog w = .ok (x0 == y0 && (x1 == y1 && (x2 == y2))) w := by
  refine eqA_of Tryz.underlying31 (by kernel_rfl) ?_
  refine eqf_cons (by rfl) (by go_simp; rfl) (by go_simp; rfl) (by go_simp) ?_
  refine eqf_cons (by rfl) (by go_simp; rfl) (by go_simp; rfl) (by go_simp) ?_
  exact eqf_last (by rfl) (by go_simp; rfl) (by go_simp; rfl) (by go_simp)
theorem eqA33 (d : Nat) (w : World) (x0 y0 : Bool) (x1 y1 : Int) (x2 y2 : Int) (x3 y3 : Int) :
    (Op.equalIn (d + 3) 33 (.agg #[.bool x0, .int .u64 x1, .int .u64 x2, .int .i64 x3]) (.agg #[.bool y0, .int .u64 y1, .int .u64 y2, .int .i64 y3])).run Tryz.prog w = .ok ((x0 == y0 && (x1 == y1 && (x2 == y2))) && (x3 == y3)) w := by
  refine eqA_of Tryz.underlying33 (by kernel_rfl) ?_
  refine eqf_cons (by rfl) (by go_simp) (by go_simp) (eqA31 (d + 0) w _ _ _ _ _ _) ?_
  exact eqf_last (by rfl) (by go_simp; rfl) (by go_simp; rfl) (by go_simp)
end Go.Proofs.YtnphnhkinjppjaaGreatDoor.Q
end

section
set_option maxHeartbeats 8000000
set_option maxRecDepth 100000
namespace Go.Proofs.YtnphnhkinjppjaaGreatDoor.Q
open Go.RowKit Go.Proofs.YtnphnhkinjppjaaGreatDoorW.PrintWords Go.Proofs.YtnphnhkinjppjaaGreatDoorW.PrintLast Go.Proofs.YtnphnhkinjppjaaGreatDoorW.PrintMore
abbrev asC (A : S36) (v : Value) : Array Value := #[.string A.f0, .bool A.f1.f0.f0, .int .u64 A.f1.f0.f1, .int .u64 A.f1.f0.f2, .int .i64 A.f1.f1, .int .i64 A.f2, .int .i64 A.f3, .int .i64 A.f4, .int .i64 A.f5, .bool A.f6, .int .i64 A.f7, v]
def clash (b a : S36) : Bool := b.f0.toList == a.f0.toList || ((b.f1.f0.f0 == a.f1.f0.f0 && (b.f1.f0.f1 == a.f1.f0.f1 && (b.f1.f0.f2 == a.f1.f0.f2))) && (b.f1.f1 == a.f1.f1))
attribute [local go_sem high] eqA33
theorem clash_walk (b a : S36) (Ab Aa : Option Addr) (nb cb na ca ga : Nat) (w : World) (ha : w.heap[ga]? = some (.cells (asC a (.slice Aa na ca)) 36 (0, 0))) :
    Calls Tryz.prog 32 #[.agg (asC b (.slice Ab nb cb)), .pointer (some ⟨ga, 0, none⟩)] w fun e w' => e = .returned (.bool (clash b a)) ∧ Below w.heap.size w w' := by
  have hu := Tryz.underlying36
  have hu2 := Tryz.underlying33
  have HX : Aside0 ((w.alloc (.cells (asC b (.slice Ab nb cb)) 36)).heap[w.heap.size]? = some (.cells (asC b (.slice Ab nb cb)) 36 (0, 0))) := ⟨heap_alloc_new _ _⟩
  have HY := Aside0.mk (blk_alloc ha (.cells (asC b (.slice Ab nb cb)) 36))
  have HB := Aside0.mk (below_alloc (Below.refl w.heap.size w) (.cells (asC b (.slice Ab nb cb)) 36))
  clear ha
  go_enter Tryz.func32, Tryz.ntmps32
  go_upto_region 1 with (fail)
  obtain ⟨gb, hgb⟩ : ∃ gb, w.heap.size = gb := ⟨_, rfl⟩
  rw [hgb] at HX
  simp only [hgb]
  clear hgb
  change Code.wp _ _ _ _ (w.alloc (.cells (asC b (.slice Ab nb cb)) 36))
  generalize w.alloc (.cells (asC b (.slice Ab nb cb)) 36) = W at HX HY HB ⊢
  obtain ⟨d0, d1, d2, d3, d4, d5, d6, d7, d8, d9, d10, d11⟩ := zc12 HX
  obtain ⟨x0, x1, x2, x3, x4, x5, x6, x7, x8, x9, x10, x11⟩ := zc12 HY
  cases hn : b.f0.toList == a.f0.toList with
  | true =>
    have HE : Aside0 (clash b a = true) := ⟨by unfold clash; rw [hn]; rfl⟩
    go_wp2
    go_ret
    exact ⟨by rw [HE.out]; rfl, HB.out⟩
  | false =>
    have HE : Aside0 (clash b a = ((b.f1.f0.f0 == a.f1.f0.f0 && (b.f1.f0.f1 == a.f1.f0.f1 && (b.f1.f0.f2 == a.f1.f0.f2))) && (b.f1.f1 == a.f1.f1))) := ⟨by unfold clash; rw [hn]; rfl⟩
    go_wp2
    go_ret
    exact ⟨by rw [HE.out]; rfl, HB.out⟩
def Found (l : List S36) (a : S36) (w : World) (e : Ending) (w' : World) : Prop := ∃ n : Int, e = .returned (.int .i64 n) ∧ decide (n ≥ 0) = l.any (fun b => clash b a) ∧ Below w.heap.size w w'
theorem any_take_snoc (l : List S36) (f : S36 → Bool) (i : Nat) (hi : i < l.length) : (l.take (i + 1)).any f = ((l.take i).any f || f (rd_T36 l (i : Int))) := by
  rw [List.take_succ_eq_append_getElem hi, List.any_append]
  simp only [List.any_cons, List.any_nil, Bool.or_false]
  unfold rd_T36
  rw [Int.toNat_natCast, List.getD_eq_getElem?_getD, List.getElem?_eq_getElem hi, Option.getD_some]
theorem any_of_take (l : List S36) (f : S36 → Bool) (i : Nat) (h : (l.take i).any f = true) : l.any f = true := by
  rw [← List.take_append_drop i l, List.any_append, h]; rfl
theorem idx_walk (l : List S36) (a : S36) (A Aa : Option Addr) (c na ca ga : Nat) (w : World) (hC : Kd.C k36 w A l.length l) (hl : l.length ≤ 1000000) (ha : w.heap[ga]? = some (.cells (asC a (.slice Aa na ca)) 36 (0, 0))) :
    Calls Tryz.prog 57 #[.slice A l.length c, .func (.func 32) #[] #[.pointer (some ⟨ga, 0, none⟩)]] w fun e w' => Found l a w e w' := by
  have hu := Tryz.underlying36
  have HC := Aside0.mk hC
  have HA := Aside0.mk ha
  have HL := Aside0.mk hl
  obtain ⟨n, hn⟩ : ∃ n, l.length = n := ⟨_, rfl⟩
  have HN := Aside0.mk hn
  rw [hn]
  clear hC ha hl hn
  go_enter Tryz.func57, Tryz.ntmps57
  go_upto_region 2 with (fail)
  go_loopg [8] n (fun gg v8 wr => ∃ i : Nat, v8 = .int .i64 (i : Int) ∧ Aside0 (gg = n - i ∧ i ≤ n ∧ (l.take i).any (fun b => clash b a) = false) ∧ Aside0 (Below w.heap.size w wr))
  case atStart => exact ⟨0, rfl, ⟨by omega, by omega, by simp⟩, ⟨Below.refl _ _⟩⟩
  case round =>
    obtain ⟨i, rfl, HI, HB⟩ := hrel
    by_cases hi : i < n
    · have b1 : decide (i < n) = true := decide_eq_true hi
      have b2 : decide ((i : Int) < (n : Int)) = true := decide_eq_true (by omega)
      obtain ⟨ad, Ab, cb, rfl, k0, k1, k2, k3, k4, k5, k6, k7, k8, k9, k10, k11, _⟩ := at_T36 HC.out (i : Int) (by omega) (by rw [HN.out]; omega)
      replace k0 := pw_cell_below HB.out k0
      replace k1 := pw_cell_below HB.out k1
      replace k2 := pw_cell_below HB.out k2
      replace k3 := pw_cell_below HB.out k3
      replace k4 := pw_cell_below HB.out k4
      replace k5 := pw_cell_below HB.out k5
      replace k6 := pw_cell_below HB.out k6
      replace k7 := pw_cell_below HB.out k7
      replace k8 := pw_cell_below HB.out k8
      replace k9 := pw_cell_below HB.out k9
      replace k10 := pw_cell_below HB.out k10
      replace k11 := pw_cell_below HB.out k11
      simp only [Int.toNat_natCast] at k0 k1 k2 k3 k4 k5 k6 k7 k8 k9 k10 k11
      have HA2 := Aside0.mk (blk_below HA.out HB.out)
      have b3 : n ≤ 1000000 := by have := HL.out; have := HN.out; omega
      have HS := Aside0.mk (any_take_snoc l (fun b => clash b a) i (by rw [HN.out]; exact hi))
      have HII := Aside0.mk hi
      obtain ⟨b, hb⟩ : ∃ b, rd_T36 l (i : Int) = b := ⟨_, rfl⟩
      rw [hb] at k0 k1 k2 k3 k4 k5 k6 k7 k8 k9 k10 k11 HS
      clear hb
      go_wp2_with fail
      refine (clash_walk b a Ab Aa b.f8.length cb na ca ga wr HA2.out).mono ?_
      rintro e w2 ⟨rfl, hb2⟩
      have HB2 := Aside0.mk (HB.out.trans (hb2.mono HB.out.size))
      clear hb2 k0 k1 k2 k3 k4 k5 k6 k7 k8 k9 k10 k11
      cases hcl : clash b a with
      | true =>
        have HE : Aside0 (l.any (fun b => clash b a) = true) := ⟨any_of_take l _ (i + 1) (by rw [HS.out, hcl]; simp)⟩
        clear hcl
        go_wp2
        go_ret
        exact ⟨(i : Int), rfl, by rw [HE.out]; exact decide_eq_true (by omega), HB2.out⟩
      | false =>
        have HE : Aside0 (gk - 1 < gk ∧ gk - 1 = n - (i + 1) ∧ i + 1 ≤ n ∧ (l.take (i + 1)).any (fun b => clash b a) = false) := ⟨by have := HI.out.1; omega, by have := HI.out.1; omega, by omega, by rw [HS.out, HI.out.2.2, hcl]; rfl⟩
        clear hcl
        go_wp2
        go_roundg (gk - 1)
        case measure => exact HE.out.1
        case rel => exact ⟨i + 1, by go_num, ⟨HE.out.2⟩, HB2⟩
    · have b1 : decide ((i : Int) < (n : Int)) = false := decide_eq_false (by omega)
      have HE : Aside0 (l.any (fun b => clash b a) = false) := ⟨by have h := HI.out.2.2; rwa [List.take_of_length_le (by have := HN.out; omega)] at h⟩
      go_wp2
      go_ret
      exact ⟨-1, rfl, by rw [HE.out]; rfl, HB.out⟩
theorem has_walk (l : List S36) (a : S36) (A Aa : Option Addr) (c na ca ga : Nat) (w : World) (hC : Kd.C k36 w A l.length l) (hl : l.length ≤ 1000000) (ha : w.heap[ga]? = some (.cells (asC a (.slice Aa na ca)) 36 (0, 0))) :
    Calls Tryz.prog 31 #[.slice A l.length c, .func (.func 32) #[] #[.pointer (some ⟨ga, 0, none⟩)]] w fun e w' => e = .returned (.bool (l.any fun b => clash b a)) ∧ Below w.heap.size w w' := by
  have H := Aside0.mk (idx_walk l a A Aa c na ca ga w hC hl ha)
  obtain ⟨n, hn⟩ : ∃ n, l.length = n := ⟨_, rfl⟩
  rw [hn] at H ⊢
  clear hC hl ha hn
  go_enter Tryz.func31, Tryz.ntmps31
  go_wp2_with fail
  refine H.out.mono ?_
  rintro e w2 ⟨m, rfl, h1, h2⟩
  have H1 := Aside0.mk h1
  have H2 := Aside0.mk h2
  clear h1 h2
  go_wp2
  go_ret
  exact ⟨by rw [← H1.out]; rfl, H2.out⟩
def asset_Check.l0 : Nat → List S36 → Nat → Option Int
  | 0, _, _ => none
  | k + 1, l, i =>
    if i < l.length then
      (asset_checkOne.f k (rd_T36 l (i : Int)).f0 (rd_T36 l (i : Int)).f1.f0.f0 (rd_T36 l (i : Int)).f1.f0.f1 (rd_T36 l (i : Int)).f1.f0.f2 (rd_T36 l (i : Int)).f1.f1 (rd_T36 l (i : Int)).f2 (rd_T36 l (i : Int)).f3 (rd_T36 l (i : Int)).f4 (rd_T36 l (i : Int)).f5 (rd_T36 l (i : Int)).f6 (rd_T36 l (i : Int)).f7 (rd_T36 l (i : Int)).f8).bind fun e =>
        if e = 0 then (if ((l.take i).any fun b => clash b (rd_T36 l (i : Int))) = true then some 7 else (asset_twice.f k (rd_T36 l (i : Int)).f8).bind fun t => if t = true then some 7 else asset_Check.l0 k l (i + 1)) else some e
    else some 0
def asset_Check.f (k : Nat) (l : List S36) : Option Int := if (l.length : Int) > 64 then some 3 else asset_Check.l0 k l 0
theorem asset_Check.mono_l : ∀ (k : Nat) (l : List S36) (i : Nat), LeO (asset_Check.l0 k l i) (asset_Check.l0 (k + 1) l i) := by
  intro k
  induction k with
  | zero => intro l i; exact LeO.none _
  | succ k ih =>
    intro l i
    rw [asset_Check.l0, asset_Check.l0]
    exact LeO.ite (LeO.bind (asset_checkOne.mono _ _ _ _ _ _ _ _ _ _ _ _ _) fun e => LeO.ite (LeO.ite (LeO.refl _) (LeO.bind (asset_twice.mono _ _) fun t => LeO.ite (LeO.refl _) (ih _ _))) (LeO.refl _)) (LeO.refl _)
theorem asset_Check.mono : ∀ l k, LeO (asset_Check.f k l) (asset_Check.f (k + 1) l) := fun l k => LeO.ite (LeO.refl _) (asset_Check.mono_l _ _ _)
theorem check_on {k : Nat} {l : List S36} {i : Nat} {r : Int} (h : asset_Check.l0 k l i = some r) (hi : i < l.length) {b : S36} (hb : rd_T36 l (i : Int) = b) : ∃ k' e, k = k' + 1 ∧ asset_checkOne.f k' b.f0 b.f1.f0.f0 b.f1.f0.f1 b.f1.f0.f2 b.f1.f1 b.f2 b.f3 b.f4 b.f5 b.f6 b.f7 b.f8 = some e ∧ ((¬ e = 0 ∧ e = r) ∨ (e = 0 ∧ ((((l.take i).any fun b' => clash b' b) = true ∧ r = 7) ∨ (((l.take i).any fun b' => clash b' b) = false ∧ ∃ t, asset_twice.f k' b.f8 = some t ∧ ((t = true ∧ r = 7) ∨ (t = false ∧ asset_Check.l0 k' l (i + 1) = some r)))))) := by
  cases k with
  | zero => simp [asset_Check.l0] at h
  | succ k =>
    rw [asset_Check.l0, if_pos hi, hb] at h
    obtain ⟨e, he, h⟩ := Option.bind_eq_some_iff.1 h
    refine ⟨k, e, rfl, he, ?_⟩
    split at h
    · rename_i h0
      refine .inr ⟨h0, ?_⟩
      split at h
      · rename_i h1
        exact .inl ⟨h1, (Option.some.inj h).symm⟩
      · rename_i h1
        obtain ⟨t, ht, h⟩ := Option.bind_eq_some_iff.1 h
        refine .inr ⟨by simpa using h1, t, ht, ?_⟩
        split at h
        · rename_i h2
          exact .inl ⟨h2, (Option.some.inj h).symm⟩
        · rename_i h2
          exact .inr ⟨by simpa using h2, h⟩
    · rename_i h0
      exact .inl ⟨h0, Option.some.inj h⟩
theorem check_fin {k : Nat} {l : List S36} {i : Nat} {r : Int} (h : asset_Check.l0 k l i = some r) (hi : ¬ i < l.length) : r = 0 := by
  cases k with
  | zero => simp [asset_Check.l0] at h
  | succ k => rw [asset_Check.l0, if_neg hi] at h; exact (Option.some.inj h).symm
theorem asset_Check.calls (k : Nat) (A : Option Addr) (c : Nat) (l : List S36) (r : Int) (w : World) (hC : Kd.C k36 w A l.length l) (hc : l.length ≤ c) (h : asset_Check.f k l = some r) :
    Calls Tryz.prog 12 #[.slice A l.length c] w fun e w' => e = .returned (.int .i64 r) ∧ Below w.heap.size w w' := by
  have hu := Tryz.underlying36
  have HC := Aside0.mk hC
  have HCC := Aside0.mk hc
  obtain ⟨n, hn⟩ : ∃ n, l.length = n := ⟨_, rfl⟩
  unfold asset_Check.f at h
  rw [hn] at h hc ⊢
  have HN := Aside0.mk hn
  by_cases h64 : (n : Int) > 64
  · rw [if_pos h64] at h
    have hr := Option.some.inj h
    subst hr
    have b1 : decide ((n : Int) > 64) = true := decide_eq_true h64
    have b2 : decide (64 < n) = true := decide_eq_true (by omega)
    clear hC h h64 hn
    go_enter Tryz.func12, Tryz.ntmps12
    go_wp2
    go_ret
    exact ⟨rfl, Below.refl _ _⟩
  · rw [if_neg h64] at h
    have HK := Aside0.mk h
    have b1 : decide ((n : Int) > 64) = false := decide_eq_false h64
    have H64 : Aside0 (n ≤ 64) := ⟨by omega⟩
    clear hC h h64 hn hc
    go_enter Tryz.func12, Tryz.ntmps12
    go_upto_region 4 with (fail)
    clear b1
    go_loopg [12] k (fun gg v12 wr => ∃ i : Nat, v12 = .int .i64 (i : Int) ∧ Aside0 (asset_Check.l0 gg l i = some r ∧ i ≤ n) ∧ Aside0 (Below w.heap.size w wr))
    case atStart => exact ⟨0, rfl, ⟨HK.out, by omega⟩, ⟨Below.refl _ _⟩⟩
    case round =>
      clear HK
      obtain ⟨i, rfl, HI, HB⟩ := hrel
      by_cases hi : i < n
      · have b2 : decide ((i : Int) < (n : Int)) = true := decide_eq_true (by omega)
        have b2' : decide (i < n) = true := decide_eq_true hi
        obtain ⟨ad, Ab, cb, rfl, k0, k1, k2, k3, k4, k5, k6, k7, k8, k9, k10, k11, kl, kc⟩ := at_T36 HC.out (i : Int) (by omega) (by rw [HN.out]; omega)
        replace k0 := pw_cell_below HB.out k0
        replace k1 := pw_cell_below HB.out k1
        replace k2 := pw_cell_below HB.out k2
        replace k3 := pw_cell_below HB.out k3
        replace k4 := pw_cell_below HB.out k4
        replace k5 := pw_cell_below HB.out k5
        replace k6 := pw_cell_below HB.out k6
        replace k7 := pw_cell_below HB.out k7
        replace k8 := pw_cell_below HB.out k8
        replace k9 := pw_cell_below HB.out k9
        replace k10 := pw_cell_below HB.out k10
        replace k11 := pw_cell_below HB.out k11
        simp only [Int.toNat_natCast] at k0 k1 k2 k3 k4 k5 k6 k7 k8 k9 k10 k11
        obtain ⟨b, hb⟩ : ∃ b, rd_T36 l (i : Int) = b := ⟨_, rfl⟩
        obtain ⟨k', e, hk', hone, hcase⟩ := check_on HI.out.1 (by rw [HN.out]; exact hi) hb
        rw [hb] at k0 k1 k2 k3 k4 k5 k6 k7 k8 k9 k10 k11 kl kc
        subst hk'
        have HKL := Aside0.mk kl
        have HKC := Aside0.mk (Kd.C_below kc HB.out)
        have HONE := Aside0.mk hone
        have HCASE := Aside0.mk hcase
        have HII := Aside0.mk hi
        have HTK : Aside0 ((l.take i).length = i) := ⟨by rw [List.length_take, HN.out]; omega⟩
        have b3 : n ≤ 1000000 := by have := H64.out; omega
        clear kl kc hone hcase hb
        go_upto_region 6 with (fail)
        obtain ⟨ga, hga⟩ : ∃ x, wr.heap.size = x := ⟨_, rfl⟩
        have HA : Aside0 ((wr.alloc (.cells (asC b (.slice Ab b.f8.length cb)) 36)).heap[wr.heap.size]? = some (.cells (asC b (.slice Ab b.f8.length cb)) 36 (0, 0))) := ⟨heap_alloc_new _ _⟩
        rw [hga] at HA
        simp only [hga]
        clear hga k0 k1 k2 k3 k4 k5 k6 k7 k8 k9 k10 k11
        replace HKC := Aside0.mk (Kd.C_below HKC.out (below_alloc (Below.refl _ _) (.cells (asC b (.slice Ab b.f8.length cb)) 36)))
        replace HB := Aside0.mk (below_alloc HB.out (.cells (asC b (.slice Ab b.f8.length cb)) 36))
        change Code.wp _ _ _ _ (wr.alloc (.cells (asC b (.slice Ab b.f8.length cb)) 36))
        generalize wr.alloc (.cells (asC b (.slice Ab b.f8.length cb)) 36) = W1 at HA HKC HB ⊢
        obtain ⟨d0, d1, d2, d3, d4, d5, d6, d7, d8, d9, d10, d11⟩ := zc12 HA
        go_wp2_with fail
        refine (asset_checkOne.calls k' b.f0 b.f1.f0.f0 b.f1.f0.f1 b.f1.f0.f2 b.f1.f1 b.f2 b.f3 b.f4 b.f5 b.f6 b.f7 Ab cb b.f8 e W1 HKC.out HKL.out HONE.out).mono ?_
        rintro r2 w2 ⟨rfl, hb2⟩
        clear d0 d1 d2 d3 d4 d5 d6 d7 d8 d9 d10 d11
        replace HKC := Aside0.mk (Kd.C_below HKC.out hb2)
        replace HA := Aside0.mk (blk_below HA.out hb2)
        replace HB := Aside0.mk (HB.out.trans (hb2.mono HB.out.size))
        clear hb2
        rcases HCASE.out with ⟨h1, h2⟩ | ⟨h1, hcs⟩
        · have b5 : (e != 0) = true := bne_iff_ne.mpr h1
          have HE := Aside0.mk h2
          clear h1 h2
          go_wp2
          go_ret
          exact ⟨by rw [← HE.out]; rfl, HB.out⟩
        · have b5 : (e != 0) = false := by rw [h1]; rfl
          have HCS := Aside0.mk hcs
          clear h1 hcs HCASE
          have hcap : n ≤ c := by have := HCC.out; have := HN.out; omega
          have hin : i ≤ n := Nat.le_of_lt HII.out
          have HTC := Aside0.mk (Kd.C_take (m := i) (Kd.C_below HC.out HB.out) (by rw [HN.out]; exact hin))
          have HHAS := Aside0.mk (has_walk (l.take i) b (some ad) Ab c b.f8.length cb ga w2 HTC.out (by rw [HTK.out]; have := H64.out; omega) HA.out)
          rw [HTK.out] at HHAS
          go_wp2_with fail
          refine HHAS.out.mono ?_
          rintro r3 w3 ⟨rfl, hb3⟩
          replace HKC := Aside0.mk (Kd.C_below HKC.out hb3)
          replace HA := Aside0.mk (blk_below HA.out hb3)
          replace HB := Aside0.mk (HB.out.trans (hb3.mono HB.out.size))
          clear hb3 hcap hin HTC HHAS
          rcases HCS.out with ⟨h1, h2⟩ | ⟨h1, t, ht, hcs⟩
          · have HE := Aside0.mk h2
            rw [h1]
            clear h1 h2 HCS
            go_wp2
            go_ret
            exact ⟨by rw [HE.out]; rfl, HB.out⟩
          · have HT := Aside0.mk ht
            have HCT := Aside0.mk hcs
            rw [h1]
            clear h1 ht hcs HCS
            obtain ⟨d0, d1, d2, d3, d4, d5, d6, d7, d8, d9, d10, d11⟩ := zc12 HA
            go_wp2_with fail
            refine (asset_twice.calls k' Ab cb b.f8 t w3 HKC.out HKL.out HT.out).mono ?_
            rintro r4 w4 ⟨rfl, hb4⟩
            replace HB := Aside0.mk (HB.out.trans (hb4.mono HB.out.size))
            clear hb4 d0 d1 d2 d3 d4 d5 d6 d7 d8 d9 d10 d11
            rcases HCT.out with ⟨h1, h2⟩ | ⟨h1, h2⟩
            · subst h1
              have HE := Aside0.mk h2
              clear h2
              go_wp2
              go_ret
              exact ⟨by rw [HE.out]; rfl, HB.out⟩
            · subst h1
              have HE : Aside0 (asset_Check.l0 k' l (i + 1) = some r ∧ i + 1 ≤ n) := ⟨h2, HII.out⟩
              clear h2
              go_wp2
              go_roundg k'
              case measure => exact Nat.lt_succ_self k'
              case rel => exact ⟨i + 1, by go_num, HE, HB⟩
      · have HE : Aside0 (r = 0) := ⟨check_fin HI.out.1 (by rw [HN.out]; exact hi)⟩
        have b2 : decide ((i : Int) < (n : Int)) = false := decide_eq_false (by omega)
        have b2' : decide (i < n) = false := decide_eq_false hi
        go_wp2
        go_ret
        exact ⟨by rw [HE.out]; rfl, HB.out⟩
end Go.Proofs.YtnphnhkinjppjaaGreatDoor.Q
end

section
set_option maxHeartbeats 8000000
set_option maxRecDepth 100000
namespace Go.Proofs.YtnphnhkinjppjaaGreatDoor.Q
open Go.RowKit Go.Proofs.YtnphnhkinjppjaaGreatDoorW.PrintWords Go.Proofs.YtnphnhkinjppjaaGreatDoorW.PrintLast Go.Proofs.YtnphnhkinjppjaaGreatDoorW.PrintMore
attribute [local go_sem] max2_int min2_int max_two min_two max_three min_three max_four min_four
def r04_Letter.f (a0 : Int) : Option (Bool) := if a0 ≥ 97 then (if a0 ≤ 122 then (some true) else (if a0 ≥ 65 then (some (decide (a0 ≤ 90))) else (some false))) else (if a0 ≥ 65 then (some (decide (a0 ≤ 90))) else (some false))
theorem r04_Letter.calls (a0 : Int) (r : Bool) (w : World) (h : r04_Letter.f a0 = some r) :
 Calls Tryz.prog 58 #[.int .u8 a0] w fun e w' => e = .returned (.bool r) ∧ Drawn0 w w' := by
 unfold r04_Letter.f at h; have H := h
 clear h
 by_cases c2 : a0 ≥ 97
 · rw [if_pos c2] at H
   have c2b0 : decide (97 ≤ a0) = true := decide_eq_true c2; clear c2
   by_cases c3 : a0 ≤ 122
   · rw [if_pos c3] at H
     have c3b0 : decide (a0 ≤ 122) = true := decide_eq_true c3; clear c3
     obtain rfl := Option.some.inj H
     go_enter Tryz.func58, Tryz.ntmps58
     go_wp2
     go_ret
     exact ⟨by first | rfl | (simp; done) | (simp [*]; done), by repeat (first | exact Drawn0.refl _ | apply Drawn0.step)⟩
   rw [if_neg c3] at H
   have c3b0 : decide (a0 ≤ 122) = false := decide_eq_false c3; clear c3
   by_cases c4 : a0 ≥ 65
   · rw [if_pos c4] at H
     have c4b0 : decide (65 ≤ a0) = true := decide_eq_true c4; clear c4
     obtain rfl := Option.some.inj H
     go_enter Tryz.func58, Tryz.ntmps58
     go_wp2
     go_ret
     exact ⟨by first | rfl | (simp; done) | (simp [*]; done), by repeat (first | exact Drawn0.refl _ | apply Drawn0.step)⟩
   rw [if_neg c4] at H
   have c4b0 : decide (65 ≤ a0) = false := decide_eq_false c4; clear c4
   obtain rfl := Option.some.inj H
   go_enter Tryz.func58, Tryz.ntmps58
   go_wp2
   go_ret
   exact ⟨by first | rfl | (simp; done) | (simp [*]; done), by repeat (first | exact Drawn0.refl _ | apply Drawn0.step)⟩
 rw [if_neg c2] at H
 have c2b0 : decide (97 ≤ a0) = false := decide_eq_false c2; clear c2
 by_cases c5 : a0 ≥ 65
 · rw [if_pos c5] at H
   have c5b0 : decide (65 ≤ a0) = true := decide_eq_true c5; clear c5
   obtain rfl := Option.some.inj H
   go_enter Tryz.func58, Tryz.ntmps58
   go_wp2
   go_ret
   exact ⟨by first | rfl | (simp; done) | (simp [*]; done), by repeat (first | exact Drawn0.refl _ | apply Drawn0.step)⟩
 rw [if_neg c5] at H
 have c5b0 : decide (65 ≤ a0) = false := decide_eq_false c5; clear c5
 obtain rfl := Option.some.inj H
 go_enter Tryz.func58, Tryz.ntmps58
 go_wp2
 go_ret
 exact ⟨by first | rfl | (simp; done) | (simp [*]; done), by repeat (first | exact Drawn0.refl _ | apply Drawn0.step)⟩
def r04_Digit.f (a0 : Int) : Option (Bool) := if a0 ≥ 48 then (some (decide (a0 ≤ 57))) else (some false)
theorem r04_Digit.calls (a0 : Int) (r : Bool) (w : World) (h : r04_Digit.f a0 = some r) :
 Calls Tryz.prog 93 #[.int .u8 a0] w fun e w' => e = .returned (.bool r) ∧ Drawn0 w w' := by
 unfold r04_Digit.f at h; have H := h
 clear h
 by_cases c2 : a0 ≥ 48
 · rw [if_pos c2] at H
   have c2b0 : decide (48 ≤ a0) = true := decide_eq_true c2; clear c2
   obtain rfl := Option.some.inj H
   go_enter Tryz.func93, Tryz.ntmps93
   go_wp2
   go_ret
   exact ⟨by first | rfl | (simp; done) | (simp [*]; done), by repeat (first | exact Drawn0.refl _ | apply Drawn0.step)⟩
 rw [if_neg c2] at H
 have c2b0 : decide (48 ≤ a0) = false := decide_eq_false c2; clear c2
 obtain rfl := Option.some.inj H
 go_enter Tryz.func93, Tryz.ntmps93
 go_wp2
 go_ret
 exact ⟨by first | rfl | (simp; done) | (simp [*]; done), by repeat (first | exact Drawn0.refl _ | apply Drawn0.step)⟩
def r04_inName.f (a0 : Int) : Option (Bool) := (r04_Letter.f a0).bind fun t287 => (if t287 = true then (some true) else ((r04_Digit.f a0).bind fun t288 => (if t288 = true then (some true) else (some (a0 == 95)))))
theorem r04_inName.calls (a0 : Int) (r : Bool) (w : World) (h : r04_inName.f a0 = some r) :
 Calls Tryz.prog 59 #[.int .u8 a0] w fun e w' => e = .returned (.bool r) ∧ Drawn0 w w' := by
 unfold r04_inName.f at h; have H := h
 clear h
 replace H := Option.bind_eq_some_iff.mp H
 obtain ⟨t287, A20, H⟩ := H
 try dsimp only at H
 have A2 := Aside0.mk A20; clear A20
 by_cases c3 : t287 = true
 · subst c3
   rw [if_pos rfl] at H
   obtain rfl := Option.some.inj H
   go_enter Tryz.func59, Tryz.ntmps59
   go_wp2_with (first | ((with_reducible refine gate_callee (f := 58) rfl ?_); refine zgl 4 Tryz.func58 #[.int .u8 a0] ?_; (with_reducible refine (r04_Letter.calls a0 true _ A2.out).mono ?_); rintro e w' ⟨rfl, ⟨nd, rfl⟩⟩; refine ⟨_, rfl, ?_⟩))
   go_ret
   exact ⟨by first | rfl | (simp; done) | (simp [*]; done), by repeat (first | exact Drawn0.refl _ | apply Drawn0.step)⟩
 replace c3 := Bool.eq_false_iff.mpr c3
 subst c3; rw [if_neg zF] at H
 replace H := Option.bind_eq_some_iff.mp H
 obtain ⟨t288, A40, H⟩ := H
 try dsimp only at H
 have A4 := Aside0.mk A40; clear A40
 by_cases c5 : t288 = true
 · subst c5
   rw [if_pos rfl] at H
   obtain rfl := Option.some.inj H
   go_enter Tryz.func59, Tryz.ntmps59
   go_wp2_with (first | ((with_reducible refine gate_callee (f := 58) rfl ?_); refine zgl 4 Tryz.func58 #[.int .u8 a0] ?_; (with_reducible refine (r04_Letter.calls a0 false _ A2.out).mono ?_); rintro e w' ⟨rfl, ⟨nd, rfl⟩⟩; refine ⟨_, rfl, ?_⟩) | (go_at_call 93; (with_reducible refine (r04_Digit.calls a0 true _ A4.out).mono ?_); rintro e w' ⟨rfl, ⟨nd, rfl⟩⟩))
   go_ret
   exact ⟨by first | rfl | (simp; done) | (simp [*]; done), by repeat (first | exact Drawn0.refl _ | apply Drawn0.step)⟩
 replace c5 := Bool.eq_false_iff.mpr c5
 subst c5; rw [if_neg zF] at H
 obtain rfl := Option.some.inj H
 go_enter Tryz.func59, Tryz.ntmps59
 go_wp2_with (first | ((with_reducible refine gate_callee (f := 58) rfl ?_); refine zgl 4 Tryz.func58 #[.int .u8 a0] ?_; (with_reducible refine (r04_Letter.calls a0 false _ A2.out).mono ?_); rintro e w' ⟨rfl, ⟨nd, rfl⟩⟩; refine ⟨_, rfl, ?_⟩) | (go_at_call 93; (with_reducible refine (r04_Digit.calls a0 false _ A4.out).mono ?_); rintro e w' ⟨rfl, ⟨nd, rfl⟩⟩))
 go_ret
 exact ⟨by first | rfl | (simp; done) | (simp [*]; done), by repeat (first | exact Drawn0.refl _ | apply Drawn0.step)⟩
end Go.Proofs.YtnphnhkinjppjaaGreatDoor.Q
end

section
set_option maxHeartbeats 8000000
set_option maxRecDepth 100000
namespace Go.Proofs.YtnphnhkinjppjaaGreatDoor.Q
open Go.RowKit Go.Proofs.YtnphnhkinjppjaaGreatDoorW.PrintWords Go.Proofs.YtnphnhkinjppjaaGreatDoorW.PrintLast Go.Proofs.YtnphnhkinjppjaaGreatDoorW.PrintMore
attribute [local go_sem] max2_int min2_int max_two min_two max_three min_three max_four min_four
mutual
def r04_IsName.j0 : Nat → ByteArray → Bool → Option (Bool)
  | 0, _, _ => none
  | k + 1, x0, x16 => if x16 = true then (some false) else (r04_IsName.l0 k x0 0)
def r04_IsName.l0 : Nat → ByteArray → Int → Option (Bool)
  | 0, _, _ => none
  | k + 1, x0, x3 => if x3 < (x0.size : Int) then (if 0 ≤ x3 then ((r04_inName.f (bt x0 x3)).bind fun t290 => (if t290 = true then (r04_IsName.l0 k x0 (wrap64 (x3 + 1))) else (some false))) else (none)) else (some true)
end
def r04_IsName.f (k : Nat) (a0 : ByteArray) : Option (Bool) := if a0.toList = ([] : List UInt8) then (r04_IsName.j0 k a0 true) else (if (a0.size : Int) > 32 then (r04_IsName.j0 k a0 true) else (if 0 < (a0.size : Int) then ((r04_Letter.f (bt a0 0)).bind fun t289 => (r04_IsName.j0 k a0 (!t289))) else (none)))
theorem r04_IsName.mono_l : ∀ k, (∀ y0 y1, LeO (r04_IsName.j0 k y0 y1) (r04_IsName.j0 (k + 1) y0 y1)) ∧ (∀ y0 y1, LeO (r04_IsName.l0 k y0 y1) (r04_IsName.l0 (k + 1) y0 y1))
  | 0 => ⟨fun _ _ r h => by simp [r04_IsName.j0] at h, fun _ _ r h => by simp [r04_IsName.l0] at h⟩
  | k + 1 => by
    obtain ⟨ih0, ih1⟩ := r04_IsName.mono_l k
    refine ⟨?_, ?_⟩
    · intro y0 y1
      unfold r04_IsName.j0
      repeat' first
      | (with_reducible exact ih0 _ _)
      | (with_reducible exact ih1 _ _)
      | (with_reducible exact LeO.refl _)
      | (with_reducible exact LeO.none _)
      | (with_reducible refine LeO.ite ?_ ?_)
      | (with_reducible refine LeO.bind ?_ (fun _ => ?_))
    · intro y0 y1
      unfold r04_IsName.l0
      repeat' first
      | (with_reducible exact ih0 _ _)
      | (with_reducible exact ih1 _ _)
      | (with_reducible exact LeO.refl _)
      | (with_reducible exact LeO.none _)
      | (with_reducible refine LeO.ite ?_ ?_)
      | (with_reducible refine LeO.bind ?_ (fun _ => ?_))
theorem r04_IsName.mono : ∀ a0 k, LeO (r04_IsName.f k a0) (r04_IsName.f (k + 1) a0) := by
  intro a0 k
  obtain ⟨ih0, ih1⟩ := r04_IsName.mono_l k
  unfold r04_IsName.f
  repeat' first
      | (with_reducible exact ih0 _ _)
      | (with_reducible exact ih1 _ _)
      | (with_reducible exact LeO.refl _)
      | (with_reducible exact LeO.none _)
      | (with_reducible refine LeO.ite ?_ ?_)
      | (with_reducible refine LeO.bind ?_ (fun _ => ?_))
theorem r04_IsName.calls (k : Nat) (a0 : ByteArray) (r : Bool) (w : World) (h : r04_IsName.f k a0 = some r) :
 Calls Tryz.prog 34 #[.string a0] w fun e w' => e = .returned (.bool r) ∧ Drawn0 w w' := by
 unfold r04_IsName.f at h; have H := h
 clear h; have HC2 := Aside0.mk H; clear H
 go_enter Tryz.func34, Tryz.ntmps34
 go_upto_region 1 with (fail)
 go_cut [16] (fun v16 wc => ∃ (kq : Nat) (x16_1 : Bool), v16 = .bool x16_1 ∧ Aside0 (r04_IsName.j0 kq a0 x16_1 = some r) ∧ Aside0 (kq ≤ k) ∧ Drawn0 w wc)
 case first =>
  have H := HC2.out
  clear HC2
  by_cases c3 : a0.toList = ([] : List UInt8)
  · rw [if_pos c3] at H
    have c3b0 : (a0.toList == ([] : List UInt8)) = true := beq_iff_eq.mpr c3; have c3b1 : (a0.toList != ([] : List UInt8)) = false := bne_eq_false_iff_eq.mpr c3; clear c3
    (first | rw [c3b0] | (simp only [i64_w, i32_w]; rw [c3b0]) | skip)
    have H' := Aside0.mk H
    clear H
    go_wp2
    go_meet
    case rel => exact ⟨_, (true), zI, H', ⟨by first | omega | exact Nat.le_refl _⟩, by repeat (first | exact Drawn0.refl _ | apply Drawn0.step)⟩
  rw [if_neg c3] at H
  have c3b0 : (a0.toList == ([] : List UInt8)) = false := beq_eq_false_iff_ne.mpr c3
  have c3b1 : (a0.toList != ([] : List UInt8)) = true := bne_iff_ne.mpr c3
  (first | rw [c3b0] | (simp only [i64_w, i32_w]; rw [c3b0]) | skip)
  by_cases c4 : (a0.size : Int) > 32
  · rw [if_pos c4] at H
    have c4b0 : decide (32 < (a0.size : Int)) = true := decide_eq_true c4
    have c4b1 : decide (32 < a0.size) = true := decide_eq_true (by omega)
    clear c4
    have H' := Aside0.mk H
    clear H
    go_wp2
    go_meet
    case rel => exact ⟨_, (true), zI, H', ⟨by first | omega | exact Nat.le_refl _⟩, by repeat (first | exact Drawn0.refl _ | apply Drawn0.step)⟩
  rw [if_neg c4] at H; have c4b0 : decide (32 < (a0.size : Int)) = false := decide_eq_false c4
  have c4b1 : decide (32 < a0.size) = false := decide_eq_false (by omega)
  clear c4
  by_cases c5 : 0 < (a0.size : Int)
  rotate_left
  · rw [if_neg c5] at H
    exact absurd H (by simp)
  rw [if_pos c5] at H; have c5b0 : decide (0 < (a0.size : Int)) = true := decide_eq_true c5
  have c5b1 : decide (0 < a0.size) = true := decide_eq_true (by omega)
  clear c5
  replace H := Option.bind_eq_some_iff.mp H
  obtain ⟨t289, A70, H⟩ := H
  try dsimp only at H
  have A7 := Aside0.mk A70; clear A70
  have H' := Aside0.mk H
  clear H
  have p6 : 0 ≤ (0 : Int) := (by omega)
  have q6 : 0 < a0.size := (by have : (0 : Int) < (a0.size : Int) := za; omega)
  have hx6 : ∀ h : 0 < a0.size, ((a0[0]'h).toNat : Int) = bt a0 0 := bt_at a0 0
  clear p6
  have qi6 : (0 < (a0.size : Int)) = True := eq_true (of_decide_eq_true (by first | (with_reducible assumption) | assumption))
  replace q6 := eq_true q6
  go_wp2_with (first | (go_at_call 58; (with_reducible refine (r04_Letter.calls (bt a0 0) t289 _ A7.out).mono ?_); rintro e w' ⟨rfl, ⟨nd, rfl⟩⟩))
  go_meet
  case rel => exact ⟨_, (!t289), zI, H', ⟨by first | omega | exact Nat.le_refl _⟩, by repeat (first | exact Drawn0.refl _ | apply Drawn0.step)⟩
 case rest =>
  clear HC2
  obtain ⟨kq, x16_1, rfl, HA, HJ1, ⟨mc1, rfl⟩⟩ := hcut
  rcases kq with _ | kj1
  · exact absurd HA.out (by simp [r04_IsName.j0])
  have H := HA.out
  clear HA
  simp only [r04_IsName.j0] at H
  by_cases c8 : x16_1 = true
  · subst c8
    rw [if_pos rfl] at H
    obtain rfl := Option.some.inj H
    go_wp2
    go_ret
    exact ⟨by first | rfl | (simp; done) | (simp [*]; done), by repeat (first | exact Drawn0.refl _ | apply Drawn0.step)⟩
  replace c8 := Bool.eq_false_iff.mpr c8
  subst c8; rw [if_neg zF] at H
  have H' := Aside0.mk H
  clear H
  go_wp2
  go_loopg [3] kj1 (fun kq v3 w' => ∃ (x3_2 : Int), v3 = .int .i64 x3_2 ∧ Aside0 (r04_IsName.l0 kq a0 x3_2 = some r) ∧ Aside0 (kq ≤ kj1) ∧ Drawn0 w w')
  case atStart => exact ⟨(0), zI, H', ⟨Nat.le_refl _⟩, by repeat (first | exact Drawn0.refl _ | apply Drawn0.step)⟩
  case round =>
   clear H'
   try clear c8
   obtain ⟨x3_2, rfl, HA, HK2, ⟨m2, rfl⟩⟩ := hrel
   rcases gk with _ | k2
   · exact absurd HA.out (by simp [r04_IsName.l0])
   have H := HA.out
   clear HA
   simp only [r04_IsName.l0] at H
   by_cases c9 : x3_2 < (a0.size : Int)
   rotate_left
   · rw [if_neg c9] at H
     have c9b0 : decide (x3_2 < (a0.size : Int)) = false := decide_eq_false c9; clear c9
     obtain rfl := Option.some.inj H
     go_wp2
     go_ret
     exact ⟨by first | rfl | (simp; done) | (simp [*]; done), by repeat (first | exact Drawn0.refl _ | apply Drawn0.step)⟩
   rw [if_pos c9] at H
   have c9b0 : decide (x3_2 < (a0.size : Int)) = true := decide_eq_true c9; clear c9
   by_cases c10 : 0 ≤ x3_2
   rotate_left
   · rw [if_neg c10] at H
     exact absurd H (by simp)
   rw [if_pos c10] at H
   have c10b0 : decide (0 ≤ x3_2) = true := decide_eq_true c10; clear c10
   replace H := Option.bind_eq_some_iff.mp H
   obtain ⟨t290, A120, H⟩ := H
   try dsimp only at H
   have A12 := Aside0.mk A120; clear A120
   by_cases c13 : t290 = true
   · subst c13
     rw [if_pos rfl] at H
     have H' := Aside0.mk H
     clear H
     have p11 : 0 ≤ (x3_2 : Int) := za
     have q11 : x3_2 < (a0.size : Int) := za
     have hx11 := bt_at a0 x3_2
     replace p11 := eq_true p11
     replace q11 := eq_true q11
     go_wp2_with (first | ((with_reducible refine gate_callee (f := 59) rfl ?_); refine zgl 26 Tryz.func59 #[.int .u8 (bt a0 x3_2)] ?_; (with_reducible refine (r04_inName.calls (bt a0 x3_2) true _ A12.out).mono ?_); rintro e w' ⟨rfl, ⟨nd, rfl⟩⟩; refine ⟨_, rfl, ?_⟩))
     go_roundg k2
     case measure => have := HJ1.out; have := HK2.out; omega
     case rel => exact ⟨(wrap64 (x3_2 + 1)), zI, H', ⟨by have := HJ1.out; have := HK2.out; omega⟩, by repeat (first | exact Drawn0.refl _ | apply Drawn0.step)⟩
   replace c13 := Bool.eq_false_iff.mpr c13
   subst c13; rw [if_neg zF] at H
   obtain rfl := Option.some.inj H
   have p11 : 0 ≤ (x3_2 : Int) := za
   have q11 : x3_2 < (a0.size : Int) := za
   have hx11 := bt_at a0 x3_2
   replace p11 := eq_true p11
   replace q11 := eq_true q11
   go_wp2_with (first | ((with_reducible refine gate_callee (f := 59) rfl ?_); refine zgl 26 Tryz.func59 #[.int .u8 (bt a0 x3_2)] ?_; (with_reducible refine (r04_inName.calls (bt a0 x3_2) false _ A12.out).mono ?_); rintro e w' ⟨rfl, ⟨nd, rfl⟩⟩; refine ⟨_, rfl, ?_⟩))
   go_ret
   exact ⟨by first | rfl | (simp; done) | (simp [*]; done), by repeat (first | exact Drawn0.refl _ | apply Drawn0.step)⟩
end Go.Proofs.YtnphnhkinjppjaaGreatDoor.Q
end

section
set_option maxHeartbeats 8000000
set_option maxRecDepth 100000
namespace Go.Proofs.YtnphnhkinjppjaaGreatDoor.Q
open Go.RowKit Go.Proofs.YtnphnhkinjppjaaGreatDoorW.PrintWords Go.Proofs.YtnphnhkinjppjaaGreatDoorW.PrintLast Go.Proofs.YtnphnhkinjppjaaGreatDoorW.PrintMore
attribute [local go_sem] max2_int min2_int max_two min_two max_three min_three max_four min_four
mutual
def r18_inRange.j0 : Nat → Bool → ByteArray → Bool → Int → Int → Int → Int → Int → Int → Int → Bool → Int → List (S74) → Option (Bool)
  | 0, _, _, _, _, _, _, _, _, _, _, _, _, _ => none
  | k + 1, x52, x292000, x292001, x292002, x292003, x292004, x292005, x292006, x292007, x292008, x292009, x292010, x292011 => if x52 = true then (some false) else (r18_inRange.l0 k 0 x292000 x292001 x292002 x292003 x292004 x292005 x292006 x292007 x292008 x292009 x292010 x292011)
def r18_inRange.l0 : Nat → Int → ByteArray → Bool → Int → Int → Int → Int → Int → Int → Int → Bool → Int → List (S74) → Option (Bool)
  | 0, _, _, _, _, _, _, _, _, _, _, _, _, _ => none
  | k + 1, x3, x292000, x292001, x292002, x292003, x292004, x292005, x292006, x292007, x292008, x292009, x292010, x292011 => if x3 < (x292011.length : Int) then (if 0 ≤ x3 then (if ((rd_T74 x292011 x3).f0) = 6 then (if ((rd_T74 x292011 x3).f1) < 0 then (some false) else (if ((rd_T74 x292011 x3).f1) > 65535 then (some false) else (if ((rd_T74 x292011 x3).f2) < 0 then (some false) else (if ((rd_T74 x292011 x3).f2) > 4 then (some false) else (r18_inRange.l0 k (wrap64 (x3 + 1)) x292000 x292001 x292002 x292003 x292004 x292005 x292006 x292007 x292008 x292009 x292010 x292011))))) else (if ((rd_T74 x292011 x3).f0) = 17 then (if ((rd_T74 x292011 x3).f1) < 0 then (some false) else (if ((rd_T74 x292011 x3).f1) > 65535 then (some false) else (if ((rd_T74 x292011 x3).f2) < 0 then (some false) else (if ((rd_T74 x292011 x3).f2) > 4 then (some false) else (r18_inRange.l0 k (wrap64 (x3 + 1)) x292000 x292001 x292002 x292003 x292004 x292005 x292006 x292007 x292008 x292009 x292010 x292011))))) else (some false))) else (none)) else (some true)
end
def r18_inRange.f (k : Nat) (a0_0 : ByteArray) (a0_1 : Bool) (a0_2 : Int) (a0_3 : Int) (a0_4 : Int) (a0_5 : Int) (a0_6 : Int) (a0_7 : Int) (a0_8 : Int) (a0_9 : Bool) (a0_10 : Int) (l0_11 : List (S74)) : Option (Bool) := if a0_5 < 1 then (r18_inRange.j0 k true a0_0 a0_1 a0_2 a0_3 a0_4 a0_5 a0_6 a0_7 a0_8 a0_9 a0_10 l0_11) else (if a0_5 > 4 then (r18_inRange.j0 k true a0_0 a0_1 a0_2 a0_3 a0_4 a0_5 a0_6 a0_7 a0_8 a0_9 a0_10 l0_11) else (if a0_6 < 1 then (r18_inRange.j0 k true a0_0 a0_1 a0_2 a0_3 a0_4 a0_5 a0_6 a0_7 a0_8 a0_9 a0_10 l0_11) else (if a0_6 > 5 then (r18_inRange.j0 k true a0_0 a0_1 a0_2 a0_3 a0_4 a0_5 a0_6 a0_7 a0_8 a0_9 a0_10 l0_11) else (if a0_7 < 0 then (r18_inRange.j0 k true a0_0 a0_1 a0_2 a0_3 a0_4 a0_5 a0_6 a0_7 a0_8 a0_9 a0_10 l0_11) else (if a0_7 > 64 then (r18_inRange.j0 k true a0_0 a0_1 a0_2 a0_3 a0_4 a0_5 a0_6 a0_7 a0_8 a0_9 a0_10 l0_11) else (if a0_8 < 1 then (r18_inRange.j0 k true a0_0 a0_1 a0_2 a0_3 a0_4 a0_5 a0_6 a0_7 a0_8 a0_9 a0_10 l0_11) else (if a0_8 > 8192 then (r18_inRange.j0 k true a0_0 a0_1 a0_2 a0_3 a0_4 a0_5 a0_6 a0_7 a0_8 a0_9 a0_10 l0_11) else (if a0_10 < 0 then (r18_inRange.j0 k true a0_0 a0_1 a0_2 a0_3 a0_4 a0_5 a0_6 a0_7 a0_8 a0_9 a0_10 l0_11) else (r18_inRange.j0 k (decide (a0_10 > 3)) a0_0 a0_1 a0_2 a0_3 a0_4 a0_5 a0_6 a0_7 a0_8 a0_9 a0_10 l0_11)))))))))
theorem r18_inRange.mono_l : ∀ k, (∀ y0 y1 y2 y3 y4 y5 y6 y7 y8 y9 y10 y11 y12, LeO (r18_inRange.j0 k y0 y1 y2 y3 y4 y5 y6 y7 y8 y9 y10 y11 y12) (r18_inRange.j0 (k + 1) y0 y1 y2 y3 y4 y5 y6 y7 y8 y9 y10 y11 y12)) ∧ (∀ y0 y1 y2 y3 y4 y5 y6 y7 y8 y9 y10 y11 y12, LeO (r18_inRange.l0 k y0 y1 y2 y3 y4 y5 y6 y7 y8 y9 y10 y11 y12) (r18_inRange.l0 (k + 1) y0 y1 y2 y3 y4 y5 y6 y7 y8 y9 y10 y11 y12))
  | 0 => ⟨fun _ _ _ _ _ _ _ _ _ _ _ _ _ r h => by simp [r18_inRange.j0] at h, fun _ _ _ _ _ _ _ _ _ _ _ _ _ r h => by simp [r18_inRange.l0] at h⟩
  | k + 1 => by
    obtain ⟨ih0, ih1⟩ := r18_inRange.mono_l k
    refine ⟨?_, ?_⟩
    · intro y0 y1 y2 y3 y4 y5 y6 y7 y8 y9 y10 y11 y12
      unfold r18_inRange.j0
      repeat' first
      | (with_reducible exact ih0 _ _ _ _ _ _ _ _ _ _ _ _ _)
      | (with_reducible exact ih1 _ _ _ _ _ _ _ _ _ _ _ _ _)
      | (with_reducible exact LeO.refl _)
      | (with_reducible exact LeO.none _)
      | (with_reducible refine LeO.ite ?_ ?_)
      | (with_reducible refine LeO.bind ?_ (fun _ => ?_))
    · intro y0 y1 y2 y3 y4 y5 y6 y7 y8 y9 y10 y11 y12
      unfold r18_inRange.l0
      repeat' first
      | (with_reducible exact ih0 _ _ _ _ _ _ _ _ _ _ _ _ _)
      | (with_reducible exact ih1 _ _ _ _ _ _ _ _ _ _ _ _ _)
      | (with_reducible exact LeO.refl _)
      | (with_reducible exact LeO.none _)
      | (with_reducible refine LeO.ite ?_ ?_)
      | (with_reducible refine LeO.bind ?_ (fun _ => ?_))
theorem r18_inRange.mono : ∀ a0 a1 a2 a3 a4 a5 a6 a7 a8 a9 a10 a11 k, LeO (r18_inRange.f k a0 a1 a2 a3 a4 a5 a6 a7 a8 a9 a10 a11) (r18_inRange.f (k + 1) a0 a1 a2 a3 a4 a5 a6 a7 a8 a9 a10 a11) := by
  intro a0 a1 a2 a3 a4 a5 a6 a7 a8 a9 a10 a11 k
  obtain ⟨ih0, ih1⟩ := r18_inRange.mono_l k
  unfold r18_inRange.f
  repeat' first
      | (with_reducible exact ih0 _ _ _ _ _ _ _ _ _ _ _ _ _)
      | (with_reducible exact ih1 _ _ _ _ _ _ _ _ _ _ _ _ _)
      | (with_reducible exact LeO.refl _)
      | (with_reducible exact LeO.none _)
      | (with_reducible refine LeO.ite ?_ ?_)
      | (with_reducible refine LeO.bind ?_ (fun _ => ?_))
theorem r18_inRange.calls (k : Nat) (a0_0 : ByteArray) (a0_1 : Bool) (a0_2 : Int) (a0_3 : Int) (a0_4 : Int) (a0_5 : Int) (a0_6 : Int) (a0_7 : Int) (a0_8 : Int) (a0_9 : Bool) (a0_10 : Int) (A0_11 : Option Addr) (c0_11 : Nat) (l0_11 : List (S74)) (r : Bool) (w : World) (hr0_11 : Kd.C k74 w A0_11 l0_11.length l0_11) (hc0_11 : l0_11.length ≤ c0_11) (h : r18_inRange.f k a0_0 a0_1 a0_2 a0_3 a0_4 a0_5 a0_6 a0_7 a0_8 a0_9 a0_10 l0_11 = some r) :
 Calls Tryz.prog 35 #[.agg #[.string a0_0, .bool a0_1, .int .u64 a0_2, .int .u64 a0_3, .int .i64 a0_4, .int .i64 a0_5, .int .i64 a0_6, .int .i64 a0_7, .int .i64 a0_8, .bool a0_9, .int .i64 a0_10, .slice A0_11 l0_11.length c0_11]] w fun e w' => e = .returned (.bool r) ∧ Below w.heap.size w w' := by
 have hu36 := Tryz.underlying36
 have hu74 := Tryz.underlying74
 have HR0_11 := Aside0.mk hr0_11; have HC0_11 := Aside0.mk hc0_11; clear hr0_11 hc0_11; have HB := Aside0.mk (Below.refl w.heap.size w)
 unfold r18_inRange.f at h; have H := h
 clear h; have HC2 := Aside0.mk H; clear H
 go_enter Tryz.func35, Tryz.ntmps35
 go_upto_region 1 with (first | ((with_reducible refine gate_dst (N := 1) rfl ?_); refine zx 1 #[.string a0_0, .bool a0_1, .int .u64 a0_2, .int .u64 a0_3, .int .i64 a0_4, .int .i64 a0_5, .int .i64 a0_6, .int .i64 a0_7, .int .i64 a0_8, .bool a0_9, .int .i64 a0_10, .slice A0_11 l0_11.length c0_11] 36 ?_; intro gb291 hg w3 hbox hb; have BK291 := Aside0.mk (hbox); have GW291 := zG HB hg; have GE291 := zG HB hg; replace HB := Aside0.mk (below_step (zB HB) hb); clear hb hbox hg))
 (try simp only [Act.put, List.setIfInBounds_toArray, List.set_cons_zero, List.set_cons_succ])
 go_cut [52] (fun v52 wc => ∃ (kq : Nat) (x52_1 : Bool), v52 = .bool x52_1 ∧ Aside0 (r18_inRange.j0 kq x52_1 a0_0 a0_1 a0_2 a0_3 a0_4 a0_5 a0_6 a0_7 a0_8 a0_9 a0_10 l0_11 = some r) ∧ Aside0 (kq ≤ k) ∧ Aside0 (wc.heap[gb291]? = some (.cells #[.string a0_0, .bool a0_1, .int .u64 a0_2, .int .u64 a0_3, .int .i64 a0_4, .int .i64 a0_5, .int .i64 a0_6, .int .i64 a0_7, .int .i64 a0_8, .bool a0_9, .int .i64 a0_10, (.slice A0_11 l0_11.length c0_11)] 36 (0, 0))) ∧ Aside0 (Below w.heap.size w wc))
 case first =>
  have H := HC2.out
  clear HC2
  by_cases c4 : a0_5 < 1
  · rw [if_pos c4] at H
    have c4b0 : decide (a0_5 < 1) = true := decide_eq_true c4; clear c4
    (first | rw [c4b0] | (simp only [i64_w, i32_w]; rw [c4b0]) | skip)
    have H' := Aside0.mk H
    clear H; obtain ⟨hcz5_0, hcz5_1, hcz5_2, hcz5_3, hcz5_4, hcz5_5, hcz5_6, hcz5_7, hcz5_8, hcz5_9, hcz5_10, hcz5_11⟩ := zc12 BK291; obtain ⟨hfz5_0, hfz5_1, hfz5_2, hfz5_3, hfz5_4, hfz5_5, hfz5_6, hfz5_7, hfz5_8, hfz5_9, hfz5_10, hfz5_11⟩ := zf12 BK291
    go_wp2
    go_meet
    case rel => exact ⟨_, (true), zI, H', ⟨by first | omega | exact Nat.le_refl _⟩, ⟨zK BK291⟩, ⟨zB HB⟩⟩
  rw [if_neg c4] at H
  have c4b0 : decide (a0_5 < 1) = false := decide_eq_false c4; clear c4
  (first | rw [c4b0] | (simp only [i64_w, i32_w]; rw [c4b0]) | skip)
  by_cases c6 : a0_5 > 4
  · rw [if_pos c6] at H
    have c6b0 : decide (4 < a0_5) = true := decide_eq_true c6; clear c6
    have H' := Aside0.mk H
    clear H; obtain ⟨hcz7_0, hcz7_1, hcz7_2, hcz7_3, hcz7_4, hcz7_5, hcz7_6, hcz7_7, hcz7_8, hcz7_9, hcz7_10, hcz7_11⟩ := zc12 BK291; obtain ⟨hfz7_0, hfz7_1, hfz7_2, hfz7_3, hfz7_4, hfz7_5, hfz7_6, hfz7_7, hfz7_8, hfz7_9, hfz7_10, hfz7_11⟩ := zf12 BK291
    go_wp2
    go_meet
    case rel => exact ⟨_, (true), zI, H', ⟨by first | omega | exact Nat.le_refl _⟩, ⟨zK BK291⟩, ⟨zB HB⟩⟩
  rw [if_neg c6] at H
  have c6b0 : decide (4 < a0_5) = false := decide_eq_false c6; clear c6
  by_cases c8 : a0_6 < 1
  · rw [if_pos c8] at H
    have c8b0 : decide (a0_6 < 1) = true := decide_eq_true c8; clear c8
    have H' := Aside0.mk H
    clear H; obtain ⟨hcz9_0, hcz9_1, hcz9_2, hcz9_3, hcz9_4, hcz9_5, hcz9_6, hcz9_7, hcz9_8, hcz9_9, hcz9_10, hcz9_11⟩ := zc12 BK291; obtain ⟨hfz9_0, hfz9_1, hfz9_2, hfz9_3, hfz9_4, hfz9_5, hfz9_6, hfz9_7, hfz9_8, hfz9_9, hfz9_10, hfz9_11⟩ := zf12 BK291
    go_wp2
    go_meet
    case rel => exact ⟨_, (true), zI, H', ⟨by first | omega | exact Nat.le_refl _⟩, ⟨zK BK291⟩, ⟨zB HB⟩⟩
  rw [if_neg c8] at H
  have c8b0 : decide (a0_6 < 1) = false := decide_eq_false c8; clear c8
  by_cases c10 : a0_6 > 5
  · rw [if_pos c10] at H
    have c10b0 : decide (5 < a0_6) = true := decide_eq_true c10; clear c10
    have H' := Aside0.mk H
    clear H; obtain ⟨hcz11_0, hcz11_1, hcz11_2, hcz11_3, hcz11_4, hcz11_5, hcz11_6, hcz11_7, hcz11_8, hcz11_9, hcz11_10, hcz11_11⟩ := zc12 BK291; obtain ⟨hfz11_0, hfz11_1, hfz11_2, hfz11_3, hfz11_4, hfz11_5, hfz11_6, hfz11_7, hfz11_8, hfz11_9, hfz11_10, hfz11_11⟩ := zf12 BK291
    go_wp2
    go_meet
    case rel => exact ⟨_, (true), zI, H', ⟨by first | omega | exact Nat.le_refl _⟩, ⟨zK BK291⟩, ⟨zB HB⟩⟩
  rw [if_neg c10] at H
  have c10b0 : decide (5 < a0_6) = false := decide_eq_false c10; clear c10
  by_cases c12 : a0_7 < 0
  · rw [if_pos c12] at H
    have c12b0 : decide (a0_7 < 0) = true := decide_eq_true c12; clear c12
    have H' := Aside0.mk H
    clear H; obtain ⟨hcz13_0, hcz13_1, hcz13_2, hcz13_3, hcz13_4, hcz13_5, hcz13_6, hcz13_7, hcz13_8, hcz13_9, hcz13_10, hcz13_11⟩ := zc12 BK291; obtain ⟨hfz13_0, hfz13_1, hfz13_2, hfz13_3, hfz13_4, hfz13_5, hfz13_6, hfz13_7, hfz13_8, hfz13_9, hfz13_10, hfz13_11⟩ := zf12 BK291
    go_wp2
    go_meet
    case rel => exact ⟨_, (true), zI, H', ⟨by first | omega | exact Nat.le_refl _⟩, ⟨zK BK291⟩, ⟨zB HB⟩⟩
  rw [if_neg c12] at H
  have c12b0 : decide (a0_7 < 0) = false := decide_eq_false c12; clear c12
  by_cases c14 : a0_7 > 64
  · rw [if_pos c14] at H
    have c14b0 : decide (64 < a0_7) = true := decide_eq_true c14; clear c14
    have H' := Aside0.mk H
    clear H; obtain ⟨hcz15_0, hcz15_1, hcz15_2, hcz15_3, hcz15_4, hcz15_5, hcz15_6, hcz15_7, hcz15_8, hcz15_9, hcz15_10, hcz15_11⟩ := zc12 BK291; obtain ⟨hfz15_0, hfz15_1, hfz15_2, hfz15_3, hfz15_4, hfz15_5, hfz15_6, hfz15_7, hfz15_8, hfz15_9, hfz15_10, hfz15_11⟩ := zf12 BK291
    go_wp2
    go_meet
    case rel => exact ⟨_, (true), zI, H', ⟨by first | omega | exact Nat.le_refl _⟩, ⟨zK BK291⟩, ⟨zB HB⟩⟩
  rw [if_neg c14] at H
  have c14b0 : decide (64 < a0_7) = false := decide_eq_false c14; clear c14
  by_cases c16 : a0_8 < 1
  · rw [if_pos c16] at H
    have c16b0 : decide (a0_8 < 1) = true := decide_eq_true c16; clear c16
    have H' := Aside0.mk H
    clear H; obtain ⟨hcz17_0, hcz17_1, hcz17_2, hcz17_3, hcz17_4, hcz17_5, hcz17_6, hcz17_7, hcz17_8, hcz17_9, hcz17_10, hcz17_11⟩ := zc12 BK291; obtain ⟨hfz17_0, hfz17_1, hfz17_2, hfz17_3, hfz17_4, hfz17_5, hfz17_6, hfz17_7, hfz17_8, hfz17_9, hfz17_10, hfz17_11⟩ := zf12 BK291
    go_wp2
    go_meet
    case rel => exact ⟨_, (true), zI, H', ⟨by first | omega | exact Nat.le_refl _⟩, ⟨zK BK291⟩, ⟨zB HB⟩⟩
  rw [if_neg c16] at H
  have c16b0 : decide (a0_8 < 1) = false := decide_eq_false c16; clear c16
  by_cases c18 : a0_8 > 8192
  · rw [if_pos c18] at H
    have c18b0 : decide (8192 < a0_8) = true := decide_eq_true c18; clear c18
    have H' := Aside0.mk H
    clear H; obtain ⟨hcz19_0, hcz19_1, hcz19_2, hcz19_3, hcz19_4, hcz19_5, hcz19_6, hcz19_7, hcz19_8, hcz19_9, hcz19_10, hcz19_11⟩ := zc12 BK291; obtain ⟨hfz19_0, hfz19_1, hfz19_2, hfz19_3, hfz19_4, hfz19_5, hfz19_6, hfz19_7, hfz19_8, hfz19_9, hfz19_10, hfz19_11⟩ := zf12 BK291
    go_wp2
    go_meet
    case rel => exact ⟨_, (true), zI, H', ⟨by first | omega | exact Nat.le_refl _⟩, ⟨zK BK291⟩, ⟨zB HB⟩⟩
  rw [if_neg c18] at H
  have c18b0 : decide (8192 < a0_8) = false := decide_eq_false c18; clear c18
  by_cases c20 : a0_10 < 0
  · rw [if_pos c20] at H
    have c20b0 : decide (a0_10 < 0) = true := decide_eq_true c20; clear c20
    have H' := Aside0.mk H
    clear H; obtain ⟨hcz21_0, hcz21_1, hcz21_2, hcz21_3, hcz21_4, hcz21_5, hcz21_6, hcz21_7, hcz21_8, hcz21_9, hcz21_10, hcz21_11⟩ := zc12 BK291; obtain ⟨hfz21_0, hfz21_1, hfz21_2, hfz21_3, hfz21_4, hfz21_5, hfz21_6, hfz21_7, hfz21_8, hfz21_9, hfz21_10, hfz21_11⟩ := zf12 BK291
    go_wp2
    go_meet
    case rel => exact ⟨_, (true), zI, H', ⟨by first | omega | exact Nat.le_refl _⟩, ⟨zK BK291⟩, ⟨zB HB⟩⟩
  rw [if_neg c20] at H
  have c20b0 : decide (a0_10 < 0) = false := decide_eq_false c20; clear c20
  have H' := Aside0.mk H
  clear H; obtain ⟨hcz22_0, hcz22_1, hcz22_2, hcz22_3, hcz22_4, hcz22_5, hcz22_6, hcz22_7, hcz22_8, hcz22_9, hcz22_10, hcz22_11⟩ := zc12 BK291; obtain ⟨hfz22_0, hfz22_1, hfz22_2, hfz22_3, hfz22_4, hfz22_5, hfz22_6, hfz22_7, hfz22_8, hfz22_9, hfz22_10, hfz22_11⟩ := zf12 BK291
  go_wp2
  go_meet
  case rel => exact ⟨_, (decide (a0_10 > 3)), zI, H', ⟨by first | omega | exact Nat.le_refl _⟩, ⟨zK BK291⟩, ⟨zB HB⟩⟩
 case rest =>
  clear HC2
  obtain ⟨kq, x52_1, rfl, HA, HJ1, BK291, HB⟩ := hcut
  rcases kq with _ | kj1
  · exact absurd HA.out (by simp [r18_inRange.j0])
  have H := HA.out
  clear HA
  simp only [r18_inRange.j0] at H
  by_cases c23 : x52_1 = true
  · subst c23
    rw [if_pos rfl] at H
    obtain rfl := Option.some.inj H
    go_wp2
    go_ret
    exact ⟨zr, zB HB⟩
  replace c23 := Bool.eq_false_iff.mpr c23
  subst c23; rw [if_neg zF] at H
  have H' := Aside0.mk H
  clear H
  go_wp2
  go_loopg [3] kj1 (fun kq v3 w' => ∃ (x3_2 : Int), v3 = .int .i64 x3_2 ∧ Aside0 (r18_inRange.l0 kq x3_2 a0_0 a0_1 a0_2 a0_3 a0_4 a0_5 a0_6 a0_7 a0_8 a0_9 a0_10 l0_11 = some r) ∧ Aside0 (kq ≤ kj1) ∧ Aside0 (w'.heap[gb291]? = some (.cells #[.string a0_0, .bool a0_1, .int .u64 a0_2, .int .u64 a0_3, .int .i64 a0_4, .int .i64 a0_5, .int .i64 a0_6, .int .i64 a0_7, .int .i64 a0_8, .bool a0_9, .int .i64 a0_10, (.slice A0_11 l0_11.length c0_11)] 36 (0, 0))) ∧ Aside0 (Below w.heap.size w w'))
  case atStart => exact ⟨(0), zI, H', ⟨Nat.le_refl _⟩, ⟨zK BK291⟩, ⟨zB HB⟩⟩
  case round =>
   clear H'
   try clear c23
   obtain ⟨x3_2, rfl, HA, HK2, BK291, HB⟩ := hrel
   rcases gk with _ | k2
   · exact absurd HA.out (by simp [r18_inRange.l0])
   have H := HA.out
   clear HA
   simp only [r18_inRange.l0] at H
   by_cases c24 : x3_2 < (l0_11.length : Int)
   rotate_left
   · rw [if_neg c24] at H
     have c24b0 : decide (x3_2 < (l0_11.length : Int)) = false := decide_eq_false c24; clear c24
     obtain rfl := Option.some.inj H
     obtain ⟨hcz80_0, hcz80_1, hcz80_2, hcz80_3, hcz80_4, hcz80_5, hcz80_6, hcz80_7, hcz80_8, hcz80_9, hcz80_10, hcz80_11⟩ := zc12 BK291; obtain ⟨hfz80_0, hfz80_1, hfz80_2, hfz80_3, hfz80_4, hfz80_5, hfz80_6, hfz80_7, hfz80_8, hfz80_9, hfz80_10, hfz80_11⟩ := zf12 BK291
     go_wp2
     go_ret
     exact ⟨zr, zB HB⟩
   rw [if_pos c24] at H
   have c24b0 : decide (x3_2 < (l0_11.length : Int)) = true := decide_eq_true c24; clear c24
   by_cases c25 : 0 ≤ x3_2
   rotate_left
   · rw [if_neg c25] at H
     exact absurd H (by simp)
   rw [if_pos c25] at H
   have c25b0 : decide (0 ≤ x3_2) = true := decide_eq_true c25; clear c25
   by_cases c26 : ((rd_T74 l0_11 x3_2).f0) = 6
   · rw [if_pos c26] at H
     have c26b0 : (((rd_T74 l0_11 x3_2).f0) == 6) = true := beq_iff_eq.mpr c26; have c26b1 : (((rd_T74 l0_11 x3_2).f0) != 6) = false := bne_eq_false_iff_eq.mpr c26; clear c26
     by_cases c27 : ((rd_T74 l0_11 x3_2).f1) < 0
     · rw [if_pos c27] at H
       have c27b0 : decide (((rd_T74 l0_11 x3_2).f1) < 0) = true := decide_eq_true c27; clear c27
       obtain rfl := Option.some.inj H
       obtain ⟨hcz28_0, hcz28_1, hcz28_2, hcz28_3, hcz28_4, hcz28_5, hcz28_6, hcz28_7, hcz28_8, hcz28_9, hcz28_10, hcz28_11⟩ := zc12 BK291; obtain ⟨hfz28_0, hfz28_1, hfz28_2, hfz28_3, hfz28_4, hfz28_5, hfz28_6, hfz28_7, hfz28_8, hfz28_9, hfz28_10, hfz28_11⟩ := zf12 BK291
       have p292 : 0 ≤ (x3_2 : Int) := za
       have q292 : x3_2 < (l0_11.length : Int) := za
       obtain ⟨ad292, e292, hx292_0, hx292_1, hx292_2⟩ := at_T74 HR0_11.out x3_2 p292 q292
       cases e292
       replace hx292_0 := zh HB hx292_0; replace hx292_1 := zh HB hx292_1; replace hx292_2 := zh HB hx292_2
       replace p292 := eq_true p292
       replace q292 := eq_true q292
       go_wp2_with (first | ((with_reducible refine gate_dst (N := 4) rfl ?_); refine zx 4 #[.int .i64 0, .int .i64 0, .int .i64 0] 74 ?_; intro gb293 hg w29 hbox hb; have BK293 := Aside0.mk (hbox); have GW293 := zG HB hg; have GE293 := zG HB hg; replace HB := Aside0.mk (below_step (zB HB) hb); have NB291_293 := Aside0.mk ((by rw [hg]; exact Nat.ne_of_lt (blk_lt (g := gb291) (o := .cells #[.string a0_0, .bool a0_1, .int .u64 a0_2, .int .u64 a0_3, .int .i64 a0_4, .int .i64 a0_5, .int .i64 a0_6, .int .i64 a0_7, .int .i64 a0_8, .bool a0_9, .int .i64 a0_10, .slice (some ad292) l0_11.length c0_11] 36 (0, 0)) (zK BK291)) : gb291 ≠ gb293)); have NB293_291 := Aside0.mk ((by rw [hg]; exact Nat.ne_of_gt (blk_lt (g := gb291) (o := .cells #[.string a0_0, .bool a0_1, .int .u64 a0_2, .int .u64 a0_3, .int .i64 a0_4, .int .i64 a0_5, .int .i64 a0_6, .int .i64 a0_7, .int .i64 a0_8, .bool a0_9, .int .i64 a0_10, .slice (some ad292) l0_11.length c0_11] 36 (0, 0)) (zK BK291)) : gb293 ≠ gb291)); replace BK291 := zkb BK291 hb; clear hb hbox hg; have hnb30 := NB293_291.out; have hnc30 := NB291_293.out; obtain ⟨hcz31_0, hcz31_1, hcz31_2⟩ := zc3 BK293; obtain ⟨hfz31_0, hfz31_1, hfz31_2⟩ := zf3 BK293))
       go_ret
       exact ⟨zr, zB HB⟩
     rw [if_neg c27] at H
     have c27b0 : decide (((rd_T74 l0_11 x3_2).f1) < 0) = false := decide_eq_false c27; clear c27
     by_cases c32 : ((rd_T74 l0_11 x3_2).f1) > 65535
     · rw [if_pos c32] at H
       have c32b0 : decide (65535 < ((rd_T74 l0_11 x3_2).f1)) = true := decide_eq_true c32; clear c32
       obtain rfl := Option.some.inj H
       obtain ⟨hcz33_0, hcz33_1, hcz33_2, hcz33_3, hcz33_4, hcz33_5, hcz33_6, hcz33_7, hcz33_8, hcz33_9, hcz33_10, hcz33_11⟩ := zc12 BK291; obtain ⟨hfz33_0, hfz33_1, hfz33_2, hfz33_3, hfz33_4, hfz33_5, hfz33_6, hfz33_7, hfz33_8, hfz33_9, hfz33_10, hfz33_11⟩ := zf12 BK291
       have p292 : 0 ≤ (x3_2 : Int) := za
       have q292 : x3_2 < (l0_11.length : Int) := za
       obtain ⟨ad292, e292, hx292_0, hx292_1, hx292_2⟩ := at_T74 HR0_11.out x3_2 p292 q292
       cases e292
       replace hx292_0 := zh HB hx292_0; replace hx292_1 := zh HB hx292_1; replace hx292_2 := zh HB hx292_2
       replace p292 := eq_true p292
       replace q292 := eq_true q292
       go_wp2_with (first | ((with_reducible refine gate_dst (N := 4) rfl ?_); refine zx 4 #[.int .i64 0, .int .i64 0, .int .i64 0] 74 ?_; intro gb293 hg w34 hbox hb; have BK293 := Aside0.mk (hbox); have GW293 := zG HB hg; have GE293 := zG HB hg; replace HB := Aside0.mk (below_step (zB HB) hb); have NB291_293 := Aside0.mk ((by rw [hg]; exact Nat.ne_of_lt (blk_lt (g := gb291) (o := .cells #[.string a0_0, .bool a0_1, .int .u64 a0_2, .int .u64 a0_3, .int .i64 a0_4, .int .i64 a0_5, .int .i64 a0_6, .int .i64 a0_7, .int .i64 a0_8, .bool a0_9, .int .i64 a0_10, .slice (some ad292) l0_11.length c0_11] 36 (0, 0)) (zK BK291)) : gb291 ≠ gb293)); have NB293_291 := Aside0.mk ((by rw [hg]; exact Nat.ne_of_gt (blk_lt (g := gb291) (o := .cells #[.string a0_0, .bool a0_1, .int .u64 a0_2, .int .u64 a0_3, .int .i64 a0_4, .int .i64 a0_5, .int .i64 a0_6, .int .i64 a0_7, .int .i64 a0_8, .bool a0_9, .int .i64 a0_10, .slice (some ad292) l0_11.length c0_11] 36 (0, 0)) (zK BK291)) : gb293 ≠ gb291)); replace BK291 := zkb BK291 hb; clear hb hbox hg; have hnb35 := NB293_291.out; have hnc35 := NB291_293.out; obtain ⟨hcz36_0, hcz36_1, hcz36_2⟩ := zc3 BK293; obtain ⟨hfz36_0, hfz36_1, hfz36_2⟩ := zf3 BK293))
       go_ret
       exact ⟨zr, zB HB⟩
     rw [if_neg c32] at H
     have c32b0 : decide (65535 < ((rd_T74 l0_11 x3_2).f1)) = false := decide_eq_false c32; clear c32
     by_cases c37 : ((rd_T74 l0_11 x3_2).f2) < 0
     · rw [if_pos c37] at H
       have c37b0 : decide (((rd_T74 l0_11 x3_2).f2) < 0) = true := decide_eq_true c37; clear c37
       obtain rfl := Option.some.inj H
       obtain ⟨hcz38_0, hcz38_1, hcz38_2, hcz38_3, hcz38_4, hcz38_5, hcz38_6, hcz38_7, hcz38_8, hcz38_9, hcz38_10, hcz38_11⟩ := zc12 BK291; obtain ⟨hfz38_0, hfz38_1, hfz38_2, hfz38_3, hfz38_4, hfz38_5, hfz38_6, hfz38_7, hfz38_8, hfz38_9, hfz38_10, hfz38_11⟩ := zf12 BK291
       have p292 : 0 ≤ (x3_2 : Int) := za
       have q292 : x3_2 < (l0_11.length : Int) := za
       obtain ⟨ad292, e292, hx292_0, hx292_1, hx292_2⟩ := at_T74 HR0_11.out x3_2 p292 q292
       cases e292
       replace hx292_0 := zh HB hx292_0; replace hx292_1 := zh HB hx292_1; replace hx292_2 := zh HB hx292_2
       replace p292 := eq_true p292
       replace q292 := eq_true q292
       go_wp2_with (first | ((with_reducible refine gate_dst (N := 4) rfl ?_); refine zx 4 #[.int .i64 0, .int .i64 0, .int .i64 0] 74 ?_; intro gb293 hg w39 hbox hb; have BK293 := Aside0.mk (hbox); have GW293 := zG HB hg; have GE293 := zG HB hg; replace HB := Aside0.mk (below_step (zB HB) hb); have NB291_293 := Aside0.mk ((by rw [hg]; exact Nat.ne_of_lt (blk_lt (g := gb291) (o := .cells #[.string a0_0, .bool a0_1, .int .u64 a0_2, .int .u64 a0_3, .int .i64 a0_4, .int .i64 a0_5, .int .i64 a0_6, .int .i64 a0_7, .int .i64 a0_8, .bool a0_9, .int .i64 a0_10, .slice (some ad292) l0_11.length c0_11] 36 (0, 0)) (zK BK291)) : gb291 ≠ gb293)); have NB293_291 := Aside0.mk ((by rw [hg]; exact Nat.ne_of_gt (blk_lt (g := gb291) (o := .cells #[.string a0_0, .bool a0_1, .int .u64 a0_2, .int .u64 a0_3, .int .i64 a0_4, .int .i64 a0_5, .int .i64 a0_6, .int .i64 a0_7, .int .i64 a0_8, .bool a0_9, .int .i64 a0_10, .slice (some ad292) l0_11.length c0_11] 36 (0, 0)) (zK BK291)) : gb293 ≠ gb291)); replace BK291 := zkb BK291 hb; clear hb hbox hg; have hnb40 := NB293_291.out; have hnc40 := NB291_293.out; obtain ⟨hcz41_0, hcz41_1, hcz41_2⟩ := zc3 BK293; obtain ⟨hfz41_0, hfz41_1, hfz41_2⟩ := zf3 BK293))
       go_ret
       exact ⟨zr, zB HB⟩
     rw [if_neg c37] at H
     have c37b0 : decide (((rd_T74 l0_11 x3_2).f2) < 0) = false := decide_eq_false c37; clear c37
     by_cases c42 : ((rd_T74 l0_11 x3_2).f2) > 4
     · rw [if_pos c42] at H
       have c42b0 : decide (4 < ((rd_T74 l0_11 x3_2).f2)) = true := decide_eq_true c42; clear c42
       obtain rfl := Option.some.inj H
       obtain ⟨hcz43_0, hcz43_1, hcz43_2, hcz43_3, hcz43_4, hcz43_5, hcz43_6, hcz43_7, hcz43_8, hcz43_9, hcz43_10, hcz43_11⟩ := zc12 BK291; obtain ⟨hfz43_0, hfz43_1, hfz43_2, hfz43_3, hfz43_4, hfz43_5, hfz43_6, hfz43_7, hfz43_8, hfz43_9, hfz43_10, hfz43_11⟩ := zf12 BK291
       have p292 : 0 ≤ (x3_2 : Int) := za
       have q292 : x3_2 < (l0_11.length : Int) := za
       obtain ⟨ad292, e292, hx292_0, hx292_1, hx292_2⟩ := at_T74 HR0_11.out x3_2 p292 q292
       cases e292
       replace hx292_0 := zh HB hx292_0; replace hx292_1 := zh HB hx292_1; replace hx292_2 := zh HB hx292_2
       replace p292 := eq_true p292
       replace q292 := eq_true q292
       go_wp2_with (first | ((with_reducible refine gate_dst (N := 4) rfl ?_); refine zx 4 #[.int .i64 0, .int .i64 0, .int .i64 0] 74 ?_; intro gb293 hg w44 hbox hb; have BK293 := Aside0.mk (hbox); have GW293 := zG HB hg; have GE293 := zG HB hg; replace HB := Aside0.mk (below_step (zB HB) hb); have NB291_293 := Aside0.mk ((by rw [hg]; exact Nat.ne_of_lt (blk_lt (g := gb291) (o := .cells #[.string a0_0, .bool a0_1, .int .u64 a0_2, .int .u64 a0_3, .int .i64 a0_4, .int .i64 a0_5, .int .i64 a0_6, .int .i64 a0_7, .int .i64 a0_8, .bool a0_9, .int .i64 a0_10, .slice (some ad292) l0_11.length c0_11] 36 (0, 0)) (zK BK291)) : gb291 ≠ gb293)); have NB293_291 := Aside0.mk ((by rw [hg]; exact Nat.ne_of_gt (blk_lt (g := gb291) (o := .cells #[.string a0_0, .bool a0_1, .int .u64 a0_2, .int .u64 a0_3, .int .i64 a0_4, .int .i64 a0_5, .int .i64 a0_6, .int .i64 a0_7, .int .i64 a0_8, .bool a0_9, .int .i64 a0_10, .slice (some ad292) l0_11.length c0_11] 36 (0, 0)) (zK BK291)) : gb293 ≠ gb291)); replace BK291 := zkb BK291 hb; clear hb hbox hg; have hnb45 := NB293_291.out; have hnc45 := NB291_293.out; obtain ⟨hcz46_0, hcz46_1, hcz46_2⟩ := zc3 BK293; obtain ⟨hfz46_0, hfz46_1, hfz46_2⟩ := zf3 BK293))
       go_ret
       exact ⟨zr, zB HB⟩
     rw [if_neg c42] at H
     have c42b0 : decide (4 < ((rd_T74 l0_11 x3_2).f2)) = false := decide_eq_false c42; clear c42
     have H' := Aside0.mk H
     clear H; obtain ⟨hcz47_0, hcz47_1, hcz47_2, hcz47_3, hcz47_4, hcz47_5, hcz47_6, hcz47_7, hcz47_8, hcz47_9, hcz47_10, hcz47_11⟩ := zc12 BK291; obtain ⟨hfz47_0, hfz47_1, hfz47_2, hfz47_3, hfz47_4, hfz47_5, hfz47_6, hfz47_7, hfz47_8, hfz47_9, hfz47_10, hfz47_11⟩ := zf12 BK291
     have p292 : 0 ≤ (x3_2 : Int) := za
     have q292 : x3_2 < (l0_11.length : Int) := za
     obtain ⟨ad292, e292, hx292_0, hx292_1, hx292_2⟩ := at_T74 HR0_11.out x3_2 p292 q292
     cases e292
     replace hx292_0 := zh HB hx292_0; replace hx292_1 := zh HB hx292_1; replace hx292_2 := zh HB hx292_2
     replace p292 := eq_true p292
     replace q292 := eq_true q292
     go_wp2_with (first | ((with_reducible refine gate_dst (N := 4) rfl ?_); refine zx 4 #[.int .i64 0, .int .i64 0, .int .i64 0] 74 ?_; intro gb293 hg w48 hbox hb; have BK293 := Aside0.mk (hbox); have GW293 := zG HB hg; have GE293 := zG HB hg; replace HB := Aside0.mk (below_step (zB HB) hb); have NB291_293 := Aside0.mk ((by rw [hg]; exact Nat.ne_of_lt (blk_lt (g := gb291) (o := .cells #[.string a0_0, .bool a0_1, .int .u64 a0_2, .int .u64 a0_3, .int .i64 a0_4, .int .i64 a0_5, .int .i64 a0_6, .int .i64 a0_7, .int .i64 a0_8, .bool a0_9, .int .i64 a0_10, .slice (some ad292) l0_11.length c0_11] 36 (0, 0)) (zK BK291)) : gb291 ≠ gb293)); have NB293_291 := Aside0.mk ((by rw [hg]; exact Nat.ne_of_gt (blk_lt (g := gb291) (o := .cells #[.string a0_0, .bool a0_1, .int .u64 a0_2, .int .u64 a0_3, .int .i64 a0_4, .int .i64 a0_5, .int .i64 a0_6, .int .i64 a0_7, .int .i64 a0_8, .bool a0_9, .int .i64 a0_10, .slice (some ad292) l0_11.length c0_11] 36 (0, 0)) (zK BK291)) : gb293 ≠ gb291)); replace BK291 := zkb BK291 hb; clear hb hbox hg; have hnb49 := NB293_291.out; have hnc49 := NB291_293.out; obtain ⟨hcz50_0, hcz50_1, hcz50_2⟩ := zc3 BK293; obtain ⟨hfz50_0, hfz50_1, hfz50_2⟩ := zf3 BK293))
     go_roundg k2
     case measure => have := HJ1.out; have := HK2.out; omega
     case rel => exact ⟨(wrap64 (x3_2 + 1)), zI, H', ⟨by have := HJ1.out; have := HK2.out; omega⟩, ⟨by refine zL ?_; refine blk_far ?_ NB291_293.out _; refine zL ?_; refine blk_far ?_ NB291_293.out _; refine zL ?_; refine blk_far ?_ NB291_293.out _; refine zL ?_; exact BK291.out⟩, ⟨zB HB⟩⟩
   rw [if_neg c26] at H
   have c26b0 : (((rd_T74 l0_11 x3_2).f0) == 6) = false := beq_eq_false_iff_ne.mpr c26
   have c26b1 : (((rd_T74 l0_11 x3_2).f0) != 6) = true := bne_iff_ne.mpr c26
   by_cases c51 : ((rd_T74 l0_11 x3_2).f0) = 17
   rotate_left
   · rw [if_neg c51] at H
     have c51b0 : (((rd_T74 l0_11 x3_2).f0) == 17) = false := beq_eq_false_iff_ne.mpr c51
     have c51b1 : (((rd_T74 l0_11 x3_2).f0) != 17) = true := bne_iff_ne.mpr c51
     obtain rfl := Option.some.inj H
     obtain ⟨hcz76_0, hcz76_1, hcz76_2, hcz76_3, hcz76_4, hcz76_5, hcz76_6, hcz76_7, hcz76_8, hcz76_9, hcz76_10, hcz76_11⟩ := zc12 BK291; obtain ⟨hfz76_0, hfz76_1, hfz76_2, hfz76_3, hfz76_4, hfz76_5, hfz76_6, hfz76_7, hfz76_8, hfz76_9, hfz76_10, hfz76_11⟩ := zf12 BK291
     have p292 : 0 ≤ (x3_2 : Int) := za
     have q292 : x3_2 < (l0_11.length : Int) := za
     obtain ⟨ad292, e292, hx292_0, hx292_1, hx292_2⟩ := at_T74 HR0_11.out x3_2 p292 q292
     cases e292
     replace hx292_0 := zh HB hx292_0; replace hx292_1 := zh HB hx292_1; replace hx292_2 := zh HB hx292_2
     replace p292 := eq_true p292
     replace q292 := eq_true q292
     go_wp2_with (first | ((with_reducible refine gate_dst (N := 4) rfl ?_); refine zx 4 #[.int .i64 0, .int .i64 0, .int .i64 0] 74 ?_; intro gb293 hg w77 hbox hb; have BK293 := Aside0.mk (hbox); have GW293 := zG HB hg; have GE293 := zG HB hg; replace HB := Aside0.mk (below_step (zB HB) hb); have NB291_293 := Aside0.mk ((by rw [hg]; exact Nat.ne_of_lt (blk_lt (g := gb291) (o := .cells #[.string a0_0, .bool a0_1, .int .u64 a0_2, .int .u64 a0_3, .int .i64 a0_4, .int .i64 a0_5, .int .i64 a0_6, .int .i64 a0_7, .int .i64 a0_8, .bool a0_9, .int .i64 a0_10, .slice (some ad292) l0_11.length c0_11] 36 (0, 0)) (zK BK291)) : gb291 ≠ gb293)); have NB293_291 := Aside0.mk ((by rw [hg]; exact Nat.ne_of_gt (blk_lt (g := gb291) (o := .cells #[.string a0_0, .bool a0_1, .int .u64 a0_2, .int .u64 a0_3, .int .i64 a0_4, .int .i64 a0_5, .int .i64 a0_6, .int .i64 a0_7, .int .i64 a0_8, .bool a0_9, .int .i64 a0_10, .slice (some ad292) l0_11.length c0_11] 36 (0, 0)) (zK BK291)) : gb293 ≠ gb291)); replace BK291 := zkb BK291 hb; clear hb hbox hg; have hnb78 := NB293_291.out; have hnc78 := NB291_293.out; obtain ⟨hcz79_0, hcz79_1, hcz79_2⟩ := zc3 BK293; obtain ⟨hfz79_0, hfz79_1, hfz79_2⟩ := zf3 BK293))
     go_ret
     exact ⟨zr, zB HB⟩
   rw [if_pos c51] at H
   have c51b0 : (((rd_T74 l0_11 x3_2).f0) == 17) = true := beq_iff_eq.mpr c51; have c51b1 : (((rd_T74 l0_11 x3_2).f0) != 17) = false := bne_eq_false_iff_eq.mpr c51; clear c51
   by_cases c52 : ((rd_T74 l0_11 x3_2).f1) < 0
   · rw [if_pos c52] at H
     have c52b0 : decide (((rd_T74 l0_11 x3_2).f1) < 0) = true := decide_eq_true c52; clear c52
     obtain rfl := Option.some.inj H
     obtain ⟨hcz53_0, hcz53_1, hcz53_2, hcz53_3, hcz53_4, hcz53_5, hcz53_6, hcz53_7, hcz53_8, hcz53_9, hcz53_10, hcz53_11⟩ := zc12 BK291; obtain ⟨hfz53_0, hfz53_1, hfz53_2, hfz53_3, hfz53_4, hfz53_5, hfz53_6, hfz53_7, hfz53_8, hfz53_9, hfz53_10, hfz53_11⟩ := zf12 BK291
     have p292 : 0 ≤ (x3_2 : Int) := za
     have q292 : x3_2 < (l0_11.length : Int) := za
     obtain ⟨ad292, e292, hx292_0, hx292_1, hx292_2⟩ := at_T74 HR0_11.out x3_2 p292 q292
     cases e292
     replace hx292_0 := zh HB hx292_0; replace hx292_1 := zh HB hx292_1; replace hx292_2 := zh HB hx292_2
     replace p292 := eq_true p292
     replace q292 := eq_true q292
     go_wp2_with (first | ((with_reducible refine gate_dst (N := 4) rfl ?_); refine zx 4 #[.int .i64 0, .int .i64 0, .int .i64 0] 74 ?_; intro gb293 hg w54 hbox hb; have BK293 := Aside0.mk (hbox); have GW293 := zG HB hg; have GE293 := zG HB hg; replace HB := Aside0.mk (below_step (zB HB) hb); have NB291_293 := Aside0.mk ((by rw [hg]; exact Nat.ne_of_lt (blk_lt (g := gb291) (o := .cells #[.string a0_0, .bool a0_1, .int .u64 a0_2, .int .u64 a0_3, .int .i64 a0_4, .int .i64 a0_5, .int .i64 a0_6, .int .i64 a0_7, .int .i64 a0_8, .bool a0_9, .int .i64 a0_10, .slice (some ad292) l0_11.length c0_11] 36 (0, 0)) (zK BK291)) : gb291 ≠ gb293)); have NB293_291 := Aside0.mk ((by rw [hg]; exact Nat.ne_of_gt (blk_lt (g := gb291) (o := .cells #[.string a0_0, .bool a0_1, .int .u64 a0_2, .int .u64 a0_3, .int .i64 a0_4, .int .i64 a0_5, .int .i64 a0_6, .int .i64 a0_7, .int .i64 a0_8, .bool a0_9, .int .i64 a0_10, .slice (some ad292) l0_11.length c0_11] 36 (0, 0)) (zK BK291)) : gb293 ≠ gb291)); replace BK291 := zkb BK291 hb; clear hb hbox hg; have hnb55 := NB293_291.out; have hnc55 := NB291_293.out; obtain ⟨hcz56_0, hcz56_1, hcz56_2⟩ := zc3 BK293; obtain ⟨hfz56_0, hfz56_1, hfz56_2⟩ := zf3 BK293))
     go_ret
     exact ⟨zr, zB HB⟩
   rw [if_neg c52] at H
   have c52b0 : decide (((rd_T74 l0_11 x3_2).f1) < 0) = false := decide_eq_false c52; clear c52
   by_cases c57 : ((rd_T74 l0_11 x3_2).f1) > 65535
   · rw [if_pos c57] at H
     have c57b0 : decide (65535 < ((rd_T74 l0_11 x3_2).f1)) = true := decide_eq_true c57; clear c57
     obtain rfl := Option.some.inj H
     obtain ⟨hcz58_0, hcz58_1, hcz58_2, hcz58_3, hcz58_4, hcz58_5, hcz58_6, hcz58_7, hcz58_8, hcz58_9, hcz58_10, hcz58_11⟩ := zc12 BK291; obtain ⟨hfz58_0, hfz58_1, hfz58_2, hfz58_3, hfz58_4, hfz58_5, hfz58_6, hfz58_7, hfz58_8, hfz58_9, hfz58_10, hfz58_11⟩ := zf12 BK291
     have p292 : 0 ≤ (x3_2 : Int) := za
     have q292 : x3_2 < (l0_11.length : Int) := za
     obtain ⟨ad292, e292, hx292_0, hx292_1, hx292_2⟩ := at_T74 HR0_11.out x3_2 p292 q292
     cases e292
     replace hx292_0 := zh HB hx292_0; replace hx292_1 := zh HB hx292_1; replace hx292_2 := zh HB hx292_2
     replace p292 := eq_true p292
     replace q292 := eq_true q292
     go_wp2_with (first | ((with_reducible refine gate_dst (N := 4) rfl ?_); refine zx 4 #[.int .i64 0, .int .i64 0, .int .i64 0] 74 ?_; intro gb293 hg w59 hbox hb; have BK293 := Aside0.mk (hbox); have GW293 := zG HB hg; have GE293 := zG HB hg; replace HB := Aside0.mk (below_step (zB HB) hb); have NB291_293 := Aside0.mk ((by rw [hg]; exact Nat.ne_of_lt (blk_lt (g := gb291) (o := .cells #[.string a0_0, .bool a0_1, .int .u64 a0_2, .int .u64 a0_3, .int .i64 a0_4, .int .i64 a0_5, .int .i64 a0_6, .int .i64 a0_7, .int .i64 a0_8, .bool a0_9, .int .i64 a0_10, .slice (some ad292) l0_11.length c0_11] 36 (0, 0)) (zK BK291)) : gb291 ≠ gb293)); have NB293_291 := Aside0.mk ((by rw [hg]; exact Nat.ne_of_gt (blk_lt (g := gb291) (o := .cells #[.string a0_0, .bool a0_1, .int .u64 a0_2, .int .u64 a0_3, .int .i64 a0_4, .int .i64 a0_5, .int .i64 a0_6, .int .i64 a0_7, .int .i64 a0_8, .bool a0_9, .int .i64 a0_10, .slice (some ad292) l0_11.length c0_11] 36 (0, 0)) (zK BK291)) : gb293 ≠ gb291)); replace BK291 := zkb BK291 hb; clear hb hbox hg; have hnb60 := NB293_291.out; have hnc60 := NB291_293.out; obtain ⟨hcz61_0, hcz61_1, hcz61_2⟩ := zc3 BK293; obtain ⟨hfz61_0, hfz61_1, hfz61_2⟩ := zf3 BK293))
     go_ret
     exact ⟨zr, zB HB⟩
   rw [if_neg c57] at H
   have c57b0 : decide (65535 < ((rd_T74 l0_11 x3_2).f1)) = false := decide_eq_false c57; clear c57
   by_cases c62 : ((rd_T74 l0_11 x3_2).f2) < 0
   · rw [if_pos c62] at H
     have c62b0 : decide (((rd_T74 l0_11 x3_2).f2) < 0) = true := decide_eq_true c62; clear c62
     obtain rfl := Option.some.inj H
     obtain ⟨hcz63_0, hcz63_1, hcz63_2, hcz63_3, hcz63_4, hcz63_5, hcz63_6, hcz63_7, hcz63_8, hcz63_9, hcz63_10, hcz63_11⟩ := zc12 BK291; obtain ⟨hfz63_0, hfz63_1, hfz63_2, hfz63_3, hfz63_4, hfz63_5, hfz63_6, hfz63_7, hfz63_8, hfz63_9, hfz63_10, hfz63_11⟩ := zf12 BK291
     have p292 : 0 ≤ (x3_2 : Int) := za
     have q292 : x3_2 < (l0_11.length : Int) := za
     obtain ⟨ad292, e292, hx292_0, hx292_1, hx292_2⟩ := at_T74 HR0_11.out x3_2 p292 q292
     cases e292
     replace hx292_0 := zh HB hx292_0; replace hx292_1 := zh HB hx292_1; replace hx292_2 := zh HB hx292_2
     replace p292 := eq_true p292
     replace q292 := eq_true q292
     go_wp2_with (first | ((with_reducible refine gate_dst (N := 4) rfl ?_); refine zx 4 #[.int .i64 0, .int .i64 0, .int .i64 0] 74 ?_; intro gb293 hg w64 hbox hb; have BK293 := Aside0.mk (hbox); have GW293 := zG HB hg; have GE293 := zG HB hg; replace HB := Aside0.mk (below_step (zB HB) hb); have NB291_293 := Aside0.mk ((by rw [hg]; exact Nat.ne_of_lt (blk_lt (g := gb291) (o := .cells #[.string a0_0, .bool a0_1, .int .u64 a0_2, .int .u64 a0_3, .int .i64 a0_4, .int .i64 a0_5, .int .i64 a0_6, .int .i64 a0_7, .int .i64 a0_8, .bool a0_9, .int .i64 a0_10, .slice (some ad292) l0_11.length c0_11] 36 (0, 0)) (zK BK291)) : gb291 ≠ gb293)); have NB293_291 := Aside0.mk ((by rw [hg]; exact Nat.ne_of_gt (blk_lt (g := gb291) (o := .cells #[.string a0_0, .bool a0_1, .int .u64 a0_2, .int .u64 a0_3, .int .i64 a0_4, .int .i64 a0_5, .int .i64 a0_6, .int .i64 a0_7, .int .i64 a0_8, .bool a0_9, .int .i64 a0_10, .slice (some ad292) l0_11.length c0_11] 36 (0, 0)) (zK BK291)) : gb293 ≠ gb291)); replace BK291 := zkb BK291 hb; clear hb hbox hg; have hnb65 := NB293_291.out; have hnc65 := NB291_293.out; obtain ⟨hcz66_0, hcz66_1, hcz66_2⟩ := zc3 BK293; obtain ⟨hfz66_0, hfz66_1, hfz66_2⟩ := zf3 BK293))
     go_ret
     exact ⟨zr, zB HB⟩
   rw [if_neg c62] at H
   have c62b0 : decide (((rd_T74 l0_11 x3_2).f2) < 0) = false := decide_eq_false c62; clear c62
   by_cases c67 : ((rd_T74 l0_11 x3_2).f2) > 4
   · rw [if_pos c67] at H
     have c67b0 : decide (4 < ((rd_T74 l0_11 x3_2).f2)) = true := decide_eq_true c67; clear c67
     obtain rfl := Option.some.inj H
     obtain ⟨hcz68_0, hcz68_1, hcz68_2, hcz68_3, hcz68_4, hcz68_5, hcz68_6, hcz68_7, hcz68_8, hcz68_9, hcz68_10, hcz68_11⟩ := zc12 BK291; obtain ⟨hfz68_0, hfz68_1, hfz68_2, hfz68_3, hfz68_4, hfz68_5, hfz68_6, hfz68_7, hfz68_8, hfz68_9, hfz68_10, hfz68_11⟩ := zf12 BK291
     have p292 : 0 ≤ (x3_2 : Int) := za
     have q292 : x3_2 < (l0_11.length : Int) := za
     obtain ⟨ad292, e292, hx292_0, hx292_1, hx292_2⟩ := at_T74 HR0_11.out x3_2 p292 q292
     cases e292
     replace hx292_0 := zh HB hx292_0; replace hx292_1 := zh HB hx292_1; replace hx292_2 := zh HB hx292_2
     replace p292 := eq_true p292
     replace q292 := eq_true q292
     go_wp2_with (first | ((with_reducible refine gate_dst (N := 4) rfl ?_); refine zx 4 #[.int .i64 0, .int .i64 0, .int .i64 0] 74 ?_; intro gb293 hg w69 hbox hb; have BK293 := Aside0.mk (hbox); have GW293 := zG HB hg; have GE293 := zG HB hg; replace HB := Aside0.mk (below_step (zB HB) hb); have NB291_293 := Aside0.mk ((by rw [hg]; exact Nat.ne_of_lt (blk_lt (g := gb291) (o := .cells #[.string a0_0, .bool a0_1, .int .u64 a0_2, .int .u64 a0_3, .int .i64 a0_4, .int .i64 a0_5, .int .i64 a0_6, .int .i64 a0_7, .int .i64 a0_8, .bool a0_9, .int .i64 a0_10, .slice (some ad292) l0_11.length c0_11] 36 (0, 0)) (zK BK291)) : gb291 ≠ gb293)); have NB293_291 := Aside0.mk ((by rw [hg]; exact Nat.ne_of_gt (blk_lt (g := gb291) (o := .cells #[.string a0_0, .bool a0_1, .int .u64 a0_2, .int .u64 a0_3, .int .i64 a0_4, .int .i64 a0_5, .int .i64 a0_6, .int .i64 a0_7, .int .i64 a0_8, .bool a0_9, .int .i64 a0_10, .slice (some ad292) l0_11.length c0_11] 36 (0, 0)) (zK BK291)) : gb293 ≠ gb291)); replace BK291 := zkb BK291 hb; clear hb hbox hg; have hnb70 := NB293_291.out; have hnc70 := NB291_293.out; obtain ⟨hcz71_0, hcz71_1, hcz71_2⟩ := zc3 BK293; obtain ⟨hfz71_0, hfz71_1, hfz71_2⟩ := zf3 BK293))
     go_ret
     exact ⟨zr, zB HB⟩
   rw [if_neg c67] at H
   have c67b0 : decide (4 < ((rd_T74 l0_11 x3_2).f2)) = false := decide_eq_false c67; clear c67
   have H' := Aside0.mk H
   clear H; obtain ⟨hcz72_0, hcz72_1, hcz72_2, hcz72_3, hcz72_4, hcz72_5, hcz72_6, hcz72_7, hcz72_8, hcz72_9, hcz72_10, hcz72_11⟩ := zc12 BK291; obtain ⟨hfz72_0, hfz72_1, hfz72_2, hfz72_3, hfz72_4, hfz72_5, hfz72_6, hfz72_7, hfz72_8, hfz72_9, hfz72_10, hfz72_11⟩ := zf12 BK291
   have p292 : 0 ≤ (x3_2 : Int) := za
   have q292 : x3_2 < (l0_11.length : Int) := za
   obtain ⟨ad292, e292, hx292_0, hx292_1, hx292_2⟩ := at_T74 HR0_11.out x3_2 p292 q292
   cases e292
   replace hx292_0 := zh HB hx292_0; replace hx292_1 := zh HB hx292_1; replace hx292_2 := zh HB hx292_2
   replace p292 := eq_true p292
   replace q292 := eq_true q292
   go_wp2_with (first | ((with_reducible refine gate_dst (N := 4) rfl ?_); refine zx 4 #[.int .i64 0, .int .i64 0, .int .i64 0] 74 ?_; intro gb293 hg w73 hbox hb; have BK293 := Aside0.mk (hbox); have GW293 := zG HB hg; have GE293 := zG HB hg; replace HB := Aside0.mk (below_step (zB HB) hb); have NB291_293 := Aside0.mk ((by rw [hg]; exact Nat.ne_of_lt (blk_lt (g := gb291) (o := .cells #[.string a0_0, .bool a0_1, .int .u64 a0_2, .int .u64 a0_3, .int .i64 a0_4, .int .i64 a0_5, .int .i64 a0_6, .int .i64 a0_7, .int .i64 a0_8, .bool a0_9, .int .i64 a0_10, .slice (some ad292) l0_11.length c0_11] 36 (0, 0)) (zK BK291)) : gb291 ≠ gb293)); have NB293_291 := Aside0.mk ((by rw [hg]; exact Nat.ne_of_gt (blk_lt (g := gb291) (o := .cells #[.string a0_0, .bool a0_1, .int .u64 a0_2, .int .u64 a0_3, .int .i64 a0_4, .int .i64 a0_5, .int .i64 a0_6, .int .i64 a0_7, .int .i64 a0_8, .bool a0_9, .int .i64 a0_10, .slice (some ad292) l0_11.length c0_11] 36 (0, 0)) (zK BK291)) : gb293 ≠ gb291)); replace BK291 := zkb BK291 hb; clear hb hbox hg; have hnb74 := NB293_291.out; have hnc74 := NB291_293.out; obtain ⟨hcz75_0, hcz75_1, hcz75_2⟩ := zc3 BK293; obtain ⟨hfz75_0, hfz75_1, hfz75_2⟩ := zf3 BK293))
   go_roundg k2
   case measure => have := HJ1.out; have := HK2.out; omega
   case rel => exact ⟨(wrap64 (x3_2 + 1)), zI, H', ⟨by have := HJ1.out; have := HK2.out; omega⟩, ⟨by refine zL ?_; refine blk_far ?_ NB291_293.out _; refine zL ?_; refine blk_far ?_ NB291_293.out _; refine zL ?_; refine blk_far ?_ NB291_293.out _; refine zL ?_; exact BK291.out⟩, ⟨zB HB⟩⟩
def r06_Valid.f (a0_0 : Bool) (a0_1 : Int) (a0_2 : Int) : Option (Bool) := if a0_0 = true then (some true) else (if a0_1 = 0 then (some (decide (a0_2 < 4294967296))) else (some false))
theorem r06_Valid.calls (a0_0 : Bool) (a0_1 : Int) (a0_2 : Int) (r : Bool) (w : World) (h : r06_Valid.f a0_0 a0_1 a0_2 = some r) :
 Calls Tryz.prog 24 #[.agg #[.bool a0_0, .int .u64 a0_1, .int .u64 a0_2]] w fun e w' => e = .returned (.bool r) ∧ Below w.heap.size w w' := by
 have hu31 := Tryz.underlying31
 have HB := Aside0.mk (Below.refl w.heap.size w)
 unfold r06_Valid.f at h; have H := h
 clear h
 by_cases c2 : a0_0 = true
 · subst c2
   rw [if_pos rfl] at H
   obtain rfl := Option.some.inj H
   go_enter Tryz.func24, Tryz.ntmps24
   go_wp2_with (first | ((with_reducible refine gate_dst (N := 1) rfl ?_); refine zx 1 #[.bool true, .int .u64 a0_1, .int .u64 a0_2] 31 ?_; intro gb294 hg w3 hbox hb; have BK294 := Aside0.mk (hbox); have GW294 := zG HB hg; have GE294 := zG HB hg; replace HB := Aside0.mk (below_step (zB HB) hb); clear hb hbox hg; obtain ⟨hcz4_0, hcz4_1, hcz4_2⟩ := zc3 BK294; obtain ⟨hfz4_0, hfz4_1, hfz4_2⟩ := zf3 BK294))
   go_ret
   exact ⟨zr, zB HB⟩
 replace c2 := Bool.eq_false_iff.mpr c2
 subst c2; rw [if_neg zF] at H
 by_cases c5 : a0_1 = 0
 · rw [if_pos c5] at H
   have c5b0 : (a0_1 == 0) = true := beq_iff_eq.mpr c5; have c5b1 : (a0_1 != 0) = false := bne_eq_false_iff_eq.mpr c5; clear c5
   obtain rfl := Option.some.inj H
   go_enter Tryz.func24, Tryz.ntmps24
   go_wp2_with (first | ((with_reducible refine gate_dst (N := 1) rfl ?_); refine zx 1 #[.bool false, .int .u64 a0_1, .int .u64 a0_2] 31 ?_; intro gb294 hg w6 hbox hb; have BK294 := Aside0.mk (hbox); have GW294 := zG HB hg; have GE294 := zG HB hg; replace HB := Aside0.mk (below_step (zB HB) hb); clear hb hbox hg; obtain ⟨hcz7_0, hcz7_1, hcz7_2⟩ := zc3 BK294; obtain ⟨hfz7_0, hfz7_1, hfz7_2⟩ := zf3 BK294))
   go_ret
   exact ⟨zr, zB HB⟩
 rw [if_neg c5] at H
 have c5b0 : (a0_1 == 0) = false := beq_eq_false_iff_ne.mpr c5
 have c5b1 : (a0_1 != 0) = true := bne_iff_ne.mpr c5
 obtain rfl := Option.some.inj H
 go_enter Tryz.func24, Tryz.ntmps24
 go_wp2_with (first | ((with_reducible refine gate_dst (N := 1) rfl ?_); refine zx 1 #[.bool false, .int .u64 a0_1, .int .u64 a0_2] 31 ?_; intro gb294 hg w8 hbox hb; have BK294 := Aside0.mk (hbox); have GW294 := zG HB hg; have GE294 := zG HB hg; replace HB := Aside0.mk (below_step (zB HB) hb); clear hb hbox hg; obtain ⟨hcz9_0, hcz9_1, hcz9_2⟩ := zc3 BK294; obtain ⟨hfz9_0, hfz9_1, hfz9_2⟩ := zf3 BK294))
 go_ret
 exact ⟨zr, zB HB⟩
def r06_Width.f (a0_0 : Bool) (a0_1 : Int) (a0_2 : Int) : Option (Int) := if a0_0 = true then (some 128) else (some 32)
theorem r06_Width.calls (a0_0 : Bool) (a0_1 : Int) (a0_2 : Int) (r : Int) (w : World) (h : r06_Width.f a0_0 a0_1 a0_2 = some r) :
 Calls Tryz.prog 60 #[.agg #[.bool a0_0, .int .u64 a0_1, .int .u64 a0_2]] w fun e w' => e = .returned (.int .i64 r) ∧ Below w.heap.size w w' := by
 have hu31 := Tryz.underlying31
 have HB := Aside0.mk (Below.refl w.heap.size w)
 unfold r06_Width.f at h; have H := h
 clear h
 by_cases c2 : a0_0 = true
 · subst c2
   rw [if_pos rfl] at H
   obtain rfl := Option.some.inj H
   go_enter Tryz.func60, Tryz.ntmps60
   go_wp2_with (first | ((with_reducible refine gate_dst (N := 1) rfl ?_); refine zx 1 #[.bool true, .int .u64 a0_1, .int .u64 a0_2] 31 ?_; intro gb295 hg w3 hbox hb; have BK295 := Aside0.mk (hbox); have GW295 := zG HB hg; have GE295 := zG HB hg; replace HB := Aside0.mk (below_step (zB HB) hb); clear hb hbox hg; obtain ⟨hcz4_0, hcz4_1, hcz4_2⟩ := zc3 BK295; obtain ⟨hfz4_0, hfz4_1, hfz4_2⟩ := zf3 BK295))
   go_ret
   exact ⟨zr, zB HB⟩
 replace c2 := Bool.eq_false_iff.mpr c2
 subst c2; rw [if_neg zF] at H
 obtain rfl := Option.some.inj H
 go_enter Tryz.func60, Tryz.ntmps60
 go_wp2_with (first | ((with_reducible refine gate_dst (N := 1) rfl ?_); refine zx 1 #[.bool false, .int .u64 a0_1, .int .u64 a0_2] 31 ?_; intro gb295 hg w5 hbox hb; have BK295 := Aside0.mk (hbox); have GW295 := zG HB hg; have GE295 := zG HB hg; replace HB := Aside0.mk (below_step (zB HB) hb); clear hb hbox hg; obtain ⟨hcz6_0, hcz6_1, hcz6_2⟩ := zc3 BK295; obtain ⟨hfz6_0, hfz6_1, hfz6_2⟩ := zf3 BK295))
 go_ret
 exact ⟨zr, zB HB⟩
def r06_Bit.f (a0_0 : Bool) (a0_1 : Int) (a0_2 : Int) (a1 : Int) : Option (Bool) := if a0_0 = true then (if a1 < 64 then (if 0 ≤ (IntKind.u64.wrap (wrap64 (63 - a1))) then (some ((Go.bits .and .u64 (shr .u64 a0_1 (IntKind.u64.wrap (wrap64 (63 - a1)))) 1) == 1)) else (none)) else (if 0 ≤ (IntKind.u64.wrap (wrap64 (127 - a1))) then (some ((Go.bits .and .u64 (shr .u64 a0_2 (IntKind.u64.wrap (wrap64 (127 - a1)))) 1) == 1)) else (none))) else (if 0 ≤ (IntKind.u64.wrap (wrap64 (31 - a1))) then (some ((Go.bits .and .u64 (shr .u64 a0_2 (IntKind.u64.wrap (wrap64 (31 - a1)))) 1) == 1)) else (none))
theorem r06_Bit.calls (a0_0 : Bool) (a0_1 : Int) (a0_2 : Int) (a1 : Int) (r : Bool) (w : World) (h : r06_Bit.f a0_0 a0_1 a0_2 a1 = some r) :
 Calls Tryz.prog 87 #[.agg #[.bool a0_0, .int .u64 a0_1, .int .u64 a0_2], .int .i64 a1] w fun e w' => e = .returned (.bool r) ∧ Below w.heap.size w w' := by
 have hu31 := Tryz.underlying31
 have HB := Aside0.mk (Below.refl w.heap.size w)
 unfold r06_Bit.f at h; have H := h
 clear h
 by_cases c3 : a0_0 = true
 · subst c3
   rw [if_pos rfl] at H
   by_cases c4 : a1 < 64
   · rw [if_pos c4] at H
     have c4b0 : decide (a1 < 64) = true := decide_eq_true c4; clear c4
     obtain ⟨ji5, hji5⟩ : ∃ j_ : Int, (IntKind.u64.wrap (wrap64 (63 - a1))) = j_ := ⟨_, rfl⟩
     replace H : (if 0 ≤ (ji5) then (some ((Go.bits .and .u64 (shr .u64 a0_1 (ji5)) 1) == 1)) else (none)) = some r := by first | (rw [hji5] at H; exact H) | (simp only [hji5] at H ⊢; exact H)
     by_cases c6 : 0 ≤ (ji5)
     · rw [if_pos c6] at H
       have c6b0 := eq_true c6
       have c6b1 : decide (0 ≤ (ji5)) = true := decide_eq_true c6; clear c6
       obtain ⟨ji7, hji7⟩ : ∃ j_ : Int, (shr .u64 a0_1 (ji5)) = j_ := ⟨_, rfl⟩
       replace H : (some ((Go.bits .and .u64 (ji7) 1) == 1)) = some r := by first | (rw [hji7] at H; exact H) | (simp only [hji7] at H ⊢; exact H)
       have hji7_ : (a0_1 / 2 ^ min (ji5).toNat 64) = ji7 := hji7
       have hji7z : (ji5) ≤ 64 → (a0_1 / 2 ^ (ji5).toNat) = ji7 := shr_small hji7
       obtain rfl := Option.some.inj H
       go_enter Tryz.func87, Tryz.ntmps87
       go_wp2_with (first | ((with_reducible refine gate_dst (N := 2) rfl ?_); refine zx 2 #[.bool true, .int .u64 a0_1, .int .u64 a0_2] 31 ?_; intro gb296 hg w8 hbox hb; have BK296 := Aside0.mk (hbox); have GW296 := zG HB hg; have GE296 := zG HB hg; replace HB := Aside0.mk (below_step (zB HB) hb); clear hb hbox hg; obtain ⟨hcz9_0, hcz9_1, hcz9_2⟩ := zc3 BK296; obtain ⟨hfz9_0, hfz9_1, hfz9_2⟩ := zf3 BK296))
       go_ret
       exact ⟨by first | rfl | (simp [errW_none, errW_some] <;> rfl) | (simp only [← hji5, ← hji7]; first | rfl | (simp [errW_none, errW_some] <;> rfl)) | (simp [*, errW_none, errW_some] <;> rfl), by repeat (first | (with_reducible first | exact HB.out | apply below_alloc | apply pw_below_drewN | apply below_drew1 | refine below_set ?_ GE296.out) | exact HB.out)⟩
     rw [if_neg c6] at H
     exact absurd H (by simp)
   rw [if_neg c4] at H
   have c4b0 : decide (a1 < 64) = false := decide_eq_false c4; clear c4
   obtain ⟨ji10, hji10⟩ : ∃ j_ : Int, (IntKind.u64.wrap (wrap64 (127 - a1))) = j_ := ⟨_, rfl⟩
   replace H : (if 0 ≤ (ji10) then (some ((Go.bits .and .u64 (shr .u64 a0_2 (ji10)) 1) == 1)) else (none)) = some r := by first | (rw [hji10] at H; exact H) | (simp only [hji10] at H ⊢; exact H)
   by_cases c11 : 0 ≤ (ji10)
   · rw [if_pos c11] at H
     have c11b0 := eq_true c11
     have c11b1 : decide (0 ≤ (ji10)) = true := decide_eq_true c11; clear c11
     obtain ⟨ji12, hji12⟩ : ∃ j_ : Int, (shr .u64 a0_2 (ji10)) = j_ := ⟨_, rfl⟩
     replace H : (some ((Go.bits .and .u64 (ji12) 1) == 1)) = some r := by first | (rw [hji12] at H; exact H) | (simp only [hji12] at H ⊢; exact H)
     have hji12_ : (a0_2 / 2 ^ min (ji10).toNat 64) = ji12 := hji12
     have hji12z : (ji10) ≤ 64 → (a0_2 / 2 ^ (ji10).toNat) = ji12 := shr_small hji12
     obtain rfl := Option.some.inj H
     go_enter Tryz.func87, Tryz.ntmps87
     go_wp2_with (first | ((with_reducible refine gate_dst (N := 2) rfl ?_); refine zx 2 #[.bool true, .int .u64 a0_1, .int .u64 a0_2] 31 ?_; intro gb296 hg w13 hbox hb; have BK296 := Aside0.mk (hbox); have GW296 := zG HB hg; have GE296 := zG HB hg; replace HB := Aside0.mk (below_step (zB HB) hb); clear hb hbox hg; obtain ⟨hcz14_0, hcz14_1, hcz14_2⟩ := zc3 BK296; obtain ⟨hfz14_0, hfz14_1, hfz14_2⟩ := zf3 BK296))
     go_ret
     exact ⟨by first | rfl | (simp [errW_none, errW_some] <;> rfl) | (simp only [← hji10, ← hji12]; first | rfl | (simp [errW_none, errW_some] <;> rfl)) | (simp [*, errW_none, errW_some] <;> rfl), by repeat (first | (with_reducible first | exact HB.out | apply below_alloc | apply pw_below_drewN | apply below_drew1 | refine below_set ?_ GE296.out) | exact HB.out)⟩
   rw [if_neg c11] at H
   exact absurd H (by simp)
 replace c3 := Bool.eq_false_iff.mpr c3
 subst c3; rw [if_neg zF] at H
 obtain ⟨ji15, hji15⟩ : ∃ j_ : Int, (IntKind.u64.wrap (wrap64 (31 - a1))) = j_ := ⟨_, rfl⟩
 replace H : (if 0 ≤ (ji15) then (some ((Go.bits .and .u64 (shr .u64 a0_2 (ji15)) 1) == 1)) else (none)) = some r := by first | (rw [hji15] at H; exact H) | (simp only [hji15] at H ⊢; exact H)
 by_cases c16 : 0 ≤ (ji15)
 · rw [if_pos c16] at H
   have c16b0 := eq_true c16
   have c16b1 : decide (0 ≤ (ji15)) = true := decide_eq_true c16; clear c16
   obtain ⟨ji17, hji17⟩ : ∃ j_ : Int, (shr .u64 a0_2 (ji15)) = j_ := ⟨_, rfl⟩
   replace H : (some ((Go.bits .and .u64 (ji17) 1) == 1)) = some r := by first | (rw [hji17] at H; exact H) | (simp only [hji17] at H ⊢; exact H)
   have hji17_ : (a0_2 / 2 ^ min (ji15).toNat 64) = ji17 := hji17
   have hji17z : (ji15) ≤ 64 → (a0_2 / 2 ^ (ji15).toNat) = ji17 := shr_small hji17
   obtain rfl := Option.some.inj H
   go_enter Tryz.func87, Tryz.ntmps87
   go_wp2_with (first | ((with_reducible refine gate_dst (N := 2) rfl ?_); refine zx 2 #[.bool false, .int .u64 a0_1, .int .u64 a0_2] 31 ?_; intro gb296 hg w18 hbox hb; have BK296 := Aside0.mk (hbox); have GW296 := zG HB hg; have GE296 := zG HB hg; replace HB := Aside0.mk (below_step (zB HB) hb); clear hb hbox hg; obtain ⟨hcz19_0, hcz19_1, hcz19_2⟩ := zc3 BK296; obtain ⟨hfz19_0, hfz19_1, hfz19_2⟩ := zf3 BK296))
   go_ret
   exact ⟨by first | rfl | (simp [errW_none, errW_some] <;> rfl) | (simp only [← hji15, ← hji17]; first | rfl | (simp [errW_none, errW_some] <;> rfl)) | (simp [*, errW_none, errW_some] <;> rfl), by repeat (first | (with_reducible first | exact HB.out | apply below_alloc | apply pw_below_drewN | apply below_drew1 | refine below_set ?_ GE296.out) | exact HB.out)⟩
 rw [if_neg c16] at H
 exact absurd H (by simp)
def r06_with.l0 : Nat → Bool → Int → Bool → Int → Int → Option (Bool × Int × Int)
  | 0, _, _, _, _, _ => none
  | k + 1, x2, x7, x298000, x298001, x298002 => (r06_Width.f x298000 x298001 x298002).bind fun t299 => (if x7 < t299 then ((r06_Bit.f x298000 x298001 x298002 x7).bind fun t300 => (if (t300 == x2) = true then (r06_with.l0 k x2 (wrap64 (x7 + 1)) x298000 x298001 x298002) else (if x298000 = true then (if x7 < 64 then (if 0 ≤ (IntKind.u64.wrap (wrap64 (63 - x7))) then (r06_with.l0 k x2 (wrap64 (x7 + 1)) x298000 (Go.bits .xor .u64 x298001 (shl .u64 1 (IntKind.u64.wrap (wrap64 (63 - x7))))) x298002) else (none)) else (if 0 ≤ (IntKind.u64.wrap (wrap64 (127 - x7))) then (r06_with.l0 k x2 (wrap64 (x7 + 1)) x298000 x298001 (Go.bits .xor .u64 x298002 (shl .u64 1 (IntKind.u64.wrap (wrap64 (127 - x7)))))) else (none))) else (if 0 ≤ (IntKind.u64.wrap (wrap64 (31 - x7))) then (r06_with.l0 k x2 (wrap64 (x7 + 1)) x298000 x298001 (Go.bits .xor .u64 x298002 (shl .u64 1 (IntKind.u64.wrap (wrap64 (31 - x7)))))) else (none))))) else (some (x298000, x298001, x298002)))
def r06_with.f (k : Nat) (a0_0 : Bool) (a0_1 : Int) (a0_2 : Int) (a1 : Int) (a2 : Bool) : Option (Bool × Int × Int) := r06_with.l0 k a2 a1 a0_0 a0_1 a0_2
theorem r06_with.mono_l : ∀ k, (∀ y0 y1 y2 y3 y4, LeO (r06_with.l0 k y0 y1 y2 y3 y4) (r06_with.l0 (k + 1) y0 y1 y2 y3 y4))
  | 0 => fun _ _ _ _ _ r h => by simp [r06_with.l0] at h
  | k + 1 => by
    have ih0 := r06_with.mono_l k
    · intro y0 y1 y2 y3 y4
      unfold r06_with.l0
      repeat' first
      | (with_reducible exact ih0 _ _ _ _ _)
      | (with_reducible exact LeO.refl _)
      | (with_reducible exact LeO.none _)
      | (with_reducible refine LeO.ite ?_ ?_)
      | (with_reducible refine LeO.bind ?_ (fun _ => ?_))
theorem r06_with.mono : ∀ a0 a1 a2 a3 a4 k, LeO (r06_with.f k a0 a1 a2 a3 a4) (r06_with.f (k + 1) a0 a1 a2 a3 a4) := by
  intro a0 a1 a2 a3 a4 k
  have ih0 := r06_with.mono_l k
  unfold r06_with.f
  repeat' first
      | (with_reducible exact ih0 _ _ _ _ _)
      | (with_reducible exact LeO.refl _)
      | (with_reducible exact LeO.none _)
      | (with_reducible refine LeO.ite ?_ ?_)
      | (with_reducible refine LeO.bind ?_ (fun _ => ?_))
theorem r06_with.calls (k : Nat) (a0_0 : Bool) (a0_1 : Int) (a0_2 : Int) (a1 : Int) (a2 : Bool) (r1 : Bool) (r2 : Int) (r3 : Int) (w : World) (h : r06_with.f k a0_0 a0_1 a0_2 a1 a2 = some (r1, r2, r3)) :
 Calls Tryz.prog 54 #[.agg #[.bool a0_0, .int .u64 a0_1, .int .u64 a0_2], .int .i64 a1, .bool a2] w fun e w' => e = .returned (.agg #[.bool r1, .int .u64 r2, .int .u64 r3]) ∧ Below w.heap.size w w' := by
 have hu31 := Tryz.underlying31
 have HB := Aside0.mk (Below.refl w.heap.size w)
 unfold r06_with.f at h; have H := h
 clear h
 have H' := Aside0.mk H
 clear H
 go_enter Tryz.func54, Tryz.ntmps54
 go_wp2_with (first | ((with_reducible refine gate_dst (N := 3) rfl ?_); refine zx 3 #[.bool a0_0, .int .u64 a0_1, .int .u64 a0_2] 31 ?_; intro gb297 hg w4 hbox hb; have BK297 := Aside0.mk (hbox); have GW297 := zG HB hg; have GE297 := zG HB hg; replace HB := Aside0.mk (below_step (zB HB) hb); clear hb hbox hg) | ((with_reducible refine gate_dst (N := 6) rfl ?_); refine zx 6 #[.bool false, .int .u64 0, .int .u64 0] 31 ?_; intro gb298 hg w5 hbox hb; have BK298 := Aside0.mk (hbox); have GW298 := zG HB hg; have GE298 := zG HB hg; replace HB := Aside0.mk (below_step (zB HB) hb); have NB297_298 := Aside0.mk ((by rw [hg]; exact Nat.ne_of_lt (blk_lt (g := gb297) (o := .cells #[.bool a0_0, .int .u64 a0_1, .int .u64 a0_2] 31 (0, 0)) (zK BK297)) : gb297 ≠ gb298)); have NB298_297 := Aside0.mk ((by rw [hg]; exact Nat.ne_of_gt (blk_lt (g := gb297) (o := .cells #[.bool a0_0, .int .u64 a0_1, .int .u64 a0_2] 31 (0, 0)) (zK BK297)) : gb298 ≠ gb297)); replace BK297 := zkb BK297 hb; clear hb hbox hg))
 go_loopg [7] k (fun kq v7 w' => ∃ (x7_1 : Int) (x298001_1 : Int) (x298002_1 : Int), v7 = .int .i64 x7_1 ∧ Aside0 (r06_with.l0 kq a2 x7_1 a0_0 x298001_1 x298002_1 = some (r1, r2, r3)) ∧ Aside0 (kq ≤ k) ∧ Aside0 (w'.heap[gb297]? = some (.cells #[.bool a0_0, .int .u64 x298001_1, .int .u64 x298002_1] 31 (0, 0))) ∧ Aside0 (w'.heap[gb298]? = some (.cells #[.bool false, .int .u64 0, .int .u64 0] 31 (0, 0))) ∧ Aside0 (Below w.heap.size w w'))
 case atStart => exact ⟨(a1), (a0_1), (a0_2), zI, H', ⟨Nat.le_refl _⟩, ⟨zK BK297⟩, ⟨zK BK298⟩, ⟨zB HB⟩⟩
 case round =>
  clear H'
  obtain ⟨x7_1, x298001_1, x298002_1, rfl, HA, HK1, BK297, BK298, HB⟩ := hrel
  rcases gk with _ | k1
  · exact absurd HA.out (by simp [r06_with.l0])
  have H := HA.out
  clear HA
  simp only [r06_with.l0] at H
  replace H := Option.bind_eq_some_iff.mp H
  obtain ⟨t299, A60, H⟩ := H
  replace H : (if x7_1 < t299 then ((r06_Bit.f a0_0 x298001_1 x298002_1 x7_1).bind fun t300 => (if (t300 == a2) = true then (r06_with.l0 k1 a2 (wrap64 (x7_1 + 1)) a0_0 x298001_1 x298002_1) else (if a0_0 = true then (if x7_1 < 64 then (if 0 ≤ (IntKind.u64.wrap (wrap64 (63 - x7_1))) then (r06_with.l0 k1 a2 (wrap64 (x7_1 + 1)) a0_0 (Go.bits .xor .u64 x298001_1 (shl .u64 1 (IntKind.u64.wrap (wrap64 (63 - x7_1))))) x298002_1) else (none)) else (if 0 ≤ (IntKind.u64.wrap (wrap64 (127 - x7_1))) then (r06_with.l0 k1 a2 (wrap64 (x7_1 + 1)) a0_0 x298001_1 (Go.bits .xor .u64 x298002_1 (shl .u64 1 (IntKind.u64.wrap (wrap64 (127 - x7_1)))))) else (none))) else (if 0 ≤ (IntKind.u64.wrap (wrap64 (31 - x7_1))) then (r06_with.l0 k1 a2 (wrap64 (x7_1 + 1)) a0_0 x298001_1 (Go.bits .xor .u64 x298002_1 (shl .u64 1 (IntKind.u64.wrap (wrap64 (31 - x7_1)))))) else (none))))) else (some (a0_0, x298001_1, x298002_1))) = some (r1, r2, r3) := H
  have A6 := Aside0.mk A60; clear A60
  by_cases c7 : x7_1 < t299
  rotate_left
  · rw [if_neg c7] at H
    have c7b0 : decide (x7_1 < t299) = false := decide_eq_false c7; clear c7
    simp only [Option.some.injEq, Prod.mk.injEq] at H
    obtain ⟨rfl, rfl, rfl⟩ := H
    have hnb44 := NB297_298.out
    have hnc44 := NB298_297.out
    obtain ⟨hcz45_0, hcz45_1, hcz45_2⟩ := zc3 BK297; obtain ⟨hfz45_0, hfz45_1, hfz45_2⟩ := zf3 BK297
    go_wp2_with (first | ((with_reducible refine gate_callee (f := 60) rfl ?_); refine zgl 11 Tryz.func60 #[.agg #[.bool a0_0, .int .u64 x298001_1, .int .u64 x298002_1]] ?_; (with_reducible refine (r06_Width.calls a0_0 x298001_1 x298002_1 t299 _ A6.out).mono ?_); rintro e w46 ⟨rfl, hb⟩; refine ⟨_, rfl, ?_⟩; replace BK297 := zkb BK297 hb; replace BK298 := zkb BK298 hb; replace HB := Aside0.mk (below_step (zB HB) hb); (try clear hb); obtain ⟨hcz47_0, hcz47_1, hcz47_2⟩ := zc3 BK297; obtain ⟨hfz47_0, hfz47_1, hfz47_2⟩ := zf3 BK297; obtain ⟨hcz48_0, hcz48_1, hcz48_2⟩ := zc3 BK298; obtain ⟨hfz48_0, hfz48_1, hfz48_2⟩ := zf3 BK298))
    refine bodyPost_ret (results_cell_row rfl _ _ gb298 31 #[.bool a0_0, .int .u64 x298001_1, .int .u64 x298002_1] (0, 0) _ rfl (by refine zL ?_; refine blk_put (cs := #[.bool a0_0, .int .u64 x298001_1, .int .u64 0]) ?_ 2 _ rfl; refine zL ?_; refine blk_put (cs := #[.bool a0_0, .int .u64 0, .int .u64 0]) ?_ 1 _ rfl; refine zL ?_; refine blk_put (cs := #[.bool false, .int .u64 0, .int .u64 0]) ?_ 0 _ rfl; refine zL ?_; exact BK298.out) Tryz.underlying31 rfl (by kernel_rfl)) rfl ?_
    exact ⟨zr, zB HB⟩
  rw [if_pos c7] at H
  have c7b0 : decide (x7_1 < t299) = true := decide_eq_true c7; clear c7
  replace H := Option.bind_eq_some_iff.mp H
  obtain ⟨t300, A80, H⟩ := H
  replace H : (if (t300 == a2) = true then (r06_with.l0 k1 a2 (wrap64 (x7_1 + 1)) a0_0 x298001_1 x298002_1) else (if a0_0 = true then (if x7_1 < 64 then (if 0 ≤ (IntKind.u64.wrap (wrap64 (63 - x7_1))) then (r06_with.l0 k1 a2 (wrap64 (x7_1 + 1)) a0_0 (Go.bits .xor .u64 x298001_1 (shl .u64 1 (IntKind.u64.wrap (wrap64 (63 - x7_1))))) x298002_1) else (none)) else (if 0 ≤ (IntKind.u64.wrap (wrap64 (127 - x7_1))) then (r06_with.l0 k1 a2 (wrap64 (x7_1 + 1)) a0_0 x298001_1 (Go.bits .xor .u64 x298002_1 (shl .u64 1 (IntKind.u64.wrap (wrap64 (127 - x7_1)))))) else (none))) else (if 0 ≤ (IntKind.u64.wrap (wrap64 (31 - x7_1))) then (r06_with.l0 k1 a2 (wrap64 (x7_1 + 1)) a0_0 x298001_1 (Go.bits .xor .u64 x298002_1 (shl .u64 1 (IntKind.u64.wrap (wrap64 (31 - x7_1)))))) else (none)))) = some (r1, r2, r3) := H
  have A8 := Aside0.mk A80; clear A80
  by_cases c9 : (t300 == a2) = true
  · rw [if_pos c9] at H
    have c9b0 : (t300 == a2) = true := c9
    (try (have c9b1 : decide (t300 = a2) = true := by first | (simpa using c9) | exact decide_eq_true (Decidable.not_not.1 (fun hn => c9 (bne_iff_ne.2 hn))) | exact beq_iff_eq.2 (Decidable.not_not.1 (fun hn => c9 (bne_iff_ne.2 hn))) | exact decide_eq_false (bne_iff_ne.1 c9) | exact beq_eq_false_iff_ne.2 (bne_iff_ne.1 c9) | exact bne_iff_ne.1 c9))
    (try (have c9b2 : (t300 == a2) = true := by first | (simpa using c9) | exact decide_eq_true (Decidable.not_not.1 (fun hn => c9 (bne_iff_ne.2 hn))) | exact beq_iff_eq.2 (Decidable.not_not.1 (fun hn => c9 (bne_iff_ne.2 hn))) | exact decide_eq_false (bne_iff_ne.1 c9) | exact beq_eq_false_iff_ne.2 (bne_iff_ne.1 c9) | exact bne_iff_ne.1 c9))
    clear c9
    have H' := Aside0.mk H
    clear H
    have hnb10 := NB297_298.out
    have hnc10 := NB298_297.out
    obtain ⟨hcz11_0, hcz11_1, hcz11_2⟩ := zc3 BK297; obtain ⟨hfz11_0, hfz11_1, hfz11_2⟩ := zf3 BK297
    go_wp2_with (first | ((with_reducible refine gate_callee (f := 60) rfl ?_); refine zgl 11 Tryz.func60 #[.agg #[.bool a0_0, .int .u64 x298001_1, .int .u64 x298002_1]] ?_; (with_reducible refine (r06_Width.calls a0_0 x298001_1 x298002_1 t299 _ A6.out).mono ?_); rintro e w12 ⟨rfl, hb⟩; refine ⟨_, rfl, ?_⟩; replace BK297 := zkb BK297 hb; replace BK298 := zkb BK298 hb; replace HB := Aside0.mk (below_step (zB HB) hb); (try clear hb); obtain ⟨hcz13_0, hcz13_1, hcz13_2⟩ := zc3 BK297; obtain ⟨hfz13_0, hfz13_1, hfz13_2⟩ := zf3 BK297) | ((with_reducible refine gate_callee (f := 87) rfl ?_); refine zgl 17 Tryz.func87 #[.agg #[.bool a0_0, .int .u64 x298001_1, .int .u64 x298002_1], .int .i64 x7_1] ?_; (with_reducible refine (r06_Bit.calls a0_0 x298001_1 x298002_1 x7_1 t300 _ A8.out).mono ?_); rintro e w14 ⟨rfl, hb⟩; refine ⟨_, rfl, ?_⟩; replace BK297 := zkb BK297 hb; replace BK298 := zkb BK298 hb; replace HB := Aside0.mk (below_step (zB HB) hb); (try clear hb)))
    go_roundg k1
    case measure => have := HK1.out; omega
    case rel => exact ⟨(wrap64 (x7_1 + 1)), (x298001_1), (x298002_1), zI, H', ⟨by have := HK1.out; omega⟩, ⟨zK BK297⟩, ⟨zK BK298⟩, ⟨zB HB⟩⟩
  rw [if_neg c9] at H
  have c9b0 : (t300 == a2) = false := by simpa using c9
  (try (have c9b1 : decide (t300 = a2) = false := by first | (simpa using c9) | exact decide_eq_true (Decidable.not_not.1 (fun hn => c9 (bne_iff_ne.2 hn))) | exact beq_iff_eq.2 (Decidable.not_not.1 (fun hn => c9 (bne_iff_ne.2 hn))) | exact decide_eq_false (bne_iff_ne.1 c9) | exact beq_eq_false_iff_ne.2 (bne_iff_ne.1 c9) | exact bne_iff_ne.1 c9))
  (try (have c9b2 : (t300 == a2) = false := by first | (simpa using c9) | exact decide_eq_true (Decidable.not_not.1 (fun hn => c9 (bne_iff_ne.2 hn))) | exact beq_iff_eq.2 (Decidable.not_not.1 (fun hn => c9 (bne_iff_ne.2 hn))) | exact decide_eq_false (bne_iff_ne.1 c9) | exact beq_eq_false_iff_ne.2 (bne_iff_ne.1 c9) | exact bne_iff_ne.1 c9))
  (try (have c9b3 : ¬ (t300 = a2) := by first | (simpa using c9) | exact decide_eq_true (Decidable.not_not.1 (fun hn => c9 (bne_iff_ne.2 hn))) | exact beq_iff_eq.2 (Decidable.not_not.1 (fun hn => c9 (bne_iff_ne.2 hn))) | exact decide_eq_false (bne_iff_ne.1 c9) | exact beq_eq_false_iff_ne.2 (bne_iff_ne.1 c9) | exact bne_iff_ne.1 c9))
  clear c9
  by_cases c15 : a0_0 = true
  · subst c15
    rw [if_pos rfl] at H
    by_cases c16 : x7_1 < 64
    · rw [if_pos c16] at H
      have c16b0 : decide (x7_1 < 64) = true := decide_eq_true c16; clear c16
      obtain ⟨ji17, hji17⟩ : ∃ j_ : Int, (IntKind.u64.wrap (wrap64 (63 - x7_1))) = j_ := ⟨_, rfl⟩
      replace H : (if 0 ≤ (ji17) then (r06_with.l0 k1 a2 (wrap64 (x7_1 + 1)) true (Go.bits .xor .u64 x298001_1 (shl .u64 1 (ji17))) x298002_1) else (none)) = some (r1, r2, r3) := by first | (rw [hji17] at H; exact H) | (simp only [hji17] at H ⊢; exact H)
      (try rw [hji17] at A6)
      (try rw [hji17] at A8)
      by_cases c18 : 0 ≤ (ji17)
      rotate_left
      · rw [if_neg c18] at H
        exact absurd H (by simp)
      rw [if_pos c18] at H
      have c18b0 := eq_true c18
      have c18b1 : decide (0 ≤ (ji17)) = true := decide_eq_true c18; clear c18
      obtain ⟨ji19, hji19⟩ : ∃ j_ : Int, (shl .u64 1 (ji17)) = j_ := ⟨_, rfl⟩
      replace H : (r06_with.l0 k1 a2 (wrap64 (x7_1 + 1)) true (Go.bits .xor .u64 x298001_1 (ji19)) x298002_1) = some (r1, r2, r3) := by first | (rw [hji19] at H; exact H) | (simp only [hji19] at H ⊢; exact H)
      (try rw [hji19] at A6)
      (try rw [hji19] at A8)
      have hji19_ : (IntKind.u64.wrap (1 * 2 ^ min (ji17).toNat 64)) = ji19 := hji19
      have hji19z : (ji17) ≤ 64 → (IntKind.u64.wrap (1 * 2 ^ (ji17).toNat)) = ji19 := shl_small hji19
      have hji19u : (IntKind.u64.wrap (2 ^ min (ji17).toNat 64)) = ji19 := by have h_ := hji19_; rw [Int.one_mul] at h_; exact h_
      have hji19v : (ji17) ≤ 64 → (IntKind.u64.wrap (2 ^ (ji17).toNat)) = ji19 := fun hle_ => by have h_ := hji19z hle_; rw [Int.one_mul] at h_; exact h_
      have H' := Aside0.mk H
      clear H
      have hnb20 := NB297_298.out
      have hnc20 := NB298_297.out
      obtain ⟨hcz21_0, hcz21_1, hcz21_2⟩ := zc3 BK297; obtain ⟨hfz21_0, hfz21_1, hfz21_2⟩ := zf3 BK297
      go_wp2_with (first | ((with_reducible refine gate_callee (f := 60) rfl ?_); refine zgl 11 Tryz.func60 #[.agg #[.bool true, .int .u64 x298001_1, .int .u64 x298002_1]] ?_; (with_reducible refine (r06_Width.calls true x298001_1 x298002_1 t299 _ A6.out).mono ?_); rintro e w22 ⟨rfl, hb⟩; refine ⟨_, rfl, ?_⟩; replace BK297 := zkb BK297 hb; replace BK298 := zkb BK298 hb; replace HB := Aside0.mk (below_step (zB HB) hb); (try clear hb); obtain ⟨hcz23_0, hcz23_1, hcz23_2⟩ := zc3 BK297; obtain ⟨hfz23_0, hfz23_1, hfz23_2⟩ := zf3 BK297) | ((with_reducible refine gate_callee (f := 87) rfl ?_); refine zgl 17 Tryz.func87 #[.agg #[.bool true, .int .u64 x298001_1, .int .u64 x298002_1], .int .i64 x7_1] ?_; (with_reducible refine (r06_Bit.calls true x298001_1 x298002_1 x7_1 t300 _ A8.out).mono ?_); rintro e w24 ⟨rfl, hb⟩; refine ⟨_, rfl, ?_⟩; replace BK297 := zkb BK297 hb; replace BK298 := zkb BK298 hb; replace HB := Aside0.mk (below_step (zB HB) hb); (try clear hb); obtain ⟨hcz25_0, hcz25_1, hcz25_2⟩ := zc3 BK297; obtain ⟨hfz25_0, hfz25_1, hfz25_2⟩ := zf3 BK297))
      go_roundg k1
      case measure => have := HK1.out; omega
      case rel => exact ⟨(wrap64 (x7_1 + 1)), (Go.bits .xor .u64 x298001_1 (ji19)), (x298002_1), zI, H', ⟨by have := HK1.out; omega⟩, ⟨by refine zL ?_; refine blk_put (cs := #[.bool true, .int .u64 x298001_1, .int .u64 x298002_1]) ?_ 1 _ rfl; refine zL ?_; exact BK297.out⟩, ⟨by refine zL ?_; refine blk_far ?_ NB298_297.out _; refine zL ?_; exact BK298.out⟩, ⟨zB HB⟩⟩
    rw [if_neg c16] at H
    have c16b0 : decide (x7_1 < 64) = false := decide_eq_false c16; clear c16
    obtain ⟨ji26, hji26⟩ : ∃ j_ : Int, (IntKind.u64.wrap (wrap64 (127 - x7_1))) = j_ := ⟨_, rfl⟩
    replace H : (if 0 ≤ (ji26) then (r06_with.l0 k1 a2 (wrap64 (x7_1 + 1)) true x298001_1 (Go.bits .xor .u64 x298002_1 (shl .u64 1 (ji26)))) else (none)) = some (r1, r2, r3) := by first | (rw [hji26] at H; exact H) | (simp only [hji26] at H ⊢; exact H)
    (try rw [hji26] at A6)
    (try rw [hji26] at A8)
    by_cases c27 : 0 ≤ (ji26)
    rotate_left
    · rw [if_neg c27] at H
      exact absurd H (by simp)
    rw [if_pos c27] at H
    have c27b0 := eq_true c27
    have c27b1 : decide (0 ≤ (ji26)) = true := decide_eq_true c27; clear c27
    obtain ⟨ji28, hji28⟩ : ∃ j_ : Int, (shl .u64 1 (ji26)) = j_ := ⟨_, rfl⟩
    replace H : (r06_with.l0 k1 a2 (wrap64 (x7_1 + 1)) true x298001_1 (Go.bits .xor .u64 x298002_1 (ji28))) = some (r1, r2, r3) := by first | (rw [hji28] at H; exact H) | (simp only [hji28] at H ⊢; exact H)
    (try rw [hji28] at A6)
    (try rw [hji28] at A8)
    have hji28_ : (IntKind.u64.wrap (1 * 2 ^ min (ji26).toNat 64)) = ji28 := hji28
    have hji28z : (ji26) ≤ 64 → (IntKind.u64.wrap (1 * 2 ^ (ji26).toNat)) = ji28 := shl_small hji28
    have hji28u : (IntKind.u64.wrap (2 ^ min (ji26).toNat 64)) = ji28 := by have h_ := hji28_; rw [Int.one_mul] at h_; exact h_
    have hji28v : (ji26) ≤ 64 → (IntKind.u64.wrap (2 ^ (ji26).toNat)) = ji28 := fun hle_ => by have h_ := hji28z hle_; rw [Int.one_mul] at h_; exact h_
    have H' := Aside0.mk H
    clear H
    have hnb29 := NB297_298.out
    have hnc29 := NB298_297.out
    obtain ⟨hcz30_0, hcz30_1, hcz30_2⟩ := zc3 BK297; obtain ⟨hfz30_0, hfz30_1, hfz30_2⟩ := zf3 BK297
    go_wp2_with (first | ((with_reducible refine gate_callee (f := 60) rfl ?_); refine zgl 11 Tryz.func60 #[.agg #[.bool true, .int .u64 x298001_1, .int .u64 x298002_1]] ?_; (with_reducible refine (r06_Width.calls true x298001_1 x298002_1 t299 _ A6.out).mono ?_); rintro e w31 ⟨rfl, hb⟩; refine ⟨_, rfl, ?_⟩; replace BK297 := zkb BK297 hb; replace BK298 := zkb BK298 hb; replace HB := Aside0.mk (below_step (zB HB) hb); (try clear hb); obtain ⟨hcz32_0, hcz32_1, hcz32_2⟩ := zc3 BK297; obtain ⟨hfz32_0, hfz32_1, hfz32_2⟩ := zf3 BK297) | ((with_reducible refine gate_callee (f := 87) rfl ?_); refine zgl 17 Tryz.func87 #[.agg #[.bool true, .int .u64 x298001_1, .int .u64 x298002_1], .int .i64 x7_1] ?_; (with_reducible refine (r06_Bit.calls true x298001_1 x298002_1 x7_1 t300 _ A8.out).mono ?_); rintro e w33 ⟨rfl, hb⟩; refine ⟨_, rfl, ?_⟩; replace BK297 := zkb BK297 hb; replace BK298 := zkb BK298 hb; replace HB := Aside0.mk (below_step (zB HB) hb); (try clear hb); obtain ⟨hcz34_0, hcz34_1, hcz34_2⟩ := zc3 BK297; obtain ⟨hfz34_0, hfz34_1, hfz34_2⟩ := zf3 BK297))
    go_roundg k1
    case measure => have := HK1.out; omega
    case rel => exact ⟨(wrap64 (x7_1 + 1)), (x298001_1), (Go.bits .xor .u64 x298002_1 (ji28)), zI, H', ⟨by have := HK1.out; omega⟩, ⟨by refine zL ?_; refine blk_put (cs := #[.bool true, .int .u64 x298001_1, .int .u64 x298002_1]) ?_ 2 _ rfl; refine zL ?_; exact BK297.out⟩, ⟨by refine zL ?_; refine blk_far ?_ NB298_297.out _; refine zL ?_; exact BK298.out⟩, ⟨zB HB⟩⟩
  replace c15 := Bool.eq_false_iff.mpr c15
  subst c15; rw [if_neg zF] at H
  obtain ⟨ji35, hji35⟩ : ∃ j_ : Int, (IntKind.u64.wrap (wrap64 (31 - x7_1))) = j_ := ⟨_, rfl⟩
  replace H : (if 0 ≤ (ji35) then (r06_with.l0 k1 a2 (wrap64 (x7_1 + 1)) false x298001_1 (Go.bits .xor .u64 x298002_1 (shl .u64 1 (ji35)))) else (none)) = some (r1, r2, r3) := by first | (rw [hji35] at H; exact H) | (simp only [hji35] at H ⊢; exact H)
  (try rw [hji35] at A6)
  (try rw [hji35] at A8)
  by_cases c36 : 0 ≤ (ji35)
  rotate_left
  · rw [if_neg c36] at H
    exact absurd H (by simp)
  rw [if_pos c36] at H
  have c36b0 := eq_true c36
  have c36b1 : decide (0 ≤ (ji35)) = true := decide_eq_true c36; clear c36
  obtain ⟨ji37, hji37⟩ : ∃ j_ : Int, (shl .u64 1 (ji35)) = j_ := ⟨_, rfl⟩
  replace H : (r06_with.l0 k1 a2 (wrap64 (x7_1 + 1)) false x298001_1 (Go.bits .xor .u64 x298002_1 (ji37))) = some (r1, r2, r3) := by first | (rw [hji37] at H; exact H) | (simp only [hji37] at H ⊢; exact H)
  (try rw [hji37] at A6)
  (try rw [hji37] at A8)
  have hji37_ : (IntKind.u64.wrap (1 * 2 ^ min (ji35).toNat 64)) = ji37 := hji37
  have hji37z : (ji35) ≤ 64 → (IntKind.u64.wrap (1 * 2 ^ (ji35).toNat)) = ji37 := shl_small hji37
  have hji37u : (IntKind.u64.wrap (2 ^ min (ji35).toNat 64)) = ji37 := by have h_ := hji37_; rw [Int.one_mul] at h_; exact h_
  have hji37v : (ji35) ≤ 64 → (IntKind.u64.wrap (2 ^ (ji35).toNat)) = ji37 := fun hle_ => by have h_ := hji37z hle_; rw [Int.one_mul] at h_; exact h_
  have H' := Aside0.mk H
  clear H
  have hnb38 := NB297_298.out
  have hnc38 := NB298_297.out
  obtain ⟨hcz39_0, hcz39_1, hcz39_2⟩ := zc3 BK297; obtain ⟨hfz39_0, hfz39_1, hfz39_2⟩ := zf3 BK297
  go_wp2_with (first | ((with_reducible refine gate_callee (f := 60) rfl ?_); refine zgl 11 Tryz.func60 #[.agg #[.bool false, .int .u64 x298001_1, .int .u64 x298002_1]] ?_; (with_reducible refine (r06_Width.calls false x298001_1 x298002_1 t299 _ A6.out).mono ?_); rintro e w40 ⟨rfl, hb⟩; refine ⟨_, rfl, ?_⟩; replace BK297 := zkb BK297 hb; replace BK298 := zkb BK298 hb; replace HB := Aside0.mk (below_step (zB HB) hb); (try clear hb); obtain ⟨hcz41_0, hcz41_1, hcz41_2⟩ := zc3 BK297; obtain ⟨hfz41_0, hfz41_1, hfz41_2⟩ := zf3 BK297) | ((with_reducible refine gate_callee (f := 87) rfl ?_); refine zgl 17 Tryz.func87 #[.agg #[.bool false, .int .u64 x298001_1, .int .u64 x298002_1], .int .i64 x7_1] ?_; (with_reducible refine (r06_Bit.calls false x298001_1 x298002_1 x7_1 t300 _ A8.out).mono ?_); rintro e w42 ⟨rfl, hb⟩; refine ⟨_, rfl, ?_⟩; replace BK297 := zkb BK297 hb; replace BK298 := zkb BK298 hb; replace HB := Aside0.mk (below_step (zB HB) hb); (try clear hb); obtain ⟨hcz43_0, hcz43_1, hcz43_2⟩ := zc3 BK297; obtain ⟨hfz43_0, hfz43_1, hfz43_2⟩ := zf3 BK297))
  go_roundg k1
  case measure => have := HK1.out; omega
  case rel => exact ⟨(wrap64 (x7_1 + 1)), (x298001_1), (Go.bits .xor .u64 x298002_1 (ji37)), zI, H', ⟨by have := HK1.out; omega⟩, ⟨by refine zL ?_; refine blk_put (cs := #[.bool false, .int .u64 x298001_1, .int .u64 x298002_1]) ?_ 2 _ rfl; refine zL ?_; exact BK297.out⟩, ⟨by refine zL ?_; refine blk_far ?_ NB298_297.out _; refine zL ?_; exact BK298.out⟩, ⟨zB HB⟩⟩
end Go.Proofs.YtnphnhkinjppjaaGreatDoor.Q
end

section
set_option maxHeartbeats 8000000
set_option maxRecDepth 100000
namespace Go.Proofs.YtnphnhkinjppjaaGreatDoor.Q
open Go.RowKit Go.Proofs.YtnphnhkinjppjaaGreatDoorW.PrintWords Go.Proofs.YtnphnhkinjppjaaGreatDoorW.PrintLast Go.Proofs.YtnphnhkinjppjaaGreatDoorW.PrintMore
attribute [local go_sem] max2_int min2_int max_two min_two max_three min_three max_four min_four
attribute [local go_sem high] eqA31
def r06_ValidPrefix.f (k : Nat) (a0_0 : Bool) (a0_1 : Int) (a0_2 : Int) (a0_3 : Int) : Option (Bool) := (r06_Valid.f a0_0 a0_1 a0_2).bind fun t302 => (if t302 = true then (if a0_3 ≥ 0 then ((r06_Width.f a0_0 a0_1 a0_2).bind fun t303 => (if a0_3 ≤ t303 then ((r06_with.f k a0_0 a0_1 a0_2 a0_3 false).bind fun bt304 => (some (bt304.1 == a0_0 && (bt304.2.1 == a0_1 && (bt304.2.2 == a0_2))))) else (some false))) else (some false)) else (some false))
theorem r06_ValidPrefix.mono : ∀ a0 a1 a2 a3 k, LeO (r06_ValidPrefix.f k a0 a1 a2 a3) (r06_ValidPrefix.f (k + 1) a0 a1 a2 a3) := by
  intro a0 a1 a2 a3 k
  unfold r06_ValidPrefix.f
  repeat' first
      | (with_reducible exact r06_with.mono _ _ _ _ _ _)
      | (with_reducible exact LeO.refl _)
      | (with_reducible exact LeO.none _)
      | (with_reducible refine LeO.ite ?_ ?_)
      | (with_reducible refine LeO.bind ?_ (fun _ => ?_))
def r06_ValidPrefix.T1 : Bool × List (List Nat × List Nat) := (true, [([], []), ([0], [0]), ([1], [1]), ([2, 2], [2]), ([3], [3]), ([4, 3], [3, 4]), ([5, 3], [3, 5]), ([3, 6], [3, 6]), ([7, 3], [7]), ([8], [8]), ([9, 8], [8, 9]), ([8], [8]), ([11, 8], [8, 11]), ([12, 8, 8], [8, 12]), ([10, 13, 8], [8, 10, 13]), ([8, 14], [8, 14]), ([15, 13], [15]), ([16], [16]), ([17, 16], [16, 17]), ([16], [16]), ([19, 16], [16, 19]), ([18, 20, 16, 16], [16, 18, 20]), ([16], [16]), ([22, 16], [16, 22]), ([21, 23, 16], [16, 21, 23]), ([16, 24], [16, 24]), ([25, 21, 0, 1, 2, 3, 4, 5, 6, 7, 8, 9, 10, 11, 12, 13, 14, 15, 16, 17, 18, 19, 20, 21, 22, 23, 24, 25], [25])])
def r06_ValidPrefix.B1 : List Nat := [0, 1, 3, 7, 15, 31, 63, 127, 255, 511, 1023, 511, 2559, 6655, 16383, 32767, 65535, 131071, 262143, 131071, 655359, 2097151, 131071, 4325375, 16777215, 33554431, 67108863]
theorem r06_ValidPrefix.tab1 : rtab .any (opsOf Tryz.f36 1) = r06_ValidPrefix.T1 := by kernel_rfl
theorem r06_ValidPrefix.bits1 : waitsOk r06_ValidPrefix.T1.2 r06_ValidPrefix.B1 = true := by kernel_rfl
theorem r06_ValidPrefix.calls (k : Nat) (a0_0 : Bool) (a0_1 : Int) (a0_2 : Int) (a0_3 : Int) (r : Bool) (w : World) (h : r06_ValidPrefix.f k a0_0 a0_1 a0_2 a0_3 = some r) :
 Calls Tryz.prog 36 #[.agg #[.bool a0_0, .int .u64 a0_1, .int .u64 a0_2, .int .i64 a0_3]] w fun e w' => e = .returned (.bool r) ∧ Below w.heap.size w w' := by
 have hu33 := Tryz.underlying33
 have hu31 := Tryz.underlying31
 have HB := Aside0.mk (Below.refl w.heap.size w)
 unfold r06_ValidPrefix.f at h; have H := h
 clear h
 replace H := Option.bind_eq_some_iff.mp H
 obtain ⟨t302, A20, H⟩ := H
 try dsimp only at H
 have A2 := Aside0.mk A20; clear A20
 by_cases c3 : t302 = true
 rotate_left
 · replace c3 := Bool.eq_false_iff.mpr c3
   subst c3; rw [if_neg zF] at H
   obtain rfl := Option.some.inj H
   go_enter Tryz.func36, Tryz.ntmps36
   try go_wp2_with (first | ((with_reducible refine gate_dst (N := 1) rfl ?_); refine zx 1 #[.bool a0_0, .int .u64 a0_1, .int .u64 a0_2, .int .i64 a0_3] 33 ?_; intro gb301 hg w20 hbox hb; have BK301 := Aside0.mk (hbox); have GW301 := zG HB hg; have GE301 := zG HB hg; replace HB := Aside0.mk (below_step (zB HB) hb); clear hb hbox hg))
   replace BK301 := Aside0.mk (blk_drew BK301.out); replace HB := Aside0.mk (below_drew1 HB.out)
   refine start_ (n := 27) (S := fun w' => w'.cell? ⟨gb301, 0, none⟩ = some (.bool a0_0) ∧ w'.cell? ⟨gb301, 1, none⟩ = some (.int .u64 a0_1) ∧ w'.cell? ⟨gb301, 2, none⟩ = some (.int .u64 a0_2) ∧ w'.cell? ⟨gb301, 3, none⟩ = some (.int .i64 a0_3)) (ds := []) #[false, false, false, false, false, false, false, false, false, false, false, false, false, false, false, false, false, false, false, false, false, false, false, false, false, false, false] (by kernel_rfl) rfl rfl ⟨zc BK301 0, zc BK301 1, zc BK301 2, zc BK301 3⟩ (fun hHeld => ?_); refine with_tabW r06_ValidPrefix.tab1 r06_ValidPrefix.bits1 (fun HT_ HW_ => ?_)
   generalize w20.drew = w21 at BK301 HB hHeld ⊢
   refine zp 0 3 HT_ ?_; refine zt 1 4 HT_ HW_ hHeld ?_; refine zo 2 5 HT_ (fun K hK => ?_)
   refine zg Tryz.func24 #[.agg #[.bool a0_0, .int .u64 a0_1, .int .u64 a0_2]] ?_
   with_reducible refine (r06_Valid.calls a0_0 a0_1 a0_2 false _ A2.out).mono ?_
   rintro e w22 ⟨rfl, hb⟩
   refine ⟨_, rfl, ?_⟩
   replace BK301 := zkb BK301 hb; replace HB := Aside0.mk (below_step (zB HB) hb)
   try clear hb
   refine hK.out _ _ ⟨zc BK301 0, zc BK301 1, zc BK301 2, zc BK301 3⟩ (fun hHeld => ?_)
   clear hK K
   refine zn 5 ?_; refine zp 3 6 HT_ ?_; refine zu 4 7 HT_ ?_; refine zu 5 8 HT_ ?_; refine zu 6 9 HT_ ?_; refine zp 7 10 HT_ ?_; refine zp 8 11 HT_ ?_; refine zu 9 12 HT_ ?_; refine zu 10 13 HT_ ?_; refine zu 11 14 HT_ ?_; refine zu 12 15 HT_ ?_; refine zu 13 16 HT_ ?_; refine zu 14 17 HT_ ?_; refine zp 15 18 HT_ ?_; refine zp 16 19 HT_ ?_; refine zu 17 20 HT_ ?_; refine zu 18 21 HT_ ?_; refine zu 19 22 HT_ ?_; refine zu 20 23 HT_ ?_; refine zu 21 24 HT_ ?_; refine zu 22 25 HT_ ?_; refine zu 23 26 HT_ ?_; refine zu 24 27 HT_ ?_; refine zp 25 28 HT_ ?_; refine zp 26 2 HT_ ?_; refine zd HT_ ?_
   try go_wp2
   go_ret
   exact ⟨zr, zB HB⟩
 subst c3; rw [if_pos rfl] at H
 by_cases c4 : a0_3 ≥ 0
 rotate_left
 · rw [if_neg c4] at H
   have c4b0 : decide (0 ≤ a0_3) = false := decide_eq_false c4; clear c4
   obtain rfl := Option.some.inj H
   go_enter Tryz.func36, Tryz.ntmps36
   try go_wp2_with (first | ((with_reducible refine gate_dst (N := 1) rfl ?_); refine zx 1 #[.bool a0_0, .int .u64 a0_1, .int .u64 a0_2, .int .i64 a0_3] 33 ?_; intro gb301 hg w17 hbox hb; have BK301 := Aside0.mk (hbox); have GW301 := zG HB hg; have GE301 := zG HB hg; replace HB := Aside0.mk (below_step (zB HB) hb); clear hb hbox hg))
   replace BK301 := Aside0.mk (blk_drew BK301.out); replace HB := Aside0.mk (below_drew1 HB.out)
   refine start_ (n := 27) (S := fun w' => w'.cell? ⟨gb301, 0, none⟩ = some (.bool a0_0) ∧ w'.cell? ⟨gb301, 1, none⟩ = some (.int .u64 a0_1) ∧ w'.cell? ⟨gb301, 2, none⟩ = some (.int .u64 a0_2) ∧ w'.cell? ⟨gb301, 3, none⟩ = some (.int .i64 a0_3)) (ds := []) #[false, false, false, false, false, false, false, false, false, false, false, false, false, false, false, false, false, false, false, false, false, false, false, false, false, false, false] (by kernel_rfl) rfl rfl ⟨zc BK301 0, zc BK301 1, zc BK301 2, zc BK301 3⟩ (fun hHeld => ?_); refine with_tabW r06_ValidPrefix.tab1 r06_ValidPrefix.bits1 (fun HT_ HW_ => ?_)
   generalize w17.drew = w18 at BK301 HB hHeld ⊢
   refine zp 0 3 HT_ ?_; refine zt 1 4 HT_ HW_ hHeld ?_; refine zo 2 5 HT_ (fun K hK => ?_)
   refine zg Tryz.func24 #[.agg #[.bool a0_0, .int .u64 a0_1, .int .u64 a0_2]] ?_
   with_reducible refine (r06_Valid.calls a0_0 a0_1 a0_2 true _ A2.out).mono ?_
   rintro e w19 ⟨rfl, hb⟩
   refine ⟨_, rfl, ?_⟩
   replace BK301 := zkb BK301 hb; replace HB := Aside0.mk (below_step (zB HB) hb)
   try clear hb
   refine hK.out _ _ ⟨zc BK301 0, zc BK301 1, zc BK301 2, zc BK301 3⟩ (fun hHeld => ?_)
   clear hK K
   refine zn 5 ?_; refine zp 3 6 HT_ ?_; refine zp 4 7 HT_ ?_; refine zt 5 8 HT_ HW_ hHeld ?_; refine zp 6 9 HT_ ?_; refine zp 7 10 HT_ ?_; refine zp 8 11 HT_ ?_; refine zu 9 12 HT_ ?_; refine zu 10 13 HT_ ?_; refine zu 11 14 HT_ ?_; refine zu 12 15 HT_ ?_; refine zu 13 16 HT_ ?_; refine zu 14 17 HT_ ?_; refine zp 15 18 HT_ ?_; refine zp 16 19 HT_ ?_; refine zu 17 20 HT_ ?_; refine zu 18 21 HT_ ?_; refine zu 19 22 HT_ ?_; refine zu 20 23 HT_ ?_; refine zu 21 24 HT_ ?_; refine zu 22 25 HT_ ?_; refine zu 23 26 HT_ ?_; refine zu 24 27 HT_ ?_; refine zp 25 28 HT_ ?_; refine zp 26 2 HT_ ?_; refine zd HT_ ?_
   try go_wp2
   go_ret
   exact ⟨zr, zB HB⟩
 rw [if_pos c4] at H
 have c4b0 : decide (0 ≤ a0_3) = true := decide_eq_true c4; clear c4
 replace H := Option.bind_eq_some_iff.mp H
 obtain ⟨t303, A50, H⟩ := H
 try dsimp only at H
 have A5 := Aside0.mk A50; clear A50
 by_cases c6 : a0_3 ≤ t303
 · rw [if_pos c6] at H
   have c6b0 : decide (a0_3 ≤ t303) = true := decide_eq_true c6; clear c6
   replace H := Option.bind_eq_some_iff.mp H
   obtain ⟨⟨t304, t305, t306⟩, A70, H⟩ := H
   try dsimp only at H
   have A7 := Aside0.mk A70; clear A70
   obtain rfl := Option.some.inj H
   go_enter Tryz.func36, Tryz.ntmps36
   try go_wp2_with (first | ((with_reducible refine gate_dst (N := 1) rfl ?_); refine zx 1 #[.bool a0_0, .int .u64 a0_1, .int .u64 a0_2, .int .i64 a0_3] 33 ?_; intro gb301 hg w8 hbox hb; have BK301 := Aside0.mk (hbox); have GW301 := zG HB hg; have GE301 := zG HB hg; replace HB := Aside0.mk (below_step (zB HB) hb); clear hb hbox hg))
   replace BK301 := Aside0.mk (blk_drew BK301.out); replace HB := Aside0.mk (below_drew1 HB.out)
   refine start_ (n := 27) (S := fun w' => w'.cell? ⟨gb301, 0, none⟩ = some (.bool a0_0) ∧ w'.cell? ⟨gb301, 1, none⟩ = some (.int .u64 a0_1) ∧ w'.cell? ⟨gb301, 2, none⟩ = some (.int .u64 a0_2) ∧ w'.cell? ⟨gb301, 3, none⟩ = some (.int .i64 a0_3)) (ds := []) #[false, false, false, false, false, false, false, false, false, false, false, false, false, false, false, false, false, false, false, false, false, false, false, false, false, false, false] (by kernel_rfl) rfl rfl ⟨zc BK301 0, zc BK301 1, zc BK301 2, zc BK301 3⟩ (fun hHeld => ?_); refine with_tabW r06_ValidPrefix.tab1 r06_ValidPrefix.bits1 (fun HT_ HW_ => ?_)
   generalize w8.drew = w9 at BK301 HB hHeld ⊢
   refine zp 0 3 HT_ ?_; refine zt 1 4 HT_ HW_ hHeld ?_; refine zo 2 5 HT_ (fun K hK => ?_)
   refine zg Tryz.func24 #[.agg #[.bool a0_0, .int .u64 a0_1, .int .u64 a0_2]] ?_
   with_reducible refine (r06_Valid.calls a0_0 a0_1 a0_2 true _ A2.out).mono ?_
   rintro e w10 ⟨rfl, hb⟩
   refine ⟨_, rfl, ?_⟩
   replace BK301 := zkb BK301 hb; replace HB := Aside0.mk (below_step (zB HB) hb)
   try clear hb
   refine hK.out _ _ ⟨zc BK301 0, zc BK301 1, zc BK301 2, zc BK301 3⟩ (fun hHeld => ?_)
   clear hK K
   refine zn 5 ?_; refine zp 3 6 HT_ ?_; refine zp 4 7 HT_ ?_; refine zt 5 8 HT_ HW_ hHeld ?_; refine zp 6 9 HT_ ?_; refine zp 7 10 HT_ ?_; refine zp 8 11 HT_ ?_; refine zp 9 12 HT_ ?_; refine zp 11 14 HT_ ?_; refine zt 10 13 HT_ HW_ hHeld ?_; refine zt 12 15 HT_ HW_ hHeld ?_; refine zo 13 16 HT_ (fun K hK => ?_)
   refine zg Tryz.func60 #[.agg #[.bool a0_0, .int .u64 a0_1, .int .u64 a0_2]] ?_
   with_reducible refine (r06_Width.calls a0_0 a0_1 a0_2 t303 _ A5.out).mono ?_
   rintro e w11 ⟨rfl, hb⟩
   refine ⟨_, rfl, ?_⟩
   replace BK301 := zkb BK301 hb; replace HB := Aside0.mk (below_step (zB HB) hb)
   try clear hb
   refine hK.out _ _ ⟨zc BK301 0, zc BK301 1, zc BK301 2, zc BK301 3⟩ (fun hHeld => ?_)
   clear hK K
   refine zn 16 ?_; refine zp 14 17 HT_ ?_; refine zp 15 18 HT_ ?_; refine zp 16 19 HT_ ?_; refine zp 17 20 HT_ ?_; refine zp 19 22 HT_ ?_; refine zp 22 25 HT_ ?_; refine zt 18 21 HT_ HW_ hHeld ?_; refine zt 20 23 HT_ HW_ hHeld ?_; refine zt 23 26 HT_ HW_ hHeld ?_; refine zo 21 24 HT_ (fun K hK => ?_)
   refine zg Tryz.func54 #[.agg #[.bool a0_0, .int .u64 a0_1, .int .u64 a0_2], .int .i64 a0_3, .bool false] ?_
   with_reducible refine (r06_with.calls k a0_0 a0_1 a0_2 a0_3 false t304 t305 t306 _ A7.out).mono ?_
   rintro e w12 ⟨rfl, hb⟩
   refine ⟨_, rfl, ?_⟩
   replace BK301 := zkb BK301 hb; replace HB := Aside0.mk (below_step (zB HB) hb)
   try clear hb
   refine hK.out _ _ ⟨zc BK301 0, zc BK301 1, zc BK301 2, zc BK301 3⟩ (fun hHeld => ?_)
   clear hK K
   refine zn 24 ?_; refine zp 24 27 HT_ ?_; refine zp 25 28 HT_ ?_; refine zp 26 2 HT_ ?_; refine zd HT_ ?_
   try go_wp2
   go_ret
   exact ⟨zr, zB HB⟩
 rw [if_neg c6] at H
 have c6b0 : decide (a0_3 ≤ t303) = false := decide_eq_false c6; clear c6
 obtain rfl := Option.some.inj H
 go_enter Tryz.func36, Tryz.ntmps36
 try go_wp2_with (first | ((with_reducible refine gate_dst (N := 1) rfl ?_); refine zx 1 #[.bool a0_0, .int .u64 a0_1, .int .u64 a0_2, .int .i64 a0_3] 33 ?_; intro gb301 hg w13 hbox hb; have BK301 := Aside0.mk (hbox); have GW301 := zG HB hg; have GE301 := zG HB hg; replace HB := Aside0.mk (below_step (zB HB) hb); clear hb hbox hg))
 replace BK301 := Aside0.mk (blk_drew BK301.out); replace HB := Aside0.mk (below_drew1 HB.out)
 refine start_ (n := 27) (S := fun w' => w'.cell? ⟨gb301, 0, none⟩ = some (.bool a0_0) ∧ w'.cell? ⟨gb301, 1, none⟩ = some (.int .u64 a0_1) ∧ w'.cell? ⟨gb301, 2, none⟩ = some (.int .u64 a0_2) ∧ w'.cell? ⟨gb301, 3, none⟩ = some (.int .i64 a0_3)) (ds := []) #[false, false, false, false, false, false, false, false, false, false, false, false, false, false, false, false, false, false, false, false, false, false, false, false, false, false, false] (by kernel_rfl) rfl rfl ⟨zc BK301 0, zc BK301 1, zc BK301 2, zc BK301 3⟩ (fun hHeld => ?_); refine with_tabW r06_ValidPrefix.tab1 r06_ValidPrefix.bits1 (fun HT_ HW_ => ?_)
 generalize w13.drew = w14 at BK301 HB hHeld ⊢
 refine zp 0 3 HT_ ?_; refine zt 1 4 HT_ HW_ hHeld ?_; refine zo 2 5 HT_ (fun K hK => ?_)
 refine zg Tryz.func24 #[.agg #[.bool a0_0, .int .u64 a0_1, .int .u64 a0_2]] ?_
 with_reducible refine (r06_Valid.calls a0_0 a0_1 a0_2 true _ A2.out).mono ?_
 rintro e w15 ⟨rfl, hb⟩
 refine ⟨_, rfl, ?_⟩
 replace BK301 := zkb BK301 hb; replace HB := Aside0.mk (below_step (zB HB) hb)
 try clear hb
 refine hK.out _ _ ⟨zc BK301 0, zc BK301 1, zc BK301 2, zc BK301 3⟩ (fun hHeld => ?_)
 clear hK K
 refine zn 5 ?_; refine zp 3 6 HT_ ?_; refine zp 4 7 HT_ ?_; refine zt 5 8 HT_ HW_ hHeld ?_; refine zp 6 9 HT_ ?_; refine zp 7 10 HT_ ?_; refine zp 8 11 HT_ ?_; refine zp 9 12 HT_ ?_; refine zp 11 14 HT_ ?_; refine zt 10 13 HT_ HW_ hHeld ?_; refine zt 12 15 HT_ HW_ hHeld ?_; refine zo 13 16 HT_ (fun K hK => ?_)
 refine zg Tryz.func60 #[.agg #[.bool a0_0, .int .u64 a0_1, .int .u64 a0_2]] ?_
 with_reducible refine (r06_Width.calls a0_0 a0_1 a0_2 t303 _ A5.out).mono ?_
 rintro e w16 ⟨rfl, hb⟩
 refine ⟨_, rfl, ?_⟩
 replace BK301 := zkb BK301 hb; replace HB := Aside0.mk (below_step (zB HB) hb)
 try clear hb
 refine hK.out _ _ ⟨zc BK301 0, zc BK301 1, zc BK301 2, zc BK301 3⟩ (fun hHeld => ?_)
 clear hK K
 refine zn 16 ?_; refine zp 14 17 HT_ ?_; refine zp 15 18 HT_ ?_; refine zp 16 19 HT_ ?_; refine zu 17 20 HT_ ?_; refine zu 18 21 HT_ ?_; refine zu 19 22 HT_ ?_; refine zu 20 23 HT_ ?_; refine zu 21 24 HT_ ?_; refine zu 22 25 HT_ ?_; refine zu 23 26 HT_ ?_; refine zu 24 27 HT_ ?_; refine zp 25 28 HT_ ?_; refine zp 26 2 HT_ ?_; refine zd HT_ ?_
 try go_wp2
 go_ret
 exact ⟨zr, zB HB⟩
end Go.Proofs.YtnphnhkinjppjaaGreatDoor.Q
end

section
set_option maxHeartbeats 8000000
set_option maxRecDepth 100000
namespace Go.Proofs.YtnphnhkinjppjaaGreatDoor.Q
open Go.RowKit Go.Proofs.YtnphnhkinjppjaaGreatDoorW.PrintWords Go.Proofs.YtnphnhkinjppjaaGreatDoorW.PrintLast Go.Proofs.YtnphnhkinjppjaaGreatDoorW.PrintMore
attribute [local go_sem] max2_int min2_int max_two min_two max_three min_three max_four min_four
mutual
def r18_twice.l0 : Nat → Int → ByteArray → Bool → Int → Int → Int → Int → Int → Int → Int → Bool → Int → List (S74) → Option (Bool)
  | 0, _, _, _, _, _, _, _, _, _, _, _, _, _ => none
  | k + 1, x3, x308000, x308001, x308002, x308003, x308004, x308005, x308006, x308007, x308008, x308009, x308010, x308011 => if x3 < (x308011.length : Int) then (r18_twice.l1 k x3 0 x308000 x308001 x308002 x308003 x308004 x308005 x308006 x308007 x308008 x308009 x308010 x308011) else (some false)
def r18_twice.l1 : Nat → Int → Int → ByteArray → Bool → Int → Int → Int → Int → Int → Int → Int → Bool → Int → List (S74) → Option (Bool)
  | 0, _, _, _, _, _, _, _, _, _, _, _, _, _, _ => none
  | k + 1, x3, x4, x308000, x308001, x308002, x308003, x308004, x308005, x308006, x308007, x308008, x308009, x308010, x308011 => if x4 < x3 then (if 0 ≤ x3 then (if x3 < (x308011.length : Int) then (if 0 ≤ x4 then (if x4 < (x308011.length : Int) then (if ((rd_T74 x308011 x3).f0) = ((rd_T74 x308011 x4).f0) then (if ((rd_T74 x308011 x3).f1) = ((rd_T74 x308011 x4).f1) then (some true) else (r18_twice.l1 k x3 (wrap64 (x4 + 1)) x308000 x308001 x308002 x308003 x308004 x308005 x308006 x308007 x308008 x308009 x308010 x308011)) else (r18_twice.l1 k x3 (wrap64 (x4 + 1)) x308000 x308001 x308002 x308003 x308004 x308005 x308006 x308007 x308008 x308009 x308010 x308011)) else (none)) else (none)) else (none)) else (none)) else (r18_twice.l0 k (wrap64 (x3 + 1)) x308000 x308001 x308002 x308003 x308004 x308005 x308006 x308007 x308008 x308009 x308010 x308011)
end
def r18_twice.f (k : Nat) (a0_0 : ByteArray) (a0_1 : Bool) (a0_2 : Int) (a0_3 : Int) (a0_4 : Int) (a0_5 : Int) (a0_6 : Int) (a0_7 : Int) (a0_8 : Int) (a0_9 : Bool) (a0_10 : Int) (l0_11 : List (S74)) : Option (Bool) := r18_twice.l0 k 0 a0_0 a0_1 a0_2 a0_3 a0_4 a0_5 a0_6 a0_7 a0_8 a0_9 a0_10 l0_11
theorem r18_twice.mono_l : ∀ k, (∀ y0 y1 y2 y3 y4 y5 y6 y7 y8 y9 y10 y11 y12, LeO (r18_twice.l0 k y0 y1 y2 y3 y4 y5 y6 y7 y8 y9 y10 y11 y12) (r18_twice.l0 (k + 1) y0 y1 y2 y3 y4 y5 y6 y7 y8 y9 y10 y11 y12)) ∧ (∀ y0 y1 y2 y3 y4 y5 y6 y7 y8 y9 y10 y11 y12 y13, LeO (r18_twice.l1 k y0 y1 y2 y3 y4 y5 y6 y7 y8 y9 y10 y11 y12 y13) (r18_twice.l1 (k + 1) y0 y1 y2 y3 y4 y5 y6 y7 y8 y9 y10 y11 y12 y13))
  | 0 => ⟨fun _ _ _ _ _ _ _ _ _ _ _ _ _ r h => by simp [r18_twice.l0] at h, fun _ _ _ _ _ _ _ _ _ _ _ _ _ _ r h => by simp [r18_twice.l1] at h⟩
  | k + 1 => by
    obtain ⟨ih0, ih1⟩ := r18_twice.mono_l k
    refine ⟨?_, ?_⟩
    · intro y0 y1 y2 y3 y4 y5 y6 y7 y8 y9 y10 y11 y12
      unfold r18_twice.l0
      repeat' first
      | (with_reducible exact ih0 _ _ _ _ _ _ _ _ _ _ _ _ _)
      | (with_reducible exact ih1 _ _ _ _ _ _ _ _ _ _ _ _ _ _)
      | (with_reducible exact LeO.refl _)
      | (with_reducible exact LeO.none _)
      | (with_reducible refine LeO.ite ?_ ?_)
      | (with_reducible refine LeO.bind ?_ (fun _ => ?_))
    · intro y0 y1 y2 y3 y4 y5 y6 y7 y8 y9 y10 y11 y12 y13
      unfold r18_twice.l1
      repeat' first
      | (with_reducible exact ih0 _ _ _ _ _ _ _ _ _ _ _ _ _)
      | (with_reducible exact ih1 _ _ _ _ _ _ _ _ _ _ _ _ _ _)
      | (with_reducible exact LeO.refl _)
      | (with_reducible exact LeO.none _)
      | (with_reducible refine LeO.ite ?_ ?_)
      | (with_reducible refine LeO.bind ?_ (fun _ => ?_))
theorem r18_twice.mono : ∀ a0 a1 a2 a3 a4 a5 a6 a7 a8 a9 a10 a11 k, LeO (r18_twice.f k a0 a1 a2 a3 a4 a5 a6 a7 a8 a9 a10 a11) (r18_twice.f (k + 1) a0 a1 a2 a3 a4 a5 a6 a7 a8 a9 a10 a11) := by
  intro a0 a1 a2 a3 a4 a5 a6 a7 a8 a9 a10 a11 k
  obtain ⟨ih0, ih1⟩ := r18_twice.mono_l k
  unfold r18_twice.f
  repeat' first
      | (with_reducible exact ih0 _ _ _ _ _ _ _ _ _ _ _ _ _)
      | (with_reducible exact ih1 _ _ _ _ _ _ _ _ _ _ _ _ _ _)
      | (with_reducible exact LeO.refl _)
      | (with_reducible exact LeO.none _)
      | (with_reducible refine LeO.ite ?_ ?_)
      | (with_reducible refine LeO.bind ?_ (fun _ => ?_))
theorem r18_twice.calls (k : Nat) (a0_0 : ByteArray) (a0_1 : Bool) (a0_2 : Int) (a0_3 : Int) (a0_4 : Int) (a0_5 : Int) (a0_6 : Int) (a0_7 : Int) (a0_8 : Int) (a0_9 : Bool) (a0_10 : Int) (A0_11 : Option Addr) (c0_11 : Nat) (l0_11 : List (S74)) (r : Bool) (w : World) (hr0_11 : Kd.C k74 w A0_11 l0_11.length l0_11) (hc0_11 : l0_11.length ≤ c0_11) (h : r18_twice.f k a0_0 a0_1 a0_2 a0_3 a0_4 a0_5 a0_6 a0_7 a0_8 a0_9 a0_10 l0_11 = some r) :
 Calls Tryz.prog 37 #[.agg #[.string a0_0, .bool a0_1, .int .u64 a0_2, .int .u64 a0_3, .int .i64 a0_4, .int .i64 a0_5, .int .i64 a0_6, .int .i64 a0_7, .int .i64 a0_8, .bool a0_9, .int .i64 a0_10, .slice A0_11 l0_11.length c0_11]] w fun e w' => e = .returned (.bool r) ∧ Below w.heap.size w w' := by
 have hu36 := Tryz.underlying36
 have HR0_11 := Aside0.mk hr0_11; have HC0_11 := Aside0.mk hc0_11; clear hr0_11 hc0_11; have HB := Aside0.mk (Below.refl w.heap.size w)
 unfold r18_twice.f at h; have H := h
 clear h
 have H' := Aside0.mk H
 clear H
 go_enter Tryz.func37, Tryz.ntmps37
 go_wp2_with (first | ((with_reducible refine gate_dst (N := 1) rfl ?_); refine zx 1 #[.string a0_0, .bool a0_1, .int .u64 a0_2, .int .u64 a0_3, .int .i64 a0_4, .int .i64 a0_5, .int .i64 a0_6, .int .i64 a0_7, .int .i64 a0_8, .bool a0_9, .int .i64 a0_10, .slice A0_11 l0_11.length c0_11] 36 ?_; intro gb307 hg w2 hbox hb; have BK307 := Aside0.mk (hbox); have GW307 := zG HB hg; have GE307 := zG HB hg; replace HB := Aside0.mk (below_step (zB HB) hb); clear hb hbox hg))
 repeat (go_quiet (first | ((with_reducible refine gate_dst (N := 1) rfl ?_); refine zx 1 #[.string a0_0, .bool a0_1, .int .u64 a0_2, .int .u64 a0_3, .int .i64 a0_4, .int .i64 a0_5, .int .i64 a0_6, .int .i64 a0_7, .int .i64 a0_8, .bool a0_9, .int .i64 a0_10, .slice A0_11 l0_11.length c0_11] 36 ?_; intro gb307 hg w2 hbox hb; have BK307 := Aside0.mk (hbox); have GW307 := zG HB hg; have GE307 := zG HB hg; replace HB := Aside0.mk (below_step (zB HB) hb); clear hb hbox hg)); try go_wp2_with (first | ((with_reducible refine gate_dst (N := 1) rfl ?_); refine zx 1 #[.string a0_0, .bool a0_1, .int .u64 a0_2, .int .u64 a0_3, .int .i64 a0_4, .int .i64 a0_5, .int .i64 a0_6, .int .i64 a0_7, .int .i64 a0_8, .bool a0_9, .int .i64 a0_10, .slice A0_11 l0_11.length c0_11] 36 ?_; intro gb307 hg w2 hbox hb; have BK307 := Aside0.mk (hbox); have GW307 := zG HB hg; have GE307 := zG HB hg; replace HB := Aside0.mk (below_step (zB HB) hb); clear hb hbox hg)))
 go_loopg [3] k (fun kq v3 w' => ∃ (x3_1 : Int), v3 = .int .i64 x3_1 ∧ Aside0 (r18_twice.l0 kq x3_1 a0_0 a0_1 a0_2 a0_3 a0_4 a0_5 a0_6 a0_7 a0_8 a0_9 a0_10 l0_11 = some r) ∧ Aside0 (kq ≤ k) ∧ Aside0 (w'.heap[gb307]? = some (.cells #[.string a0_0, .bool a0_1, .int .u64 a0_2, .int .u64 a0_3, .int .i64 a0_4, .int .i64 a0_5, .int .i64 a0_6, .int .i64 a0_7, .int .i64 a0_8, .bool a0_9, .int .i64 a0_10, (.slice A0_11 l0_11.length c0_11)] 36 (0, 0))) ∧ Aside0 (Below w.heap.size w w'))
 case atStart => exact ⟨(0), zI, H', ⟨Nat.le_refl _⟩, ⟨zK BK307⟩, ⟨zB HB⟩⟩
 case round =>
  clear H'
  obtain ⟨x3_1, rfl, HA, HK1, BK307, HB⟩ := hrel
  rcases gk with _ | k1
  · exact absurd HA.out (by simp [r18_twice.l0])
  have H := HA.out
  clear HA
  simp only [r18_twice.l0] at H
  by_cases c3 : x3_1 < (l0_11.length : Int)
  rotate_left
  · rw [if_neg c3] at H
    have c3b0 : decide (x3_1 < (l0_11.length : Int)) = false := decide_eq_false c3; clear c3
    obtain rfl := Option.some.inj H
    obtain ⟨hcz15_0, hcz15_1, hcz15_2, hcz15_3, hcz15_4, hcz15_5, hcz15_6, hcz15_7, hcz15_8, hcz15_9, hcz15_10, hcz15_11⟩ := zc12 BK307; obtain ⟨hfz15_0, hfz15_1, hfz15_2, hfz15_3, hfz15_4, hfz15_5, hfz15_6, hfz15_7, hfz15_8, hfz15_9, hfz15_10, hfz15_11⟩ := zf12 BK307
    go_wp2
    repeat (go_quiet (fail); try go_wp2)
    go_ret
    exact ⟨zr, zB HB⟩
  rw [if_pos c3] at H
  have c3b0 : decide (x3_1 < (l0_11.length : Int)) = true := decide_eq_true c3; clear c3
  have H' := Aside0.mk H
  clear H; obtain ⟨hcz4_0, hcz4_1, hcz4_2, hcz4_3, hcz4_4, hcz4_5, hcz4_6, hcz4_7, hcz4_8, hcz4_9, hcz4_10, hcz4_11⟩ := zc12 BK307; obtain ⟨hfz4_0, hfz4_1, hfz4_2, hfz4_3, hfz4_4, hfz4_5, hfz4_6, hfz4_7, hfz4_8, hfz4_9, hfz4_10, hfz4_11⟩ := zf12 BK307
  go_wp2
  repeat (go_quiet (fail); try go_wp2)
  go_loopg [4] k1 (fun kq v4 w' => ∃ (x4_2 : Int), v4 = .int .i64 x4_2 ∧ Aside0 (r18_twice.l1 kq x3_1 x4_2 a0_0 a0_1 a0_2 a0_3 a0_4 a0_5 a0_6 a0_7 a0_8 a0_9 a0_10 l0_11 = some r) ∧ Aside0 (kq ≤ k1) ∧ Aside0 (w'.heap[gb307]? = some (.cells #[.string a0_0, .bool a0_1, .int .u64 a0_2, .int .u64 a0_3, .int .i64 a0_4, .int .i64 a0_5, .int .i64 a0_6, .int .i64 a0_7, .int .i64 a0_8, .bool a0_9, .int .i64 a0_10, (.slice A0_11 l0_11.length c0_11)] 36 (0, 0))) ∧ Aside0 (Below w.heap.size w w'))
  case atStart => exact ⟨(0), zI, H', ⟨Nat.le_refl _⟩, ⟨zK BK307⟩, ⟨zB HB⟩⟩
  case round =>
   clear H'
   (try clear c3); (try clear c3b0); (try clear hcz4_0 hcz4_1 hcz4_10 hcz4_11 hcz4_2 hcz4_3 hcz4_4 hcz4_5 hcz4_6 hcz4_7 hcz4_8 hcz4_9); (try clear hfz4_0 hfz4_1 hfz4_10 hfz4_11 hfz4_2 hfz4_3 hfz4_4 hfz4_5 hfz4_6 hfz4_7 hfz4_8 hfz4_9)
   obtain ⟨x4_2, rfl, HA, HK2, BK307, HB⟩ := hrel
   rcases gk with _ | k2
   · exact absurd HA.out (by simp [r18_twice.l1])
   have H := HA.out
   clear HA
   simp only [r18_twice.l1] at H
   by_cases c5 : x4_2 < x3_1
   rotate_left
   · rw [if_neg c5] at H
     have c5b0 : decide (x4_2 < x3_1) = false := decide_eq_false c5; clear c5
     have H' := Aside0.mk H
     clear H
     go_wp2
     repeat (go_quiet (fail); try go_wp2)
     go_roundg k2
     case measure => have := HK1.out; have := HK2.out; omega
     case rel => exact ⟨(wrap64 (x3_1 + 1)), zI, H', ⟨by have := HK1.out; have := HK2.out; omega⟩, ⟨zK BK307⟩, ⟨zB HB⟩⟩
   rw [if_pos c5] at H
   have c5b0 : decide (x4_2 < x3_1) = true := decide_eq_true c5; clear c5
   by_cases c6 : 0 ≤ x3_1
   rotate_left
   · rw [if_neg c6] at H
     exact absurd H (by simp)
   rw [if_pos c6] at H
   have c6b0 : decide (0 ≤ x3_1) = true := decide_eq_true c6; clear c6
   by_cases c7 : x3_1 < (l0_11.length : Int)
   rotate_left
   · rw [if_neg c7] at H
     exact absurd H (by simp)
   rw [if_pos c7] at H
   have c7b0 : decide (x3_1 < (l0_11.length : Int)) = true := decide_eq_true c7; clear c7
   by_cases c8 : 0 ≤ x4_2
   rotate_left
   · rw [if_neg c8] at H
     exact absurd H (by simp)
   rw [if_pos c8] at H
   have c8b0 : decide (0 ≤ x4_2) = true := decide_eq_true c8; clear c8
   by_cases c9 : x4_2 < (l0_11.length : Int)
   rotate_left
   · rw [if_neg c9] at H
     exact absurd H (by simp)
   rw [if_pos c9] at H
   have c9b0 : decide (x4_2 < (l0_11.length : Int)) = true := decide_eq_true c9; clear c9
   by_cases c10 : ((rd_T74 l0_11 x3_1).f0) = ((rd_T74 l0_11 x4_2).f0)
   rotate_left
   · rw [if_neg c10] at H
     have c10b0 : (((rd_T74 l0_11 x3_1).f0) == ((rd_T74 l0_11 x4_2).f0)) = false := beq_eq_false_iff_ne.mpr c10
     have c10b1 : (((rd_T74 l0_11 x3_1).f0) != ((rd_T74 l0_11 x4_2).f0)) = true := bne_iff_ne.mpr c10
     have H' := Aside0.mk H
     clear H; obtain ⟨hcz14_0, hcz14_1, hcz14_2, hcz14_3, hcz14_4, hcz14_5, hcz14_6, hcz14_7, hcz14_8, hcz14_9, hcz14_10, hcz14_11⟩ := zc12 BK307; obtain ⟨hfz14_0, hfz14_1, hfz14_2, hfz14_3, hfz14_4, hfz14_5, hfz14_6, hfz14_7, hfz14_8, hfz14_9, hfz14_10, hfz14_11⟩ := zf12 BK307
     have p308 : 0 ≤ (x3_1 : Int) := za
     have q308 : x3_1 < (l0_11.length : Int) := za
     obtain ⟨ad308, e308, hx308_0, hx308_1, hx308_2⟩ := at_T74 HR0_11.out x3_1 p308 q308
     cases e308
     replace hx308_0 := zh HB hx308_0; replace hx308_1 := zh HB hx308_1; replace hx308_2 := zh HB hx308_2
     replace p308 := eq_true p308
     replace q308 := eq_true q308
     have p309 : 0 ≤ (x4_2 : Int) := za
     have q309 : x4_2 < (l0_11.length : Int) := za
     obtain ⟨ad309, e309, hx309_0, hx309_1, hx309_2⟩ := at_T74 HR0_11.out x4_2 p309 q309
     obtain rfl : ad308 = ad309 := (by injection e309)
     replace hx309_0 := zh HB hx309_0; replace hx309_1 := zh HB hx309_1; replace hx309_2 := zh HB hx309_2
     replace p309 := eq_true p309
     replace q309 := eq_true q309
     go_wp2
     repeat (go_quiet (fail); try go_wp2)
     go_roundg k2
     case measure => have := HK1.out; have := HK2.out; omega
     case rel => exact ⟨(wrap64 (x4_2 + 1)), zI, H', ⟨by have := HK1.out; have := HK2.out; omega⟩, ⟨zK BK307⟩, ⟨zB HB⟩⟩
   rw [if_pos c10] at H
   have c10b0 : (((rd_T74 l0_11 x3_1).f0) == ((rd_T74 l0_11 x4_2).f0)) = true := beq_iff_eq.mpr c10; have c10b1 : (((rd_T74 l0_11 x3_1).f0) != ((rd_T74 l0_11 x4_2).f0)) = false := bne_eq_false_iff_eq.mpr c10; clear c10
   by_cases c11 : ((rd_T74 l0_11 x3_1).f1) = ((rd_T74 l0_11 x4_2).f1)
   · rw [if_pos c11] at H
     have c11b0 : (((rd_T74 l0_11 x3_1).f1) == ((rd_T74 l0_11 x4_2).f1)) = true := beq_iff_eq.mpr c11; have c11b1 : (((rd_T74 l0_11 x3_1).f1) != ((rd_T74 l0_11 x4_2).f1)) = false := bne_eq_false_iff_eq.mpr c11; clear c11
     obtain rfl := Option.some.inj H
     obtain ⟨hcz12_0, hcz12_1, hcz12_2, hcz12_3, hcz12_4, hcz12_5, hcz12_6, hcz12_7, hcz12_8, hcz12_9, hcz12_10, hcz12_11⟩ := zc12 BK307; obtain ⟨hfz12_0, hfz12_1, hfz12_2, hfz12_3, hfz12_4, hfz12_5, hfz12_6, hfz12_7, hfz12_8, hfz12_9, hfz12_10, hfz12_11⟩ := zf12 BK307
     have p308 : 0 ≤ (x3_1 : Int) := za
     have q308 : x3_1 < (l0_11.length : Int) := za
     obtain ⟨ad308, e308, hx308_0, hx308_1, hx308_2⟩ := at_T74 HR0_11.out x3_1 p308 q308
     cases e308
     replace hx308_0 := zh HB hx308_0; replace hx308_1 := zh HB hx308_1; replace hx308_2 := zh HB hx308_2
     replace p308 := eq_true p308
     replace q308 := eq_true q308
     have p309 : 0 ≤ (x4_2 : Int) := za
     have q309 : x4_2 < (l0_11.length : Int) := za
     obtain ⟨ad309, e309, hx309_0, hx309_1, hx309_2⟩ := at_T74 HR0_11.out x4_2 p309 q309
     obtain rfl : ad308 = ad309 := (by injection e309)
     replace hx309_0 := zh HB hx309_0; replace hx309_1 := zh HB hx309_1; replace hx309_2 := zh HB hx309_2
     replace p309 := eq_true p309
     replace q309 := eq_true q309
     have p310 : 0 ≤ (x3_1 : Int) := za
     have q310 : x3_1 < (l0_11.length : Int) := za
     obtain ⟨ad310, e310, hx310_0, hx310_1, hx310_2⟩ := at_T74 HR0_11.out x3_1 p310 q310
     obtain rfl : ad308 = ad310 := (by injection e310)
     replace hx310_0 := zh HB hx310_0; replace hx310_1 := zh HB hx310_1; replace hx310_2 := zh HB hx310_2
     replace p310 := eq_true p310
     replace q310 := eq_true q310
     have p311 : 0 ≤ (x4_2 : Int) := za
     have q311 : x4_2 < (l0_11.length : Int) := za
     obtain ⟨ad311, e311, hx311_0, hx311_1, hx311_2⟩ := at_T74 HR0_11.out x4_2 p311 q311
     obtain rfl : ad308 = ad311 := (by injection e311)
     replace hx311_0 := zh HB hx311_0; replace hx311_1 := zh HB hx311_1; replace hx311_2 := zh HB hx311_2
     replace p311 := eq_true p311
     replace q311 := eq_true q311
     go_wp2
     repeat (go_quiet (fail); try go_wp2)
     go_ret
     exact ⟨zr, zB HB⟩
   rw [if_neg c11] at H
   have c11b0 : (((rd_T74 l0_11 x3_1).f1) == ((rd_T74 l0_11 x4_2).f1)) = false := beq_eq_false_iff_ne.mpr c11
   have c11b1 : (((rd_T74 l0_11 x3_1).f1) != ((rd_T74 l0_11 x4_2).f1)) = true := bne_iff_ne.mpr c11
   have H' := Aside0.mk H
   clear H; obtain ⟨hcz13_0, hcz13_1, hcz13_2, hcz13_3, hcz13_4, hcz13_5, hcz13_6, hcz13_7, hcz13_8, hcz13_9, hcz13_10, hcz13_11⟩ := zc12 BK307; obtain ⟨hfz13_0, hfz13_1, hfz13_2, hfz13_3, hfz13_4, hfz13_5, hfz13_6, hfz13_7, hfz13_8, hfz13_9, hfz13_10, hfz13_11⟩ := zf12 BK307
   have p308 : 0 ≤ (x3_1 : Int) := za
   have q308 : x3_1 < (l0_11.length : Int) := za
   obtain ⟨ad308, e308, hx308_0, hx308_1, hx308_2⟩ := at_T74 HR0_11.out x3_1 p308 q308
   cases e308
   replace hx308_0 := zh HB hx308_0; replace hx308_1 := zh HB hx308_1; replace hx308_2 := zh HB hx308_2
   replace p308 := eq_true p308
   replace q308 := eq_true q308
   have p309 : 0 ≤ (x4_2 : Int) := za
   have q309 : x4_2 < (l0_11.length : Int) := za
   obtain ⟨ad309, e309, hx309_0, hx309_1, hx309_2⟩ := at_T74 HR0_11.out x4_2 p309 q309
   obtain rfl : ad308 = ad309 := (by injection e309)
   replace hx309_0 := zh HB hx309_0; replace hx309_1 := zh HB hx309_1; replace hx309_2 := zh HB hx309_2
   replace p309 := eq_true p309
   replace q309 := eq_true q309
   have p310 : 0 ≤ (x3_1 : Int) := za
   have q310 : x3_1 < (l0_11.length : Int) := za
   obtain ⟨ad310, e310, hx310_0, hx310_1, hx310_2⟩ := at_T74 HR0_11.out x3_1 p310 q310
   obtain rfl : ad308 = ad310 := (by injection e310)
   replace hx310_0 := zh HB hx310_0; replace hx310_1 := zh HB hx310_1; replace hx310_2 := zh HB hx310_2
   replace p310 := eq_true p310
   replace q310 := eq_true q310
   have p311 : 0 ≤ (x4_2 : Int) := za
   have q311 : x4_2 < (l0_11.length : Int) := za
   obtain ⟨ad311, e311, hx311_0, hx311_1, hx311_2⟩ := at_T74 HR0_11.out x4_2 p311 q311
   obtain rfl : ad308 = ad311 := (by injection e311)
   replace hx311_0 := zh HB hx311_0; replace hx311_1 := zh HB hx311_1; replace hx311_2 := zh HB hx311_2
   replace p311 := eq_true p311
   replace q311 := eq_true q311
   go_wp2
   repeat (go_quiet (fail); try go_wp2)
   go_roundg k2
   case measure => have := HK1.out; have := HK2.out; omega
   case rel => exact ⟨(wrap64 (x4_2 + 1)), zI, H', ⟨by have := HK1.out; have := HK2.out; omega⟩, ⟨zK BK307⟩, ⟨zB HB⟩⟩
end Go.Proofs.YtnphnhkinjppjaaGreatDoor.Q
end

section
set_option maxHeartbeats 8000000
set_option maxRecDepth 100000
namespace Go.Proofs.YtnphnhkinjppjaaGreatDoor.Q
open Go.RowKit Go.Proofs.YtnphnhkinjppjaaGreatDoorW.PrintWords Go.Proofs.YtnphnhkinjppjaaGreatDoorW.PrintLast Go.Proofs.YtnphnhkinjppjaaGreatDoorW.PrintMore
attribute [local go_sem high] eqA33
def refOne (k : Nat) (b : S36) : Option Int :=
  if (b.f8.length : Int) > 16 then some 3 else (r04_IsName.f k b.f0).bind fun n => if n = true then ((r18_inRange.f k b.f0 b.f1.f0.f0 b.f1.f0.f1 b.f1.f0.f2 b.f1.f1 b.f2 b.f3 b.f4 b.f5 b.f6 b.f7 b.f8).bind fun q => if q = true then ((r06_ValidPrefix.f k b.f1.f0.f0 b.f1.f0.f1 b.f1.f0.f2 b.f1.f1).bind fun v => if v = true then some 0 else some 2) else some 4) else some 5
def refTwice (k : Nat) (b : S36) : Option Bool := r18_twice.f k b.f0 b.f1.f0.f0 b.f1.f0.f1 b.f1.f0.f2 b.f1.f1 b.f2 b.f3 b.f4 b.f5 b.f6 b.f7 b.f8
def r18_Check.l0 : Nat → List S36 → Nat → Option Int
  | 0, _, _ => none
  | k + 1, l, i =>
    if i < l.length then (refOne k (rd_T36 l (i : Int))).bind fun e =>
      if e = 0 then (if ((l.take i).any fun b => clash b (rd_T36 l (i : Int))) = true then some 7 else (refTwice k (rd_T36 l (i : Int))).bind fun t => if t = true then some 7 else r18_Check.l0 k l (i + 1)) else some e
    else some 0
def r18_Check.f (k : Nat) (l : List S36) : Option Int := if (l.length : Int) > 64 then some 3 else r18_Check.l0 k l 0
theorem refOne.mono (k : Nat) (b : S36) : LeO (refOne k b) (refOne (k + 1) b) := LeO.ite (LeO.refl _) (LeO.bind (r04_IsName.mono _ _) fun _ => LeO.ite (LeO.bind (r18_inRange.mono _ _ _ _ _ _ _ _ _ _ _ _ _) fun _ => LeO.ite (LeO.bind (r06_ValidPrefix.mono _ _ _ _ _) fun _ => LeO.refl _) (LeO.refl _)) (LeO.refl _))
theorem r18_Check.mono_l : ∀ (k : Nat) (l : List S36) (i : Nat), LeO (r18_Check.l0 k l i) (r18_Check.l0 (k + 1) l i) := by
  intro k
  induction k with
  | zero => intro l i; exact LeO.none _
  | succ k ih =>
    intro l i
    rw [r18_Check.l0, r18_Check.l0]
    exact LeO.ite (LeO.bind (refOne.mono _ _) fun e => LeO.ite (LeO.ite (LeO.refl _) (LeO.bind (r18_twice.mono _ _ _ _ _ _ _ _ _ _ _ _ _) fun t => LeO.ite (LeO.refl _) (ih _ _))) (LeO.refl _)) (LeO.refl _)
theorem r18_Check.mono : ∀ l k, LeO (r18_Check.f k l) (r18_Check.f (k + 1) l) := fun l k => LeO.ite (LeO.refl _) (r18_Check.mono_l _ _ _)
theorem rcheck_on {k : Nat} {l : List S36} {i : Nat} {r : Int} (h : r18_Check.l0 k l i = some r) (hi : i < l.length) {b : S36} (hb : rd_T36 l (i : Int) = b) : ∃ k' e, k = k' + 1 ∧ refOne k' b = some e ∧ ((¬ e = 0 ∧ e = r) ∨ (e = 0 ∧ ((((l.take i).any fun b' => clash b' b) = true ∧ r = 7) ∨ (((l.take i).any fun b' => clash b' b) = false ∧ ∃ t, refTwice k' b = some t ∧ ((t = true ∧ r = 7) ∨ (t = false ∧ r18_Check.l0 k' l (i + 1) = some r)))))) := by
  cases k with
  | zero => simp [r18_Check.l0] at h
  | succ k =>
    rw [r18_Check.l0, if_pos hi, hb] at h
    obtain ⟨e, he, h⟩ := Option.bind_eq_some_iff.1 h
    refine ⟨k, e, rfl, he, ?_⟩
    split at h
    · rename_i h0
      refine .inr ⟨h0, ?_⟩
      split at h
      · rename_i h1
        exact .inl ⟨h1, (Option.some.inj h).symm⟩
      · rename_i h1
        obtain ⟨t, ht, h⟩ := Option.bind_eq_some_iff.1 h
        refine .inr ⟨by simpa using h1, t, ht, ?_⟩
        split at h
        · rename_i h2
          exact .inl ⟨h2, (Option.some.inj h).symm⟩
        · rename_i h2
          exact .inr ⟨by simpa using h2, h⟩
    · rename_i h0
      exact .inl ⟨h0, Option.some.inj h⟩
theorem rcheck_fin {k : Nat} {l : List S36} {i : Nat} {r : Int} (h : r18_Check.l0 k l i = some r) (hi : ¬ i < l.length) : r = 0 := by
  cases k with
  | zero => simp [r18_Check.l0] at h
  | succ k => rw [r18_Check.l0, if_neg hi] at h; exact (Option.some.inj h).symm
structure RCk (w W : World) (ga : Nat) (b : S36) (Ab : Option Addr) (cb : Nat) : Prop where
  blk : W.heap[ga]? = some (.cells (asC b (.slice Ab b.f8.length cb)) 36 (0, 0))
  svc : Kd.C k74 W Ab b.f8.length b.f8
  bel : Below w.heap.size w W
theorem RCk.below {w W W1 : World} {ga : Nat} {b : S36} {Ab : Option Addr} {cb : Nat} (h : RCk w W ga b Ab cb) (hb : Below W.heap.size W W1) : RCk w W1 ga b Ab cb := ⟨blk_below h.blk hb, Kd.C_below h.svc hb, below_then h.bel h.bel.size hb⟩
theorem r18_Check.calls (k : Nat) (A : Option Addr) (c : Nat) (l : List S36) (r : Int) (w : World) (hC : Kd.C k36 w A l.length l) (hc : l.length ≤ c) (h : r18_Check.f k l = some r) :
    Calls Tryz.prog 13 #[.slice A l.length c] w fun e w' => e = .returned (.int .i64 r) ∧ Below w.heap.size w w' := by
  have hu := Tryz.underlying36
  have hup := Tryz.underlying33
  have HC := Aside0.mk hC
  obtain ⟨n, hn⟩ : ∃ n, l.length = n := ⟨_, rfl⟩
  unfold r18_Check.f at h
  rw [hn] at h ⊢
  have HN := Aside0.mk hn
  by_cases h64 : (n : Int) > 64
  · rw [if_pos h64] at h
    have hr := Option.some.inj h
    subst hr
    have b1 : decide ((n : Int) > 64) = true := decide_eq_true h64
    have b2 : decide (64 < n) = true := decide_eq_true (by omega)
    clear hC h h64 hn hc
    go_enter Tryz.func13, Tryz.ntmps13
    go_wp2
    go_ret
    exact ⟨rfl, Below.refl _ _⟩
  · rw [if_neg h64] at h
    have HK := Aside0.mk h
    have b1 : decide ((n : Int) > 64) = false := decide_eq_false h64
    have H64 : Aside0 (n ≤ 64) := ⟨by omega⟩
    clear hC h h64 hn hc
    go_enter Tryz.func13, Tryz.ntmps13
    go_upto_region 4 with (fail)
    clear b1
    go_loopg [3] k (fun gg v3 wr => ∃ i : Nat, v3 = .int .i64 (i : Int) ∧ Aside0 (r18_Check.l0 gg l i = some r ∧ i ≤ n) ∧ Aside0 (Below w.heap.size w wr))
    case atStart => exact ⟨0, rfl, ⟨HK.out, by omega⟩, ⟨Below.refl _ _⟩⟩
    case round =>
      clear HK
      obtain ⟨i, rfl, HI, HB⟩ := hrel
      by_cases hi : i < n
      · have b2 : decide ((i : Int) < (n : Int)) = true := decide_eq_true (by omega)
        have b2' : decide (i < n) = true := decide_eq_true hi
        have b3 : n ≤ 1000000 := by have := H64.out; omega
        obtain ⟨ad, Ab, cb, rfl, k0, k1, k2, k3, k4, k5, k6, k7, k8, k9, k10, k11, kl, kc⟩ := at_T36 (Kd.C_below HC.out HB.out) (i : Int) (by omega) (by rw [HN.out]; omega)
        simp only [Int.toNat_natCast] at k0 k1 k2 k3 k4 k5 k6 k7 k8 k9 k10 k11
        obtain ⟨b, hb⟩ : ∃ b, rd_T36 l (i : Int) = b := ⟨_, rfl⟩
        obtain ⟨k', e, hk', hone, hcase⟩ := rcheck_on HI.out.1 (by rw [HN.out]; exact hi) hb
        rw [hb] at k0 k1 k2 k3 k4 k5 k6 k7 k8 k9 k10 k11 kl kc
        subst hk'
        have HKL := Aside0.mk kl
        have HKC := Aside0.mk kc
        have HONE := Aside0.mk hone
        have HCASE := Aside0.mk hcase
        have HII := Aside0.mk hi
        clear kl kc hone hcase hb
        go_upto_region 7 with (fail)
        obtain ⟨ga, hga⟩ : ∃ x, wr.heap.size = x := ⟨_, rfl⟩
        have HA : Aside0 ((wr.alloc (.cells (asC b (.slice Ab b.f8.length cb)) 36)).heap[wr.heap.size]? = some (.cells (asC b (.slice Ab b.f8.length cb)) 36 (0, 0))) := ⟨heap_alloc_new _ _⟩
        rw [hga] at HA
        simp only [hga]
        clear hga k0 k1 k2 k3 k4 k5 k6 k7 k8 k9 k10 k11
        have HR : Aside0 (RCk w (wr.alloc (.cells (asC b (.slice Ab b.f8.length cb)) 36)) ga b Ab cb) := ⟨HA.out, Kd.C_below HKC.out (below_alloc (Below.refl _ _) _), below_alloc HB.out _⟩
        clear HA HKC HB
        change Code.wp _ _ _ _ (wr.alloc (.cells (asC b (.slice Ab b.f8.length cb)) 36))
        generalize wr.alloc (.cells (asC b (.slice Ab b.f8.length cb)) 36) = W1 at HR ⊢
        obtain ⟨d0, d1, d2, d3, d4, d5, d6, d7, d8, d9, d10, d11⟩ := zc12 (Aside0.mk HR.out.blk)
        have hone := HONE.out
        unfold refOne at hone
        clear HONE
        by_cases h16 : (b.f8.length : Int) > 16
        · rw [if_pos h16] at hone
          have he := Option.some.inj hone
          subst he
          have HE : Aside0 (3 = r) := ⟨by rcases HCASE.out with h | h; exact h.2; exact absurd h.1 (by decide)⟩
          have c1 : decide (16 < (b.f8.length : Int)) = true := decide_eq_true h16
          have c2 : decide (16 < b.f8.length) = true := decide_eq_true (by omega)
          clear h16 hone HCASE
          go_wp2
          go_ret
          exact ⟨by rw [← HE.out]; rfl, HR.out.bel⟩
        rw [if_neg h16] at hone
        have c1 : decide (16 < (b.f8.length : Int)) = false := decide_eq_false h16
        have c2 : decide (16 < b.f8.length) = false := decide_eq_false (by omega)
        replace hone := Option.bind_eq_some_iff.mp hone
        obtain ⟨nm, e1, hone⟩ := hone
        have E1 := Aside0.mk e1
        have HONE := Aside0.mk hone
        clear h16 hone e1
        go_wp2_with fail
        refine (r04_IsName.calls k' b.f0 nm W1 E1.out).mono ?_
        rintro r2 w2 ⟨rfl, hb2⟩
        replace HR := Aside0.mk (HR.out.below hb2.below)
        clear hb2 d0 d1 d2 d3 d4 d5 d6 d7 d8 d9 d10 d11 c1 c2
        have hone := HONE.out
        clear HONE
        cases nm
        · rw [if_neg Bool.false_ne_true] at hone
          have he := Option.some.inj hone
          subst he
          have HE : Aside0 (5 = r) := ⟨by rcases HCASE.out with h | h; exact h.2; exact absurd h.1 (by decide)⟩
          clear hone HCASE
          go_wp2
          go_ret
          exact ⟨by rw [← HE.out]; rfl, HR.out.bel⟩
        rw [if_pos rfl] at hone
        replace hone := Option.bind_eq_some_iff.mp hone
        obtain ⟨q, e2, hone⟩ := hone
        have E2 := Aside0.mk e2
        have HONE := Aside0.mk hone
        clear hone e2
        obtain ⟨d0, d1, d2, d3, d4, d5, d6, d7, d8, d9, d10, d11⟩ := zc12 (Aside0.mk HR.out.blk)
        go_wp2_with fail
        refine (r18_inRange.calls k' b.f0 b.f1.f0.f0 b.f1.f0.f1 b.f1.f0.f2 b.f1.f1 b.f2 b.f3 b.f4 b.f5 b.f6 b.f7 Ab cb b.f8 q w2 HR.out.svc HKL.out E2.out).mono ?_
        rintro r2 w3 ⟨rfl, hb2⟩
        replace HR := Aside0.mk (HR.out.below hb2)
        clear hb2 d0 d1 d2 d3 d4 d5 d6 d7 d8 d9 d10 d11
        have hone := HONE.out
        clear HONE
        cases q
        · rw [if_neg Bool.false_ne_true] at hone
          have he := Option.some.inj hone
          subst he
          have HE : Aside0 (4 = r) := ⟨by rcases HCASE.out with h | h; exact h.2; exact absurd h.1 (by decide)⟩
          clear hone HCASE
          go_wp2
          go_ret
          exact ⟨by rw [← HE.out]; rfl, HR.out.bel⟩
        rw [if_pos rfl] at hone
        replace hone := Option.bind_eq_some_iff.mp hone
        obtain ⟨v, e3, hone⟩ := hone
        have E3 := Aside0.mk e3
        have HONE := Aside0.mk hone
        clear hone e3
        obtain ⟨d0, d1, d2, d3, d4, d5, d6, d7, d8, d9, d10, d11⟩ := zc12 (Aside0.mk HR.out.blk)
        go_wp2_with fail
        refine (r06_ValidPrefix.calls k' b.f1.f0.f0 b.f1.f0.f1 b.f1.f0.f2 b.f1.f1 v w3 E3.out).mono ?_
        rintro r2 w4 ⟨rfl, hb2⟩
        replace HR := Aside0.mk (HR.out.below hb2)
        clear hb2 d0 d1 d2 d3 d4 d5 d6 d7 d8 d9 d10 d11
        have hone := HONE.out
        clear HONE
        cases v
        · rw [if_neg Bool.false_ne_true] at hone
          have he := Option.some.inj hone
          subst he
          have HE : Aside0 (2 = r) := ⟨by rcases HCASE.out with h | h; exact h.2; exact absurd h.1 (by decide)⟩
          clear hone HCASE
          go_wp2
          go_ret
          exact ⟨by rw [← HE.out]; rfl, HR.out.bel⟩
        rw [if_pos rfl] at hone
        have he := Option.some.inj hone
        subst he
        clear hone
        have HCS : Aside0 ((((l.take i).any fun b' => clash b' b) = true ∧ r = 7) ∨ (((l.take i).any fun b' => clash b' b) = false ∧ ∃ t, refTwice k' b = some t ∧ ((t = true ∧ r = 7) ∨ (t = false ∧ r18_Check.l0 k' l (i + 1) = some r)))) := ⟨by rcases HCASE.out with h | h; exact absurd rfl h.1; exact h.2⟩
        clear HCASE
        go_upto_region 16 with (fail)
        go_loopg [5] (i + 1) (fun gg v5 wr2 => ∃ j : Nat, v5 = .int .i64 (j : Int) ∧ Aside0 (gg + j = i + 1 ∧ j ≤ i ∧ (l.take j).any (fun b' => clash b' b) = false) ∧ Aside0 (RCk w wr2 ga b Ab cb))
        case atStart => exact ⟨0, rfl, ⟨by omega, by omega, by simp⟩, HR⟩
        case round =>
          clear HR
          obtain ⟨j, rfl, HJ, HR⟩ := hrel
          by_cases hj : j < i
          · have c3 : decide ((j : Int) < (i : Int)) = true := decide_eq_true (by omega)
            have c3' : decide (j < i) = true := decide_eq_true hj
            have c4 : j < n := by omega
            have c4' : decide (j < n) = true := decide_eq_true c4
            have c4'' : decide ((j : Int) < (n : Int)) = true := decide_eq_true (by omega)
            obtain ⟨ad', Ax, cx, he, k0, k1, k2, k3, k4, k5, k6, k7, k8, k9, k10, k11, kl, kc⟩ := at_T36 (Kd.C_below HC.out HR.out.bel) (j : Int) (by omega) (by rw [HN.out]; omega)
            cases Option.some.inj he
            simp only [Int.toNat_natCast] at k0 k1 k2 k3 k4 k5 k6 k7 k8 k9 k10 k11
            have HS := Aside0.mk (any_take_snoc l (fun b' => clash b' b) j (by rw [HN.out]; exact c4))
            obtain ⟨x, hx⟩ : ∃ x, rd_T36 l (j : Int) = x := ⟨_, rfl⟩
            rw [hx] at k0 k1 k2 k3 k4 k5 k6 k7 k8 k9 k10 k11 HS
            have HJJ := Aside0.mk hj
            obtain ⟨d0, d1, d2, d3, d4, d5, d6, d7, d8, d9, d10, d11⟩ := zc12 (Aside0.mk HR.out.blk)
            clear hx kl kc he
            have HTT : Aside0 (∀ m, m ≤ i → (l.take m).any (fun b' => clash b' b) = true → (l.take i).any (fun b' => clash b' b) = true) := ⟨fun m hm h => by rw [← List.take_append_drop m (l.take i), List.take_take, Nat.min_eq_left hm, List.any_append, h]; rfl⟩
            cases hcl : clash x b with
            | true =>
              have HE : Aside0 (r = 7) := ⟨by
                have h1 := HTT.out (j + 1) HJJ.out (by rw [HS.out, hcl]; simp)
                rcases HCS.out with h | h
                · exact h.2
                · rw [h1] at h; exact absurd h.1 (by decide)⟩
              unfold clash at hcl
              cases hn : x.f0.toList == b.f0.toList with
              | true =>
                clear hcl
                go_upto_region 18 with (fail)
                repeat (go_quiet (fail))
                go_wp2
                go_ret
                exact ⟨by rw [HE.out]; rfl, pw_below_drewN HR.out.bel _⟩
              | false =>
                rw [hn, Bool.false_or] at hcl
                go_upto_region 18 with (fail)
                repeat (go_quiet (fail))
                go_wp2
                go_ret
                exact ⟨by rw [HE.out]; rfl, pw_below_drewN HR.out.bel _⟩
            | false =>
              have HJ2 : Aside0 ((i - j) + (j + 1) = i + 1 ∧ j + 1 ≤ i ∧ (l.take (j + 1)).any (fun b' => clash b' b) = false) := ⟨by have := HJJ.out; omega, HJJ.out, by rw [HS.out, hcl, HJ.out.2.2]; rfl⟩
              unfold clash at hcl
              have hn : (x.f0.toList == b.f0.toList) = false := by
                cases hn : x.f0.toList == b.f0.toList
                · rfl
                · rw [hn, Bool.true_or] at hcl; cases hcl
              rw [hn, Bool.false_or] at hcl
              go_upto_region 18 with (fail)
              repeat (go_quiet (fail))
              go_wp2
              go_roundg (i - j)
              case measure => have := HJ.out.1; have := HJJ.out; omega
              case rel => exact ⟨j + 1, by (have := HJJ.out; have := HII.out; go_num), HJ2, ⟨HR.out.below (pw_below_drewN (Below.refl _ _) _)⟩⟩
          · have c3 : decide ((j : Int) < (i : Int)) = false := decide_eq_false (by omega)
            have c3' : decide (j < i) = false := decide_eq_false hj
            have HJE : Aside0 (j = i) := ⟨by have := HJ.out.2.1; omega⟩
            have HCS2 : Aside0 (∃ t, refTwice k' b = some t ∧ ((t = true ∧ r = 7) ∨ (t = false ∧ r18_Check.l0 k' l (i + 1) = some r))) := ⟨by
              rcases HCS.out with h | h
              · have h2 := HJ.out.2.2
                rw [HJE.out, h.1] at h2
                exact absurd h2 (by decide)
              · exact h.2⟩
            obtain ⟨t, ht, hct⟩ := HCS2.out
            have HT := Aside0.mk ht
            have HCT := Aside0.mk hct
            clear HCS HCS2 ht hct
            obtain ⟨d0, d1, d2, d3, d4, d5, d6, d7, d8, d9, d10, d11⟩ := zc12 (Aside0.mk HR.out.blk)
            go_wp2_with fail
            refine (r18_twice.calls k' b.f0 b.f1.f0.f0 b.f1.f0.f1 b.f1.f0.f2 b.f1.f1 b.f2 b.f3 b.f4 b.f5 b.f6 b.f7 Ab cb b.f8 t wr HR.out.svc HKL.out HT.out).mono ?_
            rintro r4 w5 ⟨rfl, hb4⟩
            replace HR := Aside0.mk (HR.out.below hb4)
            clear hb4 d0 d1 d2 d3 d4 d5 d6 d7 d8 d9 d10 d11
            rcases HCT.out with ⟨h1, h2⟩ | ⟨h1, h2⟩
            · subst h1
              have HE := Aside0.mk h2
              clear h2
              go_wp2
              go_ret
              exact ⟨by rw [HE.out]; rfl, HR.out.bel⟩
            · subst h1
              have HE : Aside0 (r18_Check.l0 k' l (i + 1) = some r ∧ i + 1 ≤ n) := ⟨h2, HII.out⟩
              have hi2 : i < n := HII.out
              clear h2
              go_wp2
              go_roundg k'
              case measure => exact Nat.lt_succ_self k'
              case rel => exact ⟨i + 1, by (have := HII.out; go_num), HE, ⟨HR.out.bel⟩⟩
      · have HE : Aside0 (r = 0) := ⟨rcheck_fin HI.out.1 (by rw [HN.out]; exact hi)⟩
        have b2 : decide ((i : Int) < (n : Int)) = false := decide_eq_false (by omega)
        have b2' : decide (i < n) = false := decide_eq_false hi
        go_wp2
        go_ret
        exact ⟨by rw [HE.out]; rfl, HB.out⟩
end Go.Proofs.YtnphnhkinjppjaaGreatDoor.Q
end

section
namespace Go.Proofs.YtnphnhkinjppjaaGreatDoor.Q
open Go.RowKit Go.Proofs.YtnphnhkinjppjaaGreatDoorW.PrintWords Go.Proofs.YtnphnhkinjppjaaGreatDoorW.PrintLast Go.Proofs.YtnphnhkinjppjaaGreatDoorW.PrintMore
def bldRen : Go.Shelf.Ren := ⟨fun n => if n = 167 then 147 else Tryz.lays156_ren.f n, fun n => if n = 5 then 5 else Tryz.lays156_ren.t n, Tryz.lays156_ren.g⟩
theorem lays166 : Go.Proofs.Lays.n166 Tryz.prog Tryz.lays156_ren := {
  mixed := by kernel_rfl
  f166 := Tryz.lays156.f166
  f240 := Tryz.lays156.f240
  f276 := Tryz.lays156.f276
  t0 := Tryz.lays156.t0
  a0 := Tryz.lays156.a0
  z0 := Tryz.lays156.z0
  v0 := Tryz.lays156.v0
  t3 := Tryz.lays156.t3
  a3 := Tryz.lays156.a3
  z3 := Tryz.lays156.z3
  v3 := Tryz.lays156.v3
  t4 := Tryz.lays156.t4
  a4 := Tryz.lays156.a4
  z4 := Tryz.lays156.z4
  v4 := Tryz.lays156.v4
  t9 := Tryz.lays156.t9
  a9 := Tryz.lays156.a9
  z9 := Tryz.lays156.z9
  v9 := Tryz.lays156.v9
  t20 := Tryz.lays156.t20
  a20 := Tryz.lays156.a20
  z20 := Tryz.lays156.z20
  v20 := Tryz.lays156.v20
  t37 := Tryz.lays156.t37
  a37 := Tryz.lays156.a37
  z37 := Tryz.lays156.z37
  v37 := Tryz.lays156.v37
  t70 := Tryz.lays156.t70
  a70 := Tryz.lays156.a70
  z70 := Tryz.lays156.z70
  v70 := Tryz.lays156.v70
  t72 := Tryz.lays156.t72
  a72 := Tryz.lays156.a72
  z72 := Tryz.lays156.z72
  v72 := Tryz.lays156.v72
  t75 := Tryz.lays156.t75
  a75 := Tryz.lays156.a75
  z75 := Tryz.lays156.z75
  v75 := Tryz.lays156.v75
  t164 := Tryz.lays156.t164
  a164 := Tryz.lays156.a164
  z164 := Tryz.lays156.z164
  v164 := Tryz.lays156.v164 }
theorem lays167 : Go.Proofs.Lays.n167 Tryz.prog bldRen := {
  mixed := by kernel_rfl
  f167 := Tryz.func147.trans (congrArg some (by kernel_rfl))
  f240 := Tryz.lays156.f240
  f276 := Tryz.lays156.f276
  t0 := Tryz.lays156.t0
  a0 := Tryz.lays156.a0
  z0 := Tryz.lays156.z0
  v0 := Tryz.lays156.v0
  t4 := Tryz.lays156.t4
  a4 := Tryz.lays156.a4
  z4 := Tryz.lays156.z4
  v4 := Tryz.lays156.v4
  t5 := Tryz.underlying5
  a5 := Tryz.isAgg5
  z5 := Tryz.sizeOf5
  v5 := Tryz.zeroValue5
  t9 := Tryz.lays156.t9
  a9 := Tryz.lays156.a9
  z9 := Tryz.lays156.z9
  v9 := Tryz.lays156.v9
  t20 := Tryz.lays156.t20
  a20 := Tryz.lays156.a20
  z20 := Tryz.lays156.z20
  v20 := Tryz.lays156.v20
  t37 := Tryz.lays156.t37
  a37 := Tryz.lays156.a37
  z37 := Tryz.lays156.z37
  v37 := Tryz.lays156.v37
  t70 := Tryz.lays156.t70
  a70 := Tryz.lays156.a70
  z70 := Tryz.lays156.z70
  v70 := Tryz.lays156.v70
  t72 := Tryz.lays156.t72
  a72 := Tryz.lays156.a72
  z72 := Tryz.lays156.z72
  v72 := Tryz.lays156.v72
  t75 := Tryz.lays156.t75
  a75 := Tryz.lays156.a75
  z75 := Tryz.lays156.z75
  v75 := Tryz.lays156.v75
  t164 := Tryz.lays156.t164
  a164 := Tryz.lays156.a164
  z164 := Tryz.lays156.z164
  v164 := Tryz.lays156.v164 }
theorem extra167 : Builder.Extra Tryz.prog bldRen := {
  sizeBuilder := by kernel_rfl
  liesBuilder := by kernel_rfl
  t5 := Tryz.underlying5
  a5 := Tryz.isAgg5
  z5 := Tryz.sizeOf5
  v5 := Tryz.zeroValue5
  infoByte := by kernel_rfl
  cellsByte := by kernel_rfl
  sizeByte := by kernel_rfl
  neB5 := by decide }
abbrev IsBld (B b : Nat) (l : List UInt8) (w : World) : Prop := Lib.IsBuilderF 62 5 B b (Lib.byteCells l) w
theorem bld_new (w : World) : IsBld w.heap.size w.heap.size [] (w.alloc (.cells #[.pointer none, .slice none 0 0] 62)) :=
  .inl ⟨Nat.le_refl _, .slice none 0 0, heap_alloc_new w _, ⟨by simp, .inl ⟨rfl, rfl⟩⟩, by simp [Value.ownBlock]⟩
theorem bld_below {B b : Nat} {l : List UInt8} {w w' : World} (h : IsBld B b l w) (hb : Below w.heap.size w w') : IsBld B b l w' := by
  have hk : ∀ {v : Value} {n : Nat} {xs : List Value}, w.ownsRowF B 5 1 v n xs → w'.ownsRowF B 5 1 v n xs := fun {v n xs} ho => ho.kept (grown_of_below hb none) (by
    by_cases e : v.ownBlock = none
    · exact .inl e
    · exact .inr e)
  rcases h with ⟨h0, v, h1, h2, h3⟩ | ⟨h0, v, h1, h2, h3⟩
  · exact .inl ⟨h0, v, blk_below h1 hb, hk h2, h3⟩
  · exact .inr ⟨h0, v, blk_below h1 hb, hk h2, h3⟩
theorem bld_byte (B b : Nat) (l : List UInt8) (c : UInt8) (w : World) (h : IsBld B b l w) (hl : l.length < 100000000) (hB : B ≤ w.heap.size) :
    Calls Tryz.prog 147 #[.pointer (some ⟨b, 0, none⟩), .int .u8 c.toNat] w fun e w' => e = .returned .nilIface ∧ IsBld B b (l ++ [c]) w' ∧ Below B w w' ∧ Lib.OthersKept 5 (some b) w w' := by
  refine (Any.Builder_WriteByte_k lays167 extra167 B b (Lib.byteCells l) (c.toNat : Int) w h (by rw [Lib.byteCells_length]; omega) hB).mono ?_
  rintro e w' ⟨rfl, h1, h2, h3⟩
  exact ⟨rfl, .inr (by rw [Lib.byteCells_append]; exact h1), h2, h3⟩
theorem bld_str (B b : Nat) (l : List UInt8) (s : ByteArray) (w : World) (h : IsBld B b l w) (hl : l.length + s.size ≤ 100000000) (hB : B ≤ w.heap.size) :
    Calls Tryz.prog 38 #[.pointer (some ⟨b, 0, none⟩), .string s] w fun e w' => e = .returned (.tuple #[.int .i64 s.size, .nilIface]) ∧ IsBld B b (l ++ s.data.toList) w' ∧ Below B w w' ∧ Lib.OthersKept 5 (some b) w w' := by
  refine (Any.Builder_WriteString_k lays166 Tryz.Builder_Extra_156 B b (Lib.byteCells l) s w h (by rw [Lib.byteCells_length]; omega) hB).mono ?_
  rintro e w' ⟨rfl, h1, h2, h3⟩
  exact ⟨rfl, .inr (by rw [Lib.byteCells_append]; exact h1), h2, h3⟩
theorem bld_string (B b : Nat) (l : List UInt8) (w : World) (h : IsBld B b l w) (hB : B ≤ w.heap.size) :
    Calls Tryz.prog 45 #[.pointer (some ⟨b, 0, none⟩)] w fun e w' => e = .returned (.string ⟨l.toArray⟩) ∧ IsBld B b l w' ∧ Below B w w' ∧ Lib.OthersKept 5 (some b) w w' := by
  refine (Tryz.Builder_String_any_k B b l w h hB).mono ?_
  rintro e w' ⟨rfl, h1, h2, h3⟩
  exact ⟨rfl, h1, h2, h3⟩
end Go.Proofs.YtnphnhkinjppjaaGreatDoor.Q
end

section
set_option maxHeartbeats 8000000
set_option maxRecDepth 100000
namespace Go.Proofs.YtnphnhkinjppjaaGreatDoor.Q
open Go.RowKit Go.Proofs.YtnphnhkinjppjaaGreatDoorW.PrintWords Go.Proofs.YtnphnhkinjppjaaGreatDoorW.PrintLast Go.Proofs.YtnphnhkinjppjaaGreatDoorW.PrintMore
attribute [local go_sem] max2_int min2_int max_two min_two max_three min_three max_four min_four
def asset_policies.f  : Option (List ByteArray) := some (([(⟨#[102, 105, 114, 115, 116]⟩ : ByteArray), (⟨#[108, 97, 115, 116]⟩ : ByteArray), (⟨#[98, 115, 100]⟩ : ByteArray), (⟨#[108, 105, 110, 117, 120]⟩ : ByteArray), (⟨#[100, 114, 111, 112]⟩ : ByteArray)] : List ByteArray))
theorem asset_policies.calls  (r : List ByteArray) (w : World) (h : asset_policies.f  = some r) :
 Calls Tryz.prog 43 #[] w fun e w' => ∃ v0_ : Value, e = .returned (v0_) ∧ Kd.R Kd.string 9 w' w.heap.size (fun _ => True) v0_ r ∧ Below w.heap.size w w' := by
 have HB := Aside0.mk (Below.refl w.heap.size w)
 unfold asset_policies.f at h; have H := h
 clear h
 obtain ⟨y137, hy137⟩ : ∃ y_ : List ByteArray, y_ = (([(⟨#[102, 105, 114, 115, 116]⟩ : ByteArray), (⟨#[108, 97, 115, 116]⟩ : ByteArray), (⟨#[98, 115, 100]⟩ : ByteArray), (⟨#[108, 105, 110, 117, 120]⟩ : ByteArray), (⟨#[100, 114, 111, 112]⟩ : ByteArray)] : List ByteArray)) := ⟨_, rfl⟩
 rw [← hy137] at H; try dsimp only [Option.bind_some] at H
 have Ny137 := Aside0.mk hy137; clear hy137
 obtain rfl := Option.some.inj H
 go_enter Tryz.func43, Tryz.ntmps43
 go_wp2_with (first | ((with_reducible refine gate_dst (N := 1) rfl ?_); refine Kd.R_lit Kd.string _ 9 ?hg (N := 1) ?hd (xs := ([(⟨#[102, 105, 114, 115, 116]⟩ : ByteArray), (⟨#[108, 97, 115, 116]⟩ : ByteArray), (⟨#[98, 115, 100]⟩ : ByteArray), (⟨#[108, 105, 110, 117, 120]⟩ : ByteArray), (⟨#[100, 114, 111, 112]⟩ : ByteArray)] : List ByteArray)) (inner := [.string (⟨#[102, 105, 114, 115, 116]⟩ : ByteArray), .string (⟨#[108, 97, 115, 116]⟩ : ByteArray), .string (⟨#[98, 115, 100]⟩ : ByteArray), .string (⟨#[108, 105, 110, 117, 120]⟩ : ByteArray), .string (⟨#[100, 114, 111, 112]⟩ : ByteArray)]) (ok := fun _ => True) (okp := fun _ => True) ?hr ?hp (fun _ hk => hk) trivial (Below.refl _ _) (Nat.le_refl _) (by simp) ?_; (case hd => rfl); (case hg => rfl); (case hr => first | (go_simp; done) | (go_simp; rfl)); (case hp => exact (Reps.one (show Kd.M Kd.string _ _ _ (⟨#[102, 105, 114, 115, 116]⟩ : ByteArray) [.string (⟨#[102, 105, 114, 115, 116]⟩ : ByteArray)] from rfl) (Reps.one (show Kd.M Kd.string _ _ _ (⟨#[108, 97, 115, 116]⟩ : ByteArray) [.string (⟨#[108, 97, 115, 116]⟩ : ByteArray)] from rfl) (Reps.one (show Kd.M Kd.string _ _ _ (⟨#[98, 115, 100]⟩ : ByteArray) [.string (⟨#[98, 115, 100]⟩ : ByteArray)] from rfl) (Reps.one (show Kd.M Kd.string _ _ _ (⟨#[108, 105, 110, 117, 120]⟩ : ByteArray) [.string (⟨#[108, 105, 110, 117, 120]⟩ : ByteArray)] from rfl) (Reps.one (show Kd.M Kd.string _ _ _ (⟨#[100, 114, 111, 112]⟩ : ByteArray) [.string (⟨#[100, 114, 111, 112]⟩ : ByteArray)] from rfl) (Reps.none _ _))))))); intro v138 w1 ho2 hb hg_ hnew_; clear hg_ hnew_; (first | rw [← Ny137.out] at ho2 | (simp only [Int.reduceToNat] at ho2; rw [← Ny137.out] at ho2)); have HO139 := Aside0.mk (Kd.R_lower ho2 (below_size (zB HB))); replace HB := Aside0.mk (below_step (zB HB) hb); clear hb ho2))
 go_ret
 exact ⟨_, by first | rfl | (simp [errW_none, errW_some] <;> rfl) | (simp [*, errW_none, errW_some] <;> rfl), by (with_reducible repeat (first | apply Kd.R_alloc | apply Kd.R_drewN | apply Kd.R_drew)); exact HO139.out, by repeat (first | (with_reducible first | exact HB.out | apply below_alloc | apply pw_below_drewN | apply below_drew1) | exact HB.out)⟩
def asset_apps.f  : Option (List ByteArray) := some (([(⟨#[114, 97, 119]⟩ : ByteArray), (⟨#[104, 116, 116, 112]⟩ : ByteArray), (⟨#[115, 109, 116, 112]⟩ : ByteArray), (⟨#[116, 108, 115]⟩ : ByteArray), (⟨#[100, 110, 115]⟩ : ByteArray)] : List ByteArray))
theorem asset_apps.calls  (r : List ByteArray) (w : World) (h : asset_apps.f  = some r) :
 Calls Tryz.prog 44 #[] w fun e w' => ∃ v0_ : Value, e = .returned (v0_) ∧ Kd.R Kd.string 9 w' w.heap.size (fun _ => True) v0_ r ∧ Below w.heap.size w w' := by
 have HB := Aside0.mk (Below.refl w.heap.size w)
 unfold asset_apps.f at h; have H := h
 clear h
 obtain ⟨y144, hy144⟩ : ∃ y_ : List ByteArray, y_ = (([(⟨#[114, 97, 119]⟩ : ByteArray), (⟨#[104, 116, 116, 112]⟩ : ByteArray), (⟨#[115, 109, 116, 112]⟩ : ByteArray), (⟨#[116, 108, 115]⟩ : ByteArray), (⟨#[100, 110, 115]⟩ : ByteArray)] : List ByteArray)) := ⟨_, rfl⟩
 rw [← hy144] at H; try dsimp only [Option.bind_some] at H
 have Ny144 := Aside0.mk hy144; clear hy144
 obtain rfl := Option.some.inj H
 go_enter Tryz.func44, Tryz.ntmps44
 go_wp2_with (first | ((with_reducible refine gate_dst (N := 1) rfl ?_); refine Kd.R_lit Kd.string _ 9 ?hg (N := 1) ?hd (xs := ([(⟨#[114, 97, 119]⟩ : ByteArray), (⟨#[104, 116, 116, 112]⟩ : ByteArray), (⟨#[115, 109, 116, 112]⟩ : ByteArray), (⟨#[116, 108, 115]⟩ : ByteArray), (⟨#[100, 110, 115]⟩ : ByteArray)] : List ByteArray)) (inner := [.string (⟨#[114, 97, 119]⟩ : ByteArray), .string (⟨#[104, 116, 116, 112]⟩ : ByteArray), .string (⟨#[115, 109, 116, 112]⟩ : ByteArray), .string (⟨#[116, 108, 115]⟩ : ByteArray), .string (⟨#[100, 110, 115]⟩ : ByteArray)]) (ok := fun _ => True) (okp := fun _ => True) ?hr ?hp (fun _ hk => hk) trivial (Below.refl _ _) (Nat.le_refl _) (by simp) ?_; (case hd => rfl); (case hg => rfl); (case hr => first | (go_simp; done) | (go_simp; rfl)); (case hp => exact (Reps.one (show Kd.M Kd.string _ _ _ (⟨#[114, 97, 119]⟩ : ByteArray) [.string (⟨#[114, 97, 119]⟩ : ByteArray)] from rfl) (Reps.one (show Kd.M Kd.string _ _ _ (⟨#[104, 116, 116, 112]⟩ : ByteArray) [.string (⟨#[104, 116, 116, 112]⟩ : ByteArray)] from rfl) (Reps.one (show Kd.M Kd.string _ _ _ (⟨#[115, 109, 116, 112]⟩ : ByteArray) [.string (⟨#[115, 109, 116, 112]⟩ : ByteArray)] from rfl) (Reps.one (show Kd.M Kd.string _ _ _ (⟨#[116, 108, 115]⟩ : ByteArray) [.string (⟨#[116, 108, 115]⟩ : ByteArray)] from rfl) (Reps.one (show Kd.M Kd.string _ _ _ (⟨#[100, 110, 115]⟩ : ByteArray) [.string (⟨#[100, 110, 115]⟩ : ByteArray)] from rfl) (Reps.none _ _))))))); intro v145 w1 ho2 hb hg_ hnew_; clear hg_ hnew_; (first | rw [← Ny144.out] at ho2 | (simp only [Int.reduceToNat] at ho2; rw [← Ny144.out] at ho2)); have HO146 := Aside0.mk (Kd.R_lower ho2 (below_size (zB HB))); replace HB := Aside0.mk (below_step (zB HB) hb); clear hb ho2))
 go_ret
 exact ⟨_, by first | rfl | (simp [errW_none, errW_some] <;> rfl) | (simp [*, errW_none, errW_some] <;> rfl), by (with_reducible repeat (first | apply Kd.R_alloc | apply Kd.R_drewN | apply Kd.R_drew)); exact HO146.out, by repeat (first | (with_reducible first | exact HB.out | apply below_alloc | apply pw_below_drewN | apply below_drew1) | exact HB.out)⟩
end Go.Proofs.YtnphnhkinjppjaaGreatDoor.Q
end
