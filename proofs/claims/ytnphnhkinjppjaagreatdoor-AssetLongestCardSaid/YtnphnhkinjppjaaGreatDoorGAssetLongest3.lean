/- The law AssetLongest answers true for every input and leaves its arguments as they were. No condition. (Part 3 of 5: the kit's printed words and walks, hand-made contracts and plain laws, joined in build order, without what the theorem does not reach.) -/
import Derived.Shelf.Strings.BuilderK
import Derived.Lib.ItoaLen
import Derived.Shelf.SlSortCmp.InsertionK
import Derived.Laws.CopyRow
import Derived.Laws.OwnMore
import Derived.OwnWalk
import Derived.BigQuiet
import Derived.Outline
import Derived.Deep.QuietTactic
import Derived.StillTailTactics
import Derived.RegionTactic
import Derived.Test.YtnphnhkinjppjaaGreatDoorGAssetLongest2
set_option linter.unusedVariables false
set_option linter.unusedSimpArgs false
section
set_option maxHeartbeats 8000000
set_option maxRecDepth 100000
namespace Go.Proofs.YtnphnhkinjppjaaGreatDoor.Q
open Go.RowKit Go.Proofs.YtnphnhkinjppjaaGreatDoorW.PrintWords Go.Proofs.YtnphnhkinjppjaaGreatDoorW.PrintLast Go.Proofs.YtnphnhkinjppjaaGreatDoorW.PrintMore
abbrev asC (A : S36) (v : Value) : Array Value := #[.string A.f0, .bool A.f1.f0.f0, .int .u64 A.f1.f0.f1, .int .u64 A.f1.f0.f2, .int .i64 A.f1.f1, .int .i64 A.f2, .int .i64 A.f3, .int .i64 A.f4, .int .i64 A.f5, .bool A.f6, .int .i64 A.f7, v]
def clash (b a : S36) : Bool := b.f0.toList == a.f0.toList || ((b.f1.f0.f0 == a.f1.f0.f0 && (b.f1.f0.f1 == a.f1.f0.f1 && (b.f1.f0.f2 == a.f1.f0.f2))) && (b.f1.f1 == a.f1.f1))
attribute [local go_sem high] eqA33
theorem clash_walk (b a : S36) (Ab Aa : Option Addr) (nb cb na ca ga : Nat) (w : World) (ha : w.heap[ga]? = some (.cells (asC a (.slice Aa na ca)) 36 (0, 0))) :
    Calls Tryz.prog 32 #[.agg (asC b (.slice Ab nb cb)), .pointer (some ⟨ga, 0, none⟩)] w fun e w' => e = .returned (.bool (clash b a)) ∧ Below w.heap.size w w' := by
  have hu := Tryz.underlying36
  have hu2 := Tryz.underlying33
  have HX : Aside0 ((w.alloc (.cells (asC b (.slice Ab nb cb)) 36)).heap[w.heap.size]? = some (.cells (asC b (.slice Ab nb cb)) 36 (0, 0))) := ⟨heap_alloc_new _ _⟩
  have HY := Aside0.mk (blk_alloc ha (.cells (asC b (.slice Ab nb cb)) 36))
  have HB := Aside0.mk (below_alloc (Below.refl w.heap.size w) (.cells (asC b (.slice Ab nb cb)) 36))
  clear ha
  go_enter Tryz.func32, Tryz.ntmps32
  go_upto_region 1 with (fail)
  obtain ⟨gb, hgb⟩ : ∃ gb, w.heap.size = gb := ⟨_, rfl⟩
  rw [hgb] at HX
  simp only [hgb]
  clear hgb
  change Code.wp _ _ _ _ (w.alloc (.cells (asC b (.slice Ab nb cb)) 36))
  generalize w.alloc (.cells (asC b (.slice Ab nb cb)) 36) = W at HX HY HB ⊢
  obtain ⟨d0, d1, d2, d3, d4, d5, d6, d7, d8, d9, d10, d11⟩ := zc12 HX
  obtain ⟨x0, x1, x2, x3, x4, x5, x6, x7, x8, x9, x10, x11⟩ := zc12 HY
  cases hn : b.f0.toList == a.f0.toList with
  | true =>
    have HE : Aside0 (clash b a = true) := ⟨by unfold clash; rw [hn]; rfl⟩
    go_wp2
    go_ret
    exact ⟨by rw [HE.out]; rfl, HB.out⟩
  | false =>
    have HE : Aside0 (clash b a = ((b.f1.f0.f0 == a.f1.f0.f0 && (b.f1.f0.f1 == a.f1.f0.f1 && (b.f1.f0.f2 == a.f1.f0.f2))) && (b.f1.f1 == a.f1.f1))) := ⟨by unfold clash; rw [hn]; rfl⟩
    go_wp2
    go_ret
    exact ⟨by rw [HE.out]; rfl, HB.out⟩
def Found (l : List S36) (a : S36) (w : World) (e : Ending) (w' : World) : Prop := ∃ n : Int, e = .returned (.int .i64 n) ∧ decide (n ≥ 0) = l.any (fun b => clash b a) ∧ Below w.heap.size w w'
theorem any_take_snoc (l : List S36) (f : S36 → Bool) (i : Nat) (hi : i < l.length) : (l.take (i + 1)).any f = ((l.take i).any f || f (rd_T36 l (i : Int))) := by
  rw [List.take_succ_eq_append_getElem hi, List.any_append]
  simp only [List.any_cons, List.any_nil, Bool.or_false]
  unfold rd_T36
  rw [Int.toNat_natCast, List.getD_eq_getElem?_getD, List.getElem?_eq_getElem hi, Option.getD_some]
theorem any_of_take (l : List S36) (f : S36 → Bool) (i : Nat) (h : (l.take i).any f = true) : l.any f = true := by
  rw [← List.take_append_drop i l, List.any_append, h]; rfl
theorem idx_walk (l : List S36) (a : S36) (A Aa : Option Addr) (c na ca ga : Nat) (w : World) (hC : Kd.C k36 w A l.length l) (hl : l.length ≤ 1000000) (ha : w.heap[ga]? = some (.cells (asC a (.slice Aa na ca)) 36 (0, 0))) :
    Calls Tryz.prog 57 #[.slice A l.length c, .func (.func 32) #[] #[.pointer (some ⟨ga, 0, none⟩)]] w fun e w' => Found l a w e w' := by
  have hu := Tryz.underlying36
  have HC := Aside0.mk hC
  have HA := Aside0.mk ha
  have HL := Aside0.mk hl
  obtain ⟨n, hn⟩ : ∃ n, l.length = n := ⟨_, rfl⟩
  have HN := Aside0.mk hn
  rw [hn]
  clear hC ha hl hn
  go_enter Tryz.func57, Tryz.ntmps57
  go_upto_region 2 with (fail)
  go_loopg [8] n (fun gg v8 wr => ∃ i : Nat, v8 = .int .i64 (i : Int) ∧ Aside0 (gg = n - i ∧ i ≤ n ∧ (l.take i).any (fun b => clash b a) = false) ∧ Aside0 (Below w.heap.size w wr))
  case atStart => exact ⟨0, rfl, ⟨by omega, by omega, by simp⟩, ⟨Below.refl _ _⟩⟩
  case round =>
    obtain ⟨i, rfl, HI, HB⟩ := hrel
    by_cases hi : i < n
    · have b1 : decide (i < n) = true := decide_eq_true hi
      have b2 : decide ((i : Int) < (n : Int)) = true := decide_eq_true (by omega)
      obtain ⟨ad, Ab, cb, rfl, k0, k1, k2, k3, k4, k5, k6, k7, k8, k9, k10, k11, _⟩ := at_T36 HC.out (i : Int) (by omega) (by rw [HN.out]; omega)
      replace k0 := pw_cell_below HB.out k0
      replace k1 := pw_cell_below HB.out k1
      replace k2 := pw_cell_below HB.out k2
      replace k3 := pw_cell_below HB.out k3
      replace k4 := pw_cell_below HB.out k4
      replace k5 := pw_cell_below HB.out k5
      replace k6 := pw_cell_below HB.out k6
      replace k7 := pw_cell_below HB.out k7
      replace k8 := pw_cell_below HB.out k8
      replace k9 := pw_cell_below HB.out k9
      replace k10 := pw_cell_below HB.out k10
      replace k11 := pw_cell_below HB.out k11
      simp only [Int.toNat_natCast] at k0 k1 k2 k3 k4 k5 k6 k7 k8 k9 k10 k11
      have HA2 := Aside0.mk (blk_below HA.out HB.out)
      have b3 : n ≤ 1000000 := by have := HL.out; have := HN.out; omega
      have HS := Aside0.mk (any_take_snoc l (fun b => clash b a) i (by rw [HN.out]; exact hi))
      have HII := Aside0.mk hi
      obtain ⟨b, hb⟩ : ∃ b, rd_T36 l (i : Int) = b := ⟨_, rfl⟩
      rw [hb] at k0 k1 k2 k3 k4 k5 k6 k7 k8 k9 k10 k11 HS
      clear hb
      go_wp2_with fail
      refine (clash_walk b a Ab Aa b.f8.length cb na ca ga wr HA2.out).mono ?_
      rintro e w2 ⟨rfl, hb2⟩
      have HB2 := Aside0.mk (HB.out.trans (hb2.mono HB.out.size))
      clear hb2 k0 k1 k2 k3 k4 k5 k6 k7 k8 k9 k10 k11
      cases hcl : clash b a with
      | true =>
        have HE : Aside0 (l.any (fun b => clash b a) = true) := ⟨any_of_take l _ (i + 1) (by rw [HS.out, hcl]; simp)⟩
        clear hcl
        go_wp2
        go_ret
        exact ⟨(i : Int), rfl, by rw [HE.out]; exact decide_eq_true (by omega), HB2.out⟩
      | false =>
        have HE : Aside0 (gk - 1 < gk ∧ gk - 1 = n - (i + 1) ∧ i + 1 ≤ n ∧ (l.take (i + 1)).any (fun b => clash b a) = false) := ⟨by have := HI.out.1; omega, by have := HI.out.1; omega, by omega, by rw [HS.out, HI.out.2.2, hcl]; rfl⟩
        clear hcl
        go_wp2
        go_roundg (gk - 1)
        case measure => exact HE.out.1
        case rel => exact ⟨i + 1, by go_num, ⟨HE.out.2⟩, HB2⟩
    · have b1 : decide ((i : Int) < (n : Int)) = false := decide_eq_false (by omega)
      have HE : Aside0 (l.any (fun b => clash b a) = false) := ⟨by have h := HI.out.2.2; rwa [List.take_of_length_le (by have := HN.out; omega)] at h⟩
      go_wp2
      go_ret
      exact ⟨-1, rfl, by rw [HE.out]; rfl, HB.out⟩
theorem has_walk (l : List S36) (a : S36) (A Aa : Option Addr) (c na ca ga : Nat) (w : World) (hC : Kd.C k36 w A l.length l) (hl : l.length ≤ 1000000) (ha : w.heap[ga]? = some (.cells (asC a (.slice Aa na ca)) 36 (0, 0))) :
    Calls Tryz.prog 31 #[.slice A l.length c, .func (.func 32) #[] #[.pointer (some ⟨ga, 0, none⟩)]] w fun e w' => e = .returned (.bool (l.any fun b => clash b a)) ∧ Below w.heap.size w w' := by
  have H := Aside0.mk (idx_walk l a A Aa c na ca ga w hC hl ha)
  obtain ⟨n, hn⟩ : ∃ n, l.length = n := ⟨_, rfl⟩
  rw [hn] at H ⊢
  clear hC hl ha hn
  go_enter Tryz.func31, Tryz.ntmps31
  go_wp2_with fail
  refine H.out.mono ?_
  rintro e w2 ⟨m, rfl, h1, h2⟩
  have H1 := Aside0.mk h1
  have H2 := Aside0.mk h2
  clear h1 h2
  go_wp2
  go_ret
  exact ⟨by rw [← H1.out]; rfl, H2.out⟩
def asset_Check.l0 : Nat → List S36 → Nat → Option Int
  | 0, _, _ => none
  | k + 1, l, i =>
    if i < l.length then
      (asset_checkOne.f k (rd_T36 l (i : Int)).f0 (rd_T36 l (i : Int)).f1.f0.f0 (rd_T36 l (i : Int)).f1.f0.f1 (rd_T36 l (i : Int)).f1.f0.f2 (rd_T36 l (i : Int)).f1.f1 (rd_T36 l (i : Int)).f2 (rd_T36 l (i : Int)).f3 (rd_T36 l (i : Int)).f4 (rd_T36 l (i : Int)).f5 (rd_T36 l (i : Int)).f6 (rd_T36 l (i : Int)).f7 (rd_T36 l (i : Int)).f8).bind fun e =>
        if e = 0 then (if ((l.take i).any fun b => clash b (rd_T36 l (i : Int))) = true then some 7 else (asset_twice.f k (rd_T36 l (i : Int)).f8).bind fun t => if t = true then some 7 else asset_Check.l0 k l (i + 1)) else some e
    else some 0
def asset_Check.f (k : Nat) (l : List S36) : Option Int := if (l.length : Int) > 64 then some 3 else asset_Check.l0 k l 0
theorem asset_Check.mono_l : ∀ (k : Nat) (l : List S36) (i : Nat), LeO (asset_Check.l0 k l i) (asset_Check.l0 (k + 1) l i) := by
  intro k
  induction k with
  | zero => intro l i; exact LeO.none _
  | succ k ih =>
    intro l i
    rw [asset_Check.l0, asset_Check.l0]
    exact LeO.ite (LeO.bind (asset_checkOne.mono _ _ _ _ _ _ _ _ _ _ _ _ _) fun e => LeO.ite (LeO.ite (LeO.refl _) (LeO.bind (asset_twice.mono _ _) fun t => LeO.ite (LeO.refl _) (ih _ _))) (LeO.refl _)) (LeO.refl _)
theorem asset_Check.mono : ∀ l k, LeO (asset_Check.f k l) (asset_Check.f (k + 1) l) := fun l k => LeO.ite (LeO.refl _) (asset_Check.mono_l _ _ _)
theorem check_on {k : Nat} {l : List S36} {i : Nat} {r : Int} (h : asset_Check.l0 k l i = some r) (hi : i < l.length) {b : S36} (hb : rd_T36 l (i : Int) = b) : ∃ k' e, k = k' + 1 ∧ asset_checkOne.f k' b.f0 b.f1.f0.f0 b.f1.f0.f1 b.f1.f0.f2 b.f1.f1 b.f2 b.f3 b.f4 b.f5 b.f6 b.f7 b.f8 = some e ∧ ((¬ e = 0 ∧ e = r) ∨ (e = 0 ∧ ((((l.take i).any fun b' => clash b' b) = true ∧ r = 7) ∨ (((l.take i).any fun b' => clash b' b) = false ∧ ∃ t, asset_twice.f k' b.f8 = some t ∧ ((t = true ∧ r = 7) ∨ (t = false ∧ asset_Check.l0 k' l (i + 1) = some r)))))) := by
  cases k with
  | zero => simp [asset_Check.l0] at h
  | succ k =>
    rw [asset_Check.l0, if_pos hi, hb] at h
    obtain ⟨e, he, h⟩ := Option.bind_eq_some_iff.1 h
    refine ⟨k, e, rfl, he, ?_⟩
    split at h
    · rename_i h0
      refine .inr ⟨h0, ?_⟩
      split at h
      · rename_i h1
        exact .inl ⟨h1, (Option.some.inj h).symm⟩
      · rename_i h1
        obtain ⟨t, ht, h⟩ := Option.bind_eq_some_iff.1 h
        refine .inr ⟨by simpa using h1, t, ht, ?_⟩
        split at h
        · rename_i h2
          exact .inl ⟨h2, (Option.some.inj h).symm⟩
        · rename_i h2
          exact .inr ⟨by simpa using h2, h⟩
    · rename_i h0
      exact .inl ⟨h0, Option.some.inj h⟩
theorem check_fin {k : Nat} {l : List S36} {i : Nat} {r : Int} (h : asset_Check.l0 k l i = some r) (hi : ¬ i < l.length) : r = 0 := by
  cases k with
  | zero => simp [asset_Check.l0] at h
  | succ k => rw [asset_Check.l0, if_neg hi] at h; exact (Option.some.inj h).symm
theorem asset_Check.calls (k : Nat) (A : Option Addr) (c : Nat) (l : List S36) (r : Int) (w : World) (hC : Kd.C k36 w A l.length l) (hc : l.length ≤ c) (h : asset_Check.f k l = some r) :
    Calls Tryz.prog 12 #[.slice A l.length c] w fun e w' => e = .returned (.int .i64 r) ∧ Below w.heap.size w w' := by
  have hu := Tryz.underlying36
  have HC := Aside0.mk hC
  have HCC := Aside0.mk hc
  obtain ⟨n, hn⟩ : ∃ n, l.length = n := ⟨_, rfl⟩
  unfold asset_Check.f at h
  rw [hn] at h hc ⊢
  have HN := Aside0.mk hn
  by_cases h64 : (n : Int) > 64
  · rw [if_pos h64] at h
    have hr := Option.some.inj h
    subst hr
    have b1 : decide ((n : Int) > 64) = true := decide_eq_true h64
    have b2 : decide (64 < n) = true := decide_eq_true (by omega)
    clear hC h h64 hn
    go_enter Tryz.func12, Tryz.ntmps12
    go_wp2
    go_ret
    exact ⟨rfl, Below.refl _ _⟩
  · rw [if_neg h64] at h
    have HK := Aside0.mk h
    have b1 : decide ((n : Int) > 64) = false := decide_eq_false h64
    have H64 : Aside0 (n ≤ 64) := ⟨by omega⟩
    clear hC h h64 hn hc
    go_enter Tryz.func12, Tryz.ntmps12
    go_upto_region 4 with (fail)
    clear b1
    go_loopg [12] k (fun gg v12 wr => ∃ i : Nat, v12 = .int .i64 (i : Int) ∧ Aside0 (asset_Check.l0 gg l i = some r ∧ i ≤ n) ∧ Aside0 (Below w.heap.size w wr))
    case atStart => exact ⟨0, rfl, ⟨HK.out, by omega⟩, ⟨Below.refl _ _⟩⟩
    case round =>
      clear HK
      obtain ⟨i, rfl, HI, HB⟩ := hrel
      by_cases hi : i < n
      · have b2 : decide ((i : Int) < (n : Int)) = true := decide_eq_true (by omega)
        have b2' : decide (i < n) = true := decide_eq_true hi
        obtain ⟨ad, Ab, cb, rfl, k0, k1, k2, k3, k4, k5, k6, k7, k8, k9, k10, k11, kl, kc⟩ := at_T36 HC.out (i : Int) (by omega) (by rw [HN.out]; omega)
        replace k0 := pw_cell_below HB.out k0
        replace k1 := pw_cell_below HB.out k1
        replace k2 := pw_cell_below HB.out k2
        replace k3 := pw_cell_below HB.out k3
        replace k4 := pw_cell_below HB.out k4
        replace k5 := pw_cell_below HB.out k5
        replace k6 := pw_cell_below HB.out k6
        replace k7 := pw_cell_below HB.out k7
        replace k8 := pw_cell_below HB.out k8
        replace k9 := pw_cell_below HB.out k9
        replace k10 := pw_cell_below HB.out k10
        replace k11 := pw_cell_below HB.out k11
        simp only [Int.toNat_natCast] at k0 k1 k2 k3 k4 k5 k6 k7 k8 k9 k10 k11
        obtain ⟨b, hb⟩ : ∃ b, rd_T36 l (i : Int) = b := ⟨_, rfl⟩
        obtain ⟨k', e, hk', hone, hcase⟩ := check_on HI.out.1 (by rw [HN.out]; exact hi) hb
        rw [hb] at k0 k1 k2 k3 k4 k5 k6 k7 k8 k9 k10 k11 kl kc
        subst hk'
        have HKL := Aside0.mk kl
        have HKC := Aside0.mk (Kd.C_below kc HB.out)
        have HONE := Aside0.mk hone
        have HCASE := Aside0.mk hcase
        have HII := Aside0.mk hi
        have HTK : Aside0 ((l.take i).length = i) := ⟨by rw [List.length_take, HN.out]; omega⟩
        have b3 : n ≤ 1000000 := by have := H64.out; omega
        clear kl kc hone hcase hb
        go_upto_region 6 with (fail)
        obtain ⟨ga, hga⟩ : ∃ x, wr.heap.size = x := ⟨_, rfl⟩
        have HA : Aside0 ((wr.alloc (.cells (asC b (.slice Ab b.f8.length cb)) 36)).heap[wr.heap.size]? = some (.cells (asC b (.slice Ab b.f8.length cb)) 36 (0, 0))) := ⟨heap_alloc_new _ _⟩
        rw [hga] at HA
        simp only [hga]
        clear hga k0 k1 k2 k3 k4 k5 k6 k7 k8 k9 k10 k11
        replace HKC := Aside0.mk (Kd.C_below HKC.out (below_alloc (Below.refl _ _) (.cells (asC b (.slice Ab b.f8.length cb)) 36)))
        replace HB := Aside0.mk (below_alloc HB.out (.cells (asC b (.slice Ab b.f8.length cb)) 36))
        change Code.wp _ _ _ _ (wr.alloc (.cells (asC b (.slice Ab b.f8.length cb)) 36))
        generalize wr.alloc (.cells (asC b (.slice Ab b.f8.length cb)) 36) = W1 at HA HKC HB ⊢
        obtain ⟨d0, d1, d2, d3, d4, d5, d6, d7, d8, d9, d10, d11⟩ := zc12 HA
        go_wp2_with fail
        refine (asset_checkOne.calls k' b.f0 b.f1.f0.f0 b.f1.f0.f1 b.f1.f0.f2 b.f1.f1 b.f2 b.f3 b.f4 b.f5 b.f6 b.f7 Ab cb b.f8 e W1 HKC.out HKL.out HONE.out).mono ?_
        rintro r2 w2 ⟨rfl, hb2⟩
        clear d0 d1 d2 d3 d4 d5 d6 d7 d8 d9 d10 d11
        replace HKC := Aside0.mk (Kd.C_below HKC.out hb2)
        replace HA := Aside0.mk (blk_below HA.out hb2)
        replace HB := Aside0.mk (HB.out.trans (hb2.mono HB.out.size))
        clear hb2
        rcases HCASE.out with ⟨h1, h2⟩ | ⟨h1, hcs⟩
        · have b5 : (e != 0) = true := bne_iff_ne.mpr h1
          have HE := Aside0.mk h2
          clear h1 h2
          go_wp2
          go_ret
          exact ⟨by rw [← HE.out]; rfl, HB.out⟩
        · have b5 : (e != 0) = false := by rw [h1]; rfl
          have HCS := Aside0.mk hcs
          clear h1 hcs HCASE
          have hcap : n ≤ c := by have := HCC.out; have := HN.out; omega
          have hin : i ≤ n := Nat.le_of_lt HII.out
          have HTC := Aside0.mk (Kd.C_take (m := i) (Kd.C_below HC.out HB.out) (by rw [HN.out]; exact hin))
          have HHAS := Aside0.mk (has_walk (l.take i) b (some ad) Ab c b.f8.length cb ga w2 HTC.out (by rw [HTK.out]; have := H64.out; omega) HA.out)
          rw [HTK.out] at HHAS
          go_wp2_with fail
          refine HHAS.out.mono ?_
          rintro r3 w3 ⟨rfl, hb3⟩
          replace HKC := Aside0.mk (Kd.C_below HKC.out hb3)
          replace HA := Aside0.mk (blk_below HA.out hb3)
          replace HB := Aside0.mk (HB.out.trans (hb3.mono HB.out.size))
          clear hb3 hcap hin HTC HHAS
          rcases HCS.out with ⟨h1, h2⟩ | ⟨h1, t, ht, hcs⟩
          · have HE := Aside0.mk h2
            rw [h1]
            clear h1 h2 HCS
            go_wp2
            go_ret
            exact ⟨by rw [HE.out]; rfl, HB.out⟩
          · have HT := Aside0.mk ht
            have HCT := Aside0.mk hcs
            rw [h1]
            clear h1 ht hcs HCS
            obtain ⟨d0, d1, d2, d3, d4, d5, d6, d7, d8, d9, d10, d11⟩ := zc12 HA
            go_wp2_with fail
            refine (asset_twice.calls k' Ab cb b.f8 t w3 HKC.out HKL.out HT.out).mono ?_
            rintro r4 w4 ⟨rfl, hb4⟩
            replace HB := Aside0.mk (HB.out.trans (hb4.mono HB.out.size))
            clear hb4 d0 d1 d2 d3 d4 d5 d6 d7 d8 d9 d10 d11
            rcases HCT.out with ⟨h1, h2⟩ | ⟨h1, h2⟩
            · subst h1
              have HE := Aside0.mk h2
              clear h2
              go_wp2
              go_ret
              exact ⟨by rw [HE.out]; rfl, HB.out⟩
            · subst h1
              have HE : Aside0 (asset_Check.l0 k' l (i + 1) = some r ∧ i + 1 ≤ n) := ⟨h2, HII.out⟩
              clear h2
              go_wp2
              go_roundg k'
              case measure => exact Nat.lt_succ_self k'
              case rel => exact ⟨i + 1, by go_num, HE, HB⟩
      · have HE : Aside0 (r = 0) := ⟨check_fin HI.out.1 (by rw [HN.out]; exact hi)⟩
        have b2 : decide ((i : Int) < (n : Int)) = false := decide_eq_false (by omega)
        have b2' : decide (i < n) = false := decide_eq_false hi
        go_wp2
        go_ret
        exact ⟨by rw [HE.out]; rfl, HB.out⟩
end Go.Proofs.YtnphnhkinjppjaaGreatDoor.Q
end

section
namespace Go.Proofs.YtnphnhkinjppjaaGreatDoor.Q
open Go.RowKit Go.Proofs.YtnphnhkinjppjaaGreatDoorW.PrintWords Go.Proofs.YtnphnhkinjppjaaGreatDoorW.PrintLast Go.Proofs.YtnphnhkinjppjaaGreatDoorW.PrintMore
attribute [local go_sem] max2_int min2_int max_two min_two max_three min_three max_four min_four
mutual
def r18_inRange.j0 : Nat → Bool → ByteArray → Bool → Int → Int → Int → Int → Int → Int → Int → Bool → Int → List (S74) → Option (Bool)
  | 0, _, _, _, _, _, _, _, _, _, _, _, _, _ => none
  | k + 1, x52, x292000, x292001, x292002, x292003, x292004, x292005, x292006, x292007, x292008, x292009, x292010, x292011 => if x52 = true then (some false) else (r18_inRange.l0 k 0 x292000 x292001 x292002 x292003 x292004 x292005 x292006 x292007 x292008 x292009 x292010 x292011)
def r18_inRange.l0 : Nat → Int → ByteArray → Bool → Int → Int → Int → Int → Int → Int → Int → Bool → Int → List (S74) → Option (Bool)
  | 0, _, _, _, _, _, _, _, _, _, _, _, _, _ => none
  | k + 1, x3, x292000, x292001, x292002, x292003, x292004, x292005, x292006, x292007, x292008, x292009, x292010, x292011 => if x3 < (x292011.length : Int) then (if 0 ≤ x3 then (if ((rd_T74 x292011 x3).f0) = 6 then (if ((rd_T74 x292011 x3).f1) < 0 then (some false) else (if ((rd_T74 x292011 x3).f1) > 65535 then (some false) else (if ((rd_T74 x292011 x3).f2) < 0 then (some false) else (if ((rd_T74 x292011 x3).f2) > 4 then (some false) else (r18_inRange.l0 k (wrap64 (x3 + 1)) x292000 x292001 x292002 x292003 x292004 x292005 x292006 x292007 x292008 x292009 x292010 x292011))))) else (if ((rd_T74 x292011 x3).f0) = 17 then (if ((rd_T74 x292011 x3).f1) < 0 then (some false) else (if ((rd_T74 x292011 x3).f1) > 65535 then (some false) else (if ((rd_T74 x292011 x3).f2) < 0 then (some false) else (if ((rd_T74 x292011 x3).f2) > 4 then (some false) else (r18_inRange.l0 k (wrap64 (x3 + 1)) x292000 x292001 x292002 x292003 x292004 x292005 x292006 x292007 x292008 x292009 x292010 x292011))))) else (some false))) else (none)) else (some true)
end
def r18_inRange.f (k : Nat) (a0_0 : ByteArray) (a0_1 : Bool) (a0_2 : Int) (a0_3 : Int) (a0_4 : Int) (a0_5 : Int) (a0_6 : Int) (a0_7 : Int) (a0_8 : Int) (a0_9 : Bool) (a0_10 : Int) (l0_11 : List (S74)) : Option (Bool) := if a0_5 < 1 then (r18_inRange.j0 k true a0_0 a0_1 a0_2 a0_3 a0_4 a0_5 a0_6 a0_7 a0_8 a0_9 a0_10 l0_11) else (if a0_5 > 4 then (r18_inRange.j0 k true a0_0 a0_1 a0_2 a0_3 a0_4 a0_5 a0_6 a0_7 a0_8 a0_9 a0_10 l0_11) else (if a0_6 < 1 then (r18_inRange.j0 k true a0_0 a0_1 a0_2 a0_3 a0_4 a0_5 a0_6 a0_7 a0_8 a0_9 a0_10 l0_11) else (if a0_6 > 5 then (r18_inRange.j0 k true a0_0 a0_1 a0_2 a0_3 a0_4 a0_5 a0_6 a0_7 a0_8 a0_9 a0_10 l0_11) else (if a0_7 < 0 then (r18_inRange.j0 k true a0_0 a0_1 a0_2 a0_3 a0_4 a0_5 a0_6 a0_7 a0_8 a0_9 a0_10 l0_11) else (if a0_7 > 64 then (r18_inRange.j0 k true a0_0 a0_1 a0_2 a0_3 a0_4 a0_5 a0_6 a0_7 a0_8 a0_9 a0_10 l0_11) else (if a0_8 < 1 then (r18_inRange.j0 k true a0_0 a0_1 a0_2 a0_3 a0_4 a0_5 a0_6 a0_7 a0_8 a0_9 a0_10 l0_11) else (if a0_8 > 8192 then (r18_inRange.j0 k true a0_0 a0_1 a0_2 a0_3 a0_4 a0_5 a0_6 a0_7 a0_8 a0_9 a0_10 l0_11) else (if a0_10 < 0 then (r18_inRange.j0 k true a0_0 a0_1 a0_2 a0_3 a0_4 a0_5 a0_6 a0_7 a0_8 a0_9 a0_10 l0_11) else (r18_inRange.j0 k (decide (a0_10 > 3)) a0_0 a0_1 a0_2 a0_3 a0_4 a0_5 a0_6 a0_7 a0_8 a0_9 a0_10 l0_11)))))))))
theorem r18_inRange.mono_l : ∀ k, (∀ y0 y1 y2 y3 y4 y5 y6 y7 y8 y9 y10 y11 y12, LeO (r18_inRange.j0 k y0 y1 y2 y3 y4 y5 y6 y7 y8 y9 y10 y11 y12) (r18_inRange.j0 (k + 1) y0 y1 y2 y3 y4 y5 y6 y7 y8 y9 y10 y11 y12)) ∧ (∀ y0 y1 y2 y3 y4 y5 y6 y7 y8 y9 y10 y11 y12, LeO (r18_inRange.l0 k y0 y1 y2 y3 y4 y5 y6 y7 y8 y9 y10 y11 y12) (r18_inRange.l0 (k + 1) y0 y1 y2 y3 y4 y5 y6 y7 y8 y9 y10 y11 y12))
  | 0 => ⟨fun _ _ _ _ _ _ _ _ _ _ _ _ _ r h => by simp [r18_inRange.j0] at h, fun _ _ _ _ _ _ _ _ _ _ _ _ _ r h => by simp [r18_inRange.l0] at h⟩
  | k + 1 => by
    obtain ⟨ih0, ih1⟩ := r18_inRange.mono_l k
    refine ⟨?_, ?_⟩
    · intro y0 y1 y2 y3 y4 y5 y6 y7 y8 y9 y10 y11 y12
      unfold r18_inRange.j0
      repeat' first
      | (with_reducible exact ih0 _ _ _ _ _ _ _ _ _ _ _ _ _)
      | (with_reducible exact ih1 _ _ _ _ _ _ _ _ _ _ _ _ _)
      | (with_reducible exact LeO.refl _)
      | (with_reducible exact LeO.none _)
      | (with_reducible refine LeO.ite ?_ ?_)
      | (with_reducible refine LeO.bind ?_ (fun _ => ?_))
    · intro y0 y1 y2 y3 y4 y5 y6 y7 y8 y9 y10 y11 y12
      unfold r18_inRange.l0
      repeat' first
      | (with_reducible exact ih0 _ _ _ _ _ _ _ _ _ _ _ _ _)
      | (with_reducible exact ih1 _ _ _ _ _ _ _ _ _ _ _ _ _)
      | (with_reducible exact LeO.refl _)
      | (with_reducible exact LeO.none _)
      | (with_reducible refine LeO.ite ?_ ?_)
      | (with_reducible refine LeO.bind ?_ (fun _ => ?_))
theorem r18_inRange.mono : ∀ a0 a1 a2 a3 a4 a5 a6 a7 a8 a9 a10 a11 k, LeO (r18_inRange.f k a0 a1 a2 a3 a4 a5 a6 a7 a8 a9 a10 a11) (r18_inRange.f (k + 1) a0 a1 a2 a3 a4 a5 a6 a7 a8 a9 a10 a11) := by
  intro a0 a1 a2 a3 a4 a5 a6 a7 a8 a9 a10 a11 k
  obtain ⟨ih0, ih1⟩ := r18_inRange.mono_l k
  unfold r18_inRange.f
  repeat' first
      | (with_reducible exact ih0 _ _ _ _ _ _ _ _ _ _ _ _ _)
      | (with_reducible exact ih1 _ _ _ _ _ _ _ _ _ _ _ _ _)
      | (with_reducible exact LeO.refl _)
      | (with_reducible exact LeO.none _)
      | (with_reducible refine LeO.ite ?_ ?_)
      | (with_reducible refine LeO.bind ?_ (fun _ => ?_))
end Go.Proofs.YtnphnhkinjppjaaGreatDoor.Q
end

section
namespace Go.Proofs.YtnphnhkinjppjaaGreatDoor.Q
open Go.RowKit Go.Proofs.YtnphnhkinjppjaaGreatDoorW.PrintWords Go.Proofs.YtnphnhkinjppjaaGreatDoorW.PrintLast Go.Proofs.YtnphnhkinjppjaaGreatDoorW.PrintMore
attribute [local go_sem] max2_int min2_int max_two min_two max_three min_three max_four min_four
mutual
def r18_twice.l0 : Nat → Int → ByteArray → Bool → Int → Int → Int → Int → Int → Int → Int → Bool → Int → List (S74) → Option (Bool)
  | 0, _, _, _, _, _, _, _, _, _, _, _, _, _ => none
  | k + 1, x3, x308000, x308001, x308002, x308003, x308004, x308005, x308006, x308007, x308008, x308009, x308010, x308011 => if x3 < (x308011.length : Int) then (r18_twice.l1 k x3 0 x308000 x308001 x308002 x308003 x308004 x308005 x308006 x308007 x308008 x308009 x308010 x308011) else (some false)
def r18_twice.l1 : Nat → Int → Int → ByteArray → Bool → Int → Int → Int → Int → Int → Int → Int → Bool → Int → List (S74) → Option (Bool)
  | 0, _, _, _, _, _, _, _, _, _, _, _, _, _, _ => none
  | k + 1, x3, x4, x308000, x308001, x308002, x308003, x308004, x308005, x308006, x308007, x308008, x308009, x308010, x308011 => if x4 < x3 then (if 0 ≤ x3 then (if x3 < (x308011.length : Int) then (if 0 ≤ x4 then (if x4 < (x308011.length : Int) then (if ((rd_T74 x308011 x3).f0) = ((rd_T74 x308011 x4).f0) then (if ((rd_T74 x308011 x3).f1) = ((rd_T74 x308011 x4).f1) then (some true) else (r18_twice.l1 k x3 (wrap64 (x4 + 1)) x308000 x308001 x308002 x308003 x308004 x308005 x308006 x308007 x308008 x308009 x308010 x308011)) else (r18_twice.l1 k x3 (wrap64 (x4 + 1)) x308000 x308001 x308002 x308003 x308004 x308005 x308006 x308007 x308008 x308009 x308010 x308011)) else (none)) else (none)) else (none)) else (none)) else (r18_twice.l0 k (wrap64 (x3 + 1)) x308000 x308001 x308002 x308003 x308004 x308005 x308006 x308007 x308008 x308009 x308010 x308011)
end
def r18_twice.f (k : Nat) (a0_0 : ByteArray) (a0_1 : Bool) (a0_2 : Int) (a0_3 : Int) (a0_4 : Int) (a0_5 : Int) (a0_6 : Int) (a0_7 : Int) (a0_8 : Int) (a0_9 : Bool) (a0_10 : Int) (l0_11 : List (S74)) : Option (Bool) := r18_twice.l0 k 0 a0_0 a0_1 a0_2 a0_3 a0_4 a0_5 a0_6 a0_7 a0_8 a0_9 a0_10 l0_11
theorem r18_twice.mono_l : ∀ k, (∀ y0 y1 y2 y3 y4 y5 y6 y7 y8 y9 y10 y11 y12, LeO (r18_twice.l0 k y0 y1 y2 y3 y4 y5 y6 y7 y8 y9 y10 y11 y12) (r18_twice.l0 (k + 1) y0 y1 y2 y3 y4 y5 y6 y7 y8 y9 y10 y11 y12)) ∧ (∀ y0 y1 y2 y3 y4 y5 y6 y7 y8 y9 y10 y11 y12 y13, LeO (r18_twice.l1 k y0 y1 y2 y3 y4 y5 y6 y7 y8 y9 y10 y11 y12 y13) (r18_twice.l1 (k + 1) y0 y1 y2 y3 y4 y5 y6 y7 y8 y9 y10 y11 y12 y13))
  | 0 => ⟨fun _ _ _ _ _ _ _ _ _ _ _ _ _ r h => by simp [r18_twice.l0] at h, fun _ _ _ _ _ _ _ _ _ _ _ _ _ _ r h => by simp [r18_twice.l1] at h⟩
  | k + 1 => by
    obtain ⟨ih0, ih1⟩ := r18_twice.mono_l k
    refine ⟨?_, ?_⟩
    · intro y0 y1 y2 y3 y4 y5 y6 y7 y8 y9 y10 y11 y12
      unfold r18_twice.l0
      repeat' first
      | (with_reducible exact ih0 _ _ _ _ _ _ _ _ _ _ _ _ _)
      | (with_reducible exact ih1 _ _ _ _ _ _ _ _ _ _ _ _ _ _)
      | (with_reducible exact LeO.refl _)
      | (with_reducible exact LeO.none _)
      | (with_reducible refine LeO.ite ?_ ?_)
      | (with_reducible refine LeO.bind ?_ (fun _ => ?_))
    · intro y0 y1 y2 y3 y4 y5 y6 y7 y8 y9 y10 y11 y12 y13
      unfold r18_twice.l1
      repeat' first
      | (with_reducible exact ih0 _ _ _ _ _ _ _ _ _ _ _ _ _)
      | (with_reducible exact ih1 _ _ _ _ _ _ _ _ _ _ _ _ _ _)
      | (with_reducible exact LeO.refl _)
      | (with_reducible exact LeO.none _)
      | (with_reducible refine LeO.ite ?_ ?_)
      | (with_reducible refine LeO.bind ?_ (fun _ => ?_))
theorem r18_twice.mono : ∀ a0 a1 a2 a3 a4 a5 a6 a7 a8 a9 a10 a11 k, LeO (r18_twice.f k a0 a1 a2 a3 a4 a5 a6 a7 a8 a9 a10 a11) (r18_twice.f (k + 1) a0 a1 a2 a3 a4 a5 a6 a7 a8 a9 a10 a11) := by
  intro a0 a1 a2 a3 a4 a5 a6 a7 a8 a9 a10 a11 k
  obtain ⟨ih0, ih1⟩ := r18_twice.mono_l k
  unfold r18_twice.f
  repeat' first
      | (with_reducible exact ih0 _ _ _ _ _ _ _ _ _ _ _ _ _)
      | (with_reducible exact ih1 _ _ _ _ _ _ _ _ _ _ _ _ _ _)
      | (with_reducible exact LeO.refl _)
      | (with_reducible exact LeO.none _)
      | (with_reducible refine LeO.ite ?_ ?_)
      | (with_reducible refine LeO.bind ?_ (fun _ => ?_))
end Go.Proofs.YtnphnhkinjppjaaGreatDoor.Q
end

section
namespace Go.Proofs.YtnphnhkinjppjaaGreatDoor.Q
open Go.RowKit Go.Proofs.YtnphnhkinjppjaaGreatDoorW.PrintWords Go.Proofs.YtnphnhkinjppjaaGreatDoorW.PrintLast Go.Proofs.YtnphnhkinjppjaaGreatDoorW.PrintMore
attribute [local go_sem high] eqA33
def refOne (k : Nat) (b : S36) : Option Int :=
  if (b.f8.length : Int) > 16 then some 3 else (r04_IsName.f k b.f0).bind fun n => if n = true then ((r18_inRange.f k b.f0 b.f1.f0.f0 b.f1.f0.f1 b.f1.f0.f2 b.f1.f1 b.f2 b.f3 b.f4 b.f5 b.f6 b.f7 b.f8).bind fun q => if q = true then ((r06_ValidPrefix.f k b.f1.f0.f0 b.f1.f0.f1 b.f1.f0.f2 b.f1.f1).bind fun v => if v = true then some 0 else some 2) else some 4) else some 5
def refTwice (k : Nat) (b : S36) : Option Bool := r18_twice.f k b.f0 b.f1.f0.f0 b.f1.f0.f1 b.f1.f0.f2 b.f1.f1 b.f2 b.f3 b.f4 b.f5 b.f6 b.f7 b.f8
def r18_Check.l0 : Nat → List S36 → Nat → Option Int
  | 0, _, _ => none
  | k + 1, l, i =>
    if i < l.length then (refOne k (rd_T36 l (i : Int))).bind fun e =>
      if e = 0 then (if ((l.take i).any fun b => clash b (rd_T36 l (i : Int))) = true then some 7 else (refTwice k (rd_T36 l (i : Int))).bind fun t => if t = true then some 7 else r18_Check.l0 k l (i + 1)) else some e
    else some 0
def r18_Check.f (k : Nat) (l : List S36) : Option Int := if (l.length : Int) > 64 then some 3 else r18_Check.l0 k l 0
theorem refOne.mono (k : Nat) (b : S36) : LeO (refOne k b) (refOne (k + 1) b) := LeO.ite (LeO.refl _) (LeO.bind (r04_IsName.mono _ _) fun _ => LeO.ite (LeO.bind (r18_inRange.mono _ _ _ _ _ _ _ _ _ _ _ _ _) fun _ => LeO.ite (LeO.bind (r06_ValidPrefix.mono _ _ _ _ _) fun _ => LeO.refl _) (LeO.refl _)) (LeO.refl _))
theorem r18_Check.mono_l : ∀ (k : Nat) (l : List S36) (i : Nat), LeO (r18_Check.l0 k l i) (r18_Check.l0 (k + 1) l i) := by
  intro k
  induction k with
  | zero => intro l i; exact LeO.none _
  | succ k ih =>
    intro l i
    rw [r18_Check.l0, r18_Check.l0]
    exact LeO.ite (LeO.bind (refOne.mono _ _) fun e => LeO.ite (LeO.ite (LeO.refl _) (LeO.bind (r18_twice.mono _ _ _ _ _ _ _ _ _ _ _ _ _) fun t => LeO.ite (LeO.refl _) (ih _ _))) (LeO.refl _)) (LeO.refl _)
theorem r18_Check.mono : ∀ l k, LeO (r18_Check.f k l) (r18_Check.f (k + 1) l) := fun l k => LeO.ite (LeO.refl _) (r18_Check.mono_l _ _ _)
structure RCk (w W : World) (ga : Nat) (b : S36) (Ab : Option Addr) (cb : Nat) : Prop where
  blk : W.heap[ga]? = some (.cells (asC b (.slice Ab b.f8.length cb)) 36 (0, 0))
  svc : Kd.C k74 W Ab b.f8.length b.f8
  bel : Below w.heap.size w W
theorem RCk.below {w W W1 : World} {ga : Nat} {b : S36} {Ab : Option Addr} {cb : Nat} (h : RCk w W ga b Ab cb) (hb : Below W.heap.size W W1) : RCk w W1 ga b Ab cb := ⟨blk_below h.blk hb, Kd.C_below h.svc hb, below_then h.bel h.bel.size hb⟩
end Go.Proofs.YtnphnhkinjppjaaGreatDoor.Q
end

section
namespace Go.Proofs.YtnphnhkinjppjaaGreatDoor.Q
open Go.RowKit Go.Proofs.YtnphnhkinjppjaaGreatDoorW.PrintWords Go.Proofs.YtnphnhkinjppjaaGreatDoorW.PrintLast Go.Proofs.YtnphnhkinjppjaaGreatDoorW.PrintMore
theorem ev_ite {α : Type} {c : Prop} [Decidable c] {f g : Nat → Option α} {r : α} (h1 : c → Ev f r) (h2 : ¬ c → Ev g r) : Ev (fun k => if c then f k else g k) r := by
  by_cases h : c
  · exact Ev.congr (fun k => if_pos h) (h1 h)
  · exact Ev.congr (fun k => if_neg h) (h2 h)
theorem ev_is {α : Type} {r r' : α} (h : r = r') : Ev (fun _ => some r) r' := h ▸ Ev.now _
theorem ev_to {α : Type} {f : Nat → Option α} {r r' : α} (h : r = r') (e : Ev f r) : Ev f r' := h ▸ e
theorem sv_get {l : List S74} {i : Nat} (h : i < l.length) : rd_T74 l (i : Int) = l[i] := by unfold rd_T74; rw [Int.toNat_natCast, List.getD_eq_getElem?_getD, List.getElem?_eq_getElem h]; rfl
theorem as_get {l : List S36} {i : Nat} (h : i < l.length) : rd_T36 l (i : Int) = l[i] := by unfold rd_T36; rw [Int.toNat_natCast, List.getD_eq_getElem?_getD, List.getElem?_eq_getElem h]; rfl
def svcB (s : S74) : Bool := decide ((s.f0 = 6 ∨ s.f0 = 17) ∧ 0 ≤ s.f1 ∧ s.f1 ≤ 65535 ∧ 0 ≤ s.f2 ∧ s.f2 ≤ 4)
def numB (a : S36) : Bool := decide (1 ≤ a.f2 ∧ a.f2 ≤ 4 ∧ 1 ≤ a.f3 ∧ a.f3 ≤ 5 ∧ 0 ≤ a.f4 ∧ a.f4 ≤ 64 ∧ 1 ≤ a.f5 ∧ a.f5 ≤ 8192 ∧ 0 ≤ a.f7 ∧ a.f7 ≤ 3)
def oneR (a : S36) : Int := if 16 < a.f8.length then 3 else if nameB a.f0.data.toList = true then (if (numB a && a.f8.all svcB) = true then (if vpB a.f1.f0 a.f1.f1 = true then 0 else 2) else 4) else 5
theorem one_l (a : S36) (ha : AW a.f1.f0) (hl : a.f8.length ≤ 1000) : ∀ (d i : Nat), a.f8.length - i = d → i ≤ a.f8.length → Ev (fun k => asset_checkOne.l0 k a.f8 (a.f8.length : Int) (i : Int) a.f0 a.f1.f0.f0 a.f1.f0.f1 a.f1.f0.f2 a.f1.f1 a.f2 a.f3 a.f4 a.f5 a.f6 a.f7 a.f8) (if (a.f8.drop i).all svcB = true then (if vpB a.f1.f0 a.f1.f1 = true then 0 else 2) else 4)
  | 0, i, hd, hi => by
    rw [List.drop_of_length_le (by omega), List.all_nil, if_pos rfl]
    refine Ev.step (f := fun k => if vpB a.f1.f0 a.f1.f1 = true then some (0 : Int) else some 2) (fun k => ?_) ?_
    · rw [asset_checkOne.l0, if_neg (by omega), vp_eq ha, Option.bind_some]
    · exact ev_ite (fun h => ev_is (by rw [if_pos h])) (fun h => ev_is (by rw [if_neg h]))
  | d + 1, i, hd, hi => by
    have h : i < a.f8.length := by omega
    have ih := one_l a ha hl d (i + 1) (by omega) (by omega)
    have e := sv_get h
    rw [List.drop_eq_getElem_cons h, List.all_cons]
    obtain ⟨s, hs⟩ : ∃ s, a.f8[i] = s := ⟨_, rfl⟩
    rw [hs] at e ⊢
    by_cases hb : svcB s = true
    · have hb2 := of_decide_eq_true hb
      rw [hb, Bool.true_and]
      refine Ev.step (fun k => ?_) ih
      rw [asset_checkOne.l0, if_pos (by omega), if_pos (by omega), if_pos (by omega), e]
      rcases hb2.1 with h6 | h17
      · rw [if_pos h6, if_neg (by omega), if_neg (by omega), if_neg (by omega), if_neg (by omega), lx_up (by omega)]
      · rw [if_neg (by omega), if_pos h17, if_neg (by omega), if_neg (by omega), if_neg (by omega), if_neg (by omega), lx_up (by omega)]
    · have hb2 := of_decide_eq_false (Bool.not_eq_true _ ▸ hb)
      rw [show (svcB s && (a.f8.drop (i + 1)).all svcB) = false from by rw [Bool.not_eq_true] at hb; rw [hb, Bool.false_and], if_neg Bool.false_ne_true]
      refine Ev.step (f := fun _ => some 4) (fun k => ?_) (Ev.now _)
      rw [asset_checkOne.l0, if_pos (by omega), if_pos (by omega), if_pos (by omega), e]
      by_cases h6 : s.f0 = 6
      · rw [if_pos h6]
        by_cases h1 : s.f1 < 0
        · rw [if_pos h1]
        · by_cases h2 : s.f1 > 65535
          · rw [if_neg h1, if_pos h2]
          · by_cases h3 : s.f2 < 0
            · rw [if_neg h1, if_neg h2, if_pos h3]
            · rw [if_neg h1, if_neg h2, if_neg h3, if_pos (by omega)]
      · rw [if_neg h6]
        by_cases h17 : s.f0 = 17
        · rw [if_pos h17]
          by_cases h1 : s.f1 < 0
          · rw [if_pos h1]
          · by_cases h2 : s.f1 > 65535
            · rw [if_neg h1, if_pos h2]
            · by_cases h3 : s.f2 < 0
              · rw [if_neg h1, if_neg h2, if_pos h3]
              · rw [if_neg h1, if_neg h2, if_neg h3, if_pos (by omega)]
        · rw [if_neg h17]
theorem one_j (a : S36) (ha : AW a.f1.f0) (hl : a.f8.length ≤ 1000) (bad : Bool) (h : bad = false ↔ (1 ≤ a.f2 ∧ a.f2 ≤ 4 ∧ 1 ≤ a.f3 ∧ a.f3 ≤ 5)) : Ev (fun k => asset_checkOne.j0 k bad a.f0 a.f1.f0.f0 a.f1.f0.f1 a.f1.f0.f2 a.f1.f1 a.f2 a.f3 a.f4 a.f5 a.f6 a.f7 a.f8) (if (numB a && a.f8.all svcB) = true then (if vpB a.f1.f0 a.f1.f1 = true then 0 else 2) else 4) := by
  have hno : numB a = false → (if (numB a && a.f8.all svcB) = true then (if vpB a.f1.f0 a.f1.f1 = true then (0 : Int) else 2) else 4) = 4 := fun e => by rw [e, Bool.false_and, if_neg Bool.false_ne_true]
  refine Ev.step (fun k => by rw [asset_checkOne.j0]) ?_
  refine ev_ite (fun hb => ev_is (hno (decide_eq_false (fun hh => ?_))).symm) fun hb => ?_
  · rw [h.2 ⟨hh.1, hh.2.1, hh.2.2.1, hh.2.2.2.1⟩] at hb; cases hb
  have hq := h.1 (by rw [Bool.not_eq_true] at hb; exact hb)
  refine ev_ite (fun c => ev_is (hno (decide_eq_false (by omega))).symm) fun c1 => ?_
  refine ev_ite (fun c => ev_is (hno (decide_eq_false (by omega))).symm) fun c2 => ?_
  refine ev_ite (fun c => ev_is (hno (decide_eq_false (by omega))).symm) fun c3 => ?_
  refine ev_ite (fun c => ev_is (hno (decide_eq_false (by omega))).symm) fun c4 => ?_
  refine ev_ite (fun c => ev_is (hno (decide_eq_false (by omega))).symm) fun c5 => ?_
  refine ev_ite (fun c => ev_is (hno (decide_eq_false (by omega))).symm) fun c6 => ?_
  have hn : numB a = true := decide_eq_true (by omega)
  rw [hn, Bool.true_and]
  exact one_l a ha hl _ 0 rfl (by omega)
theorem one_ev (a : S36) (ha : AW a.f1.f0) : Ev (fun k => asset_checkOne.f k a.f0 a.f1.f0.f0 a.f1.f0.f1 a.f1.f0.f2 a.f1.f1 a.f2 a.f3 a.f4 a.f5 a.f6 a.f7 a.f8) (oneR a) := by
  unfold asset_checkOne.f oneR
  refine ev_ite (fun h => ev_is (by rw [if_pos (by omega)])) fun h => ?_
  rw [if_neg (show ¬ 16 < a.f8.length from by omega)]
  refine Ev.bind (isName_ev a.f0) ?_
  refine ev_ite (fun hn => ?_) fun hn => ev_is (by rw [if_neg hn])
  rw [if_pos hn]
  refine ev_ite (fun c => one_j a ha (by omega) true ⟨fun e => absurd e (by decide), fun e => absurd e (by omega)⟩) fun c1 => ?_
  refine ev_ite (fun c => one_j a ha (by omega) true ⟨fun e => absurd e (by decide), fun e => absurd e (by omega)⟩) fun c2 => ?_
  refine ev_ite (fun c => one_j a ha (by omega) true ⟨fun e => absurd e (by decide), fun e => absurd e (by omega)⟩) fun c3 => ?_
  exact one_j a ha (by omega) _ (by rw [decide_eq_false_iff_not]; omega)
def sameS (x y : S74) : Bool := decide (x.f0 = y.f0 ∧ x.f1 = y.f1)
def twR (pre : List S74) : List S74 → Bool
  | [] => false
  | x :: xs => pre.any (sameS x) || twR (pre ++ [x]) xs
theorem take_sv {l : List S74} {i : Nat} (h : i < l.length) : l.take i ++ [l[i]] = l.take (i + 1) := List.take_append_getElem h
theorem tw1 (l : List S74) (hl : l.length ≤ 1000) (i : Nat) (hi : i < l.length) (r : Bool) (hr : Ev (fun k => asset_twice.l0 k l l (l.length : Int) ((i + 1 : Nat) : Int)) r) : ∀ (d j : Nat), i - j = d → j ≤ i → Ev (fun k => asset_twice.l1 k l l (l.length : Int) (i : Int) (l.take i) ((l.take i).length : Int) (j : Int) l[i].f0 l[i].f1 l[i].f2) (((l.take i).drop j).any (sameS l[i]) || r)
  | 0, j, hd, hj => by
    have hlen : (l.take i).length = i := by rw [List.length_take]; omega
    rw [List.drop_of_length_le (by omega), List.any_nil, Bool.false_or]
    refine Ev.step (fun k => ?_) hr
    rw [asset_twice.l1, if_neg (by omega), lx_up (by omega)]
  | d + 1, j, hd, hj => by
    have hlen : (l.take i).length = i := by rw [List.length_take]; omega
    have h : j < (l.take i).length := by omega
    have ih := tw1 l hl i hi r hr d (j + 1) (by omega) (by omega)
    rw [List.drop_eq_getElem_cons h, List.any_cons]
    have e := sv_get h
    obtain ⟨s, hs⟩ : ∃ s, (l.take i)[j] = s := ⟨_, rfl⟩
    rw [hs] at e ⊢
    by_cases hb : sameS l[i] s = true
    · have hb2 := of_decide_eq_true hb
      rw [hb, Bool.true_or, Bool.true_or]
      refine Ev.step (f := fun _ => some true) (fun k => ?_) (Ev.now _)
      rw [asset_twice.l1, if_pos (by omega), if_pos (by omega), if_pos (by omega), e, if_pos hb2.1, if_pos hb2.2]
    · have hb2 := of_decide_eq_false (Bool.not_eq_true _ ▸ hb)
      rw [show sameS l[i] s = false from by simpa using hb, Bool.false_or]
      refine Ev.step (fun k => ?_) ih
      rw [asset_twice.l1, if_pos (by omega), if_pos (by omega), if_pos (by omega), e]
      by_cases h1 : l[i].f0 = s.f0
      · rw [if_pos h1, if_neg (fun h2 => hb2 ⟨h1, h2⟩), lx_up (by omega)]
      · rw [if_neg h1, lx_up (by omega)]
theorem tw0 (l : List S74) (hl : l.length ≤ 1000) : ∀ (d i : Nat), l.length - i = d → i ≤ l.length → Ev (fun k => asset_twice.l0 k l l (l.length : Int) (i : Int)) (twR (l.take i) (l.drop i))
  | 0, i, hd, hi => by
    rw [List.drop_of_length_le (by omega), twR]
    refine Ev.step (f := fun _ => some false) (fun k => ?_) (Ev.now _)
    rw [asset_twice.l0, if_neg (by omega)]
  | d + 1, i, hd, hi => by
    have h : i < l.length := by omega
    have ih := tw0 l hl d (i + 1) (by omega) (by omega)
    rw [List.drop_eq_getElem_cons h, twR, take_sv h]
    have h1 := tw1 l hl i h _ ih _ 0 rfl (by omega)
    rw [List.drop_zero] at h1
    refine Ev.step (fun k => ?_) h1
    rw [asset_twice.l0, if_pos (by omega), if_pos (by omega), if_pos (by omega), if_pos (by omega), Option.bind_some, Int.toNat_natCast, sv_get h]
    rfl
theorem twice_ev (l : List S74) (hl : l.length ≤ 1000) : Ev (fun k => asset_twice.f k l) (twR [] l) := tw0 l hl _ 0 rfl (by omega)
def bldRen : Go.Shelf.Ren := ⟨fun n => if n = 167 then 147 else Tryz.lays156_ren.f n, fun n => if n = 5 then 5 else Tryz.lays156_ren.t n, Tryz.lays156_ren.g⟩
theorem lays166 : Go.Proofs.Lays.n166 Tryz.prog Tryz.lays156_ren := {
  mixed := by kernel_rfl
  f166 := Tryz.lays156.f166
  f240 := Tryz.lays156.f240
  f276 := Tryz.lays156.f276
  t0 := Tryz.lays156.t0
  a0 := Tryz.lays156.a0
  z0 := Tryz.lays156.z0
  v0 := Tryz.lays156.v0
  t3 := Tryz.lays156.t3
  a3 := Tryz.lays156.a3
  z3 := Tryz.lays156.z3
  v3 := Tryz.lays156.v3
  t4 := Tryz.lays156.t4
  a4 := Tryz.lays156.a4
  z4 := Tryz.lays156.z4
  v4 := Tryz.lays156.v4
  t9 := Tryz.lays156.t9
  a9 := Tryz.lays156.a9
  z9 := Tryz.lays156.z9
  v9 := Tryz.lays156.v9
  t20 := Tryz.lays156.t20
  a20 := Tryz.lays156.a20
  z20 := Tryz.lays156.z20
  v20 := Tryz.lays156.v20
  t37 := Tryz.lays156.t37
  a37 := Tryz.lays156.a37
  z37 := Tryz.lays156.z37
  v37 := Tryz.lays156.v37
  t70 := Tryz.lays156.t70
  a70 := Tryz.lays156.a70
  z70 := Tryz.lays156.z70
  v70 := Tryz.lays156.v70
  t72 := Tryz.lays156.t72
  a72 := Tryz.lays156.a72
  z72 := Tryz.lays156.z72
  v72 := Tryz.lays156.v72
  t75 := Tryz.lays156.t75
  a75 := Tryz.lays156.a75
  z75 := Tryz.lays156.z75
  v75 := Tryz.lays156.v75
  t164 := Tryz.lays156.t164
  a164 := Tryz.lays156.a164
  z164 := Tryz.lays156.z164
  v164 := Tryz.lays156.v164 }
theorem lays167 : Go.Proofs.Lays.n167 Tryz.prog bldRen := {
  mixed := by kernel_rfl
  f167 := Tryz.func147.trans (congrArg some (by kernel_rfl))
  f240 := Tryz.lays156.f240
  f276 := Tryz.lays156.f276
  t0 := Tryz.lays156.t0
  a0 := Tryz.lays156.a0
  z0 := Tryz.lays156.z0
  v0 := Tryz.lays156.v0
  t4 := Tryz.lays156.t4
  a4 := Tryz.lays156.a4
  z4 := Tryz.lays156.z4
  v4 := Tryz.lays156.v4
  t5 := Tryz.underlying5
  a5 := Tryz.isAgg5
  z5 := Tryz.sizeOf5
  v5 := Tryz.zeroValue5
  t9 := Tryz.lays156.t9
  a9 := Tryz.lays156.a9
  z9 := Tryz.lays156.z9
  v9 := Tryz.lays156.v9
  t20 := Tryz.lays156.t20
  a20 := Tryz.lays156.a20
  z20 := Tryz.lays156.z20
  v20 := Tryz.lays156.v20
  t37 := Tryz.lays156.t37
  a37 := Tryz.lays156.a37
  z37 := Tryz.lays156.z37
  v37 := Tryz.lays156.v37
  t70 := Tryz.lays156.t70
  a70 := Tryz.lays156.a70
  z70 := Tryz.lays156.z70
  v70 := Tryz.lays156.v70
  t72 := Tryz.lays156.t72
  a72 := Tryz.lays156.a72
  z72 := Tryz.lays156.z72
  v72 := Tryz.lays156.v72
  t75 := Tryz.lays156.t75
  a75 := Tryz.lays156.a75
  z75 := Tryz.lays156.z75
  v75 := Tryz.lays156.v75
  t164 := Tryz.lays156.t164
  a164 := Tryz.lays156.a164
  z164 := Tryz.lays156.z164
  v164 := Tryz.lays156.v164 }
theorem extra167 : Builder.Extra Tryz.prog bldRen := {
  sizeBuilder := by kernel_rfl
  liesBuilder := by kernel_rfl
  t5 := Tryz.underlying5
  a5 := Tryz.isAgg5
  z5 := Tryz.sizeOf5
  v5 := Tryz.zeroValue5
  infoByte := by kernel_rfl
  cellsByte := by kernel_rfl
  sizeByte := by kernel_rfl
  neB5 := by decide }
abbrev IsBld (B b : Nat) (l : List UInt8) (w : World) : Prop := Lib.IsBuilderF 62 5 B b (Lib.byteCells l) w
theorem bld_new (w : World) : IsBld w.heap.size w.heap.size [] (w.alloc (.cells #[.pointer none, .slice none 0 0] 62)) :=
  .inl ⟨Nat.le_refl _, .slice none 0 0, heap_alloc_new w _, ⟨by simp, .inl ⟨rfl, rfl⟩⟩, by simp [Value.ownBlock]⟩
theorem bld_below {B b : Nat} {l : List UInt8} {w w' : World} (h : IsBld B b l w) (hb : Below w.heap.size w w') : IsBld B b l w' := by
  have hk : ∀ {v : Value} {n : Nat} {xs : List Value}, w.ownsRowF B 5 1 v n xs → w'.ownsRowF B 5 1 v n xs := fun {v n xs} ho => ho.kept (grown_of_below hb none) (by
    by_cases e : v.ownBlock = none
    · exact .inl e
    · exact .inr e)
  rcases h with ⟨h0, v, h1, h2, h3⟩ | ⟨h0, v, h1, h2, h3⟩
  · exact .inl ⟨h0, v, blk_below h1 hb, hk h2, h3⟩
  · exact .inr ⟨h0, v, blk_below h1 hb, hk h2, h3⟩
theorem bld_byte (B b : Nat) (l : List UInt8) (c : UInt8) (w : World) (h : IsBld B b l w) (hl : l.length < 100000000) (hB : B ≤ w.heap.size) :
    Calls Tryz.prog 147 #[.pointer (some ⟨b, 0, none⟩), .int .u8 c.toNat] w fun e w' => e = .returned .nilIface ∧ IsBld B b (l ++ [c]) w' ∧ Below B w w' ∧ Lib.OthersKept 5 (some b) w w' := by
  refine (Any.Builder_WriteByte_k lays167 extra167 B b (Lib.byteCells l) (c.toNat : Int) w h (by rw [Lib.byteCells_length]; omega) hB).mono ?_
  rintro e w' ⟨rfl, h1, h2, h3⟩
  exact ⟨rfl, .inr (by rw [Lib.byteCells_append]; exact h1), h2, h3⟩
theorem bld_str (B b : Nat) (l : List UInt8) (s : ByteArray) (w : World) (h : IsBld B b l w) (hl : l.length + s.size ≤ 100000000) (hB : B ≤ w.heap.size) :
    Calls Tryz.prog 38 #[.pointer (some ⟨b, 0, none⟩), .string s] w fun e w' => e = .returned (.tuple #[.int .i64 s.size, .nilIface]) ∧ IsBld B b (l ++ s.data.toList) w' ∧ Below B w w' ∧ Lib.OthersKept 5 (some b) w w' := by
  refine (Any.Builder_WriteString_k lays166 Tryz.Builder_Extra_156 B b (Lib.byteCells l) s w h (by rw [Lib.byteCells_length]; omega) hB).mono ?_
  rintro e w' ⟨rfl, h1, h2, h3⟩
  exact ⟨rfl, .inr (by rw [Lib.byteCells_append]; exact h1), h2, h3⟩
theorem bld_string (B b : Nat) (l : List UInt8) (w : World) (h : IsBld B b l w) (hB : B ≤ w.heap.size) :
    Calls Tryz.prog 45 #[.pointer (some ⟨b, 0, none⟩)] w fun e w' => e = .returned (.string ⟨l.toArray⟩) ∧ IsBld B b l w' ∧ Below B w w' ∧ Lib.OthersKept 5 (some b) w w' := by
  refine (Tryz.Builder_String_any_k B b l w h hB).mono ?_
  rintro e w' ⟨rfl, h1, h2, h3⟩
  exact ⟨rfl, h1, h2, h3⟩
end Go.Proofs.YtnphnhkinjppjaaGreatDoor.Q
end

section
set_option maxHeartbeats 8000000
set_option maxRecDepth 100000
namespace Go.Proofs.YtnphnhkinjppjaaGreatDoor.Q
open Go.RowKit Go.Proofs.YtnphnhkinjppjaaGreatDoorW.PrintWords Go.Proofs.YtnphnhkinjppjaaGreatDoorW.PrintLast Go.Proofs.YtnphnhkinjppjaaGreatDoorW.PrintMore
attribute [local go_sem] max2_int min2_int max_two min_two max_three min_three max_four min_four
def asset_policies.f  : Option (List ByteArray) := some (([(⟨#[102, 105, 114, 115, 116]⟩ : ByteArray), (⟨#[108, 97, 115, 116]⟩ : ByteArray), (⟨#[98, 115, 100]⟩ : ByteArray), (⟨#[108, 105, 110, 117, 120]⟩ : ByteArray), (⟨#[100, 114, 111, 112]⟩ : ByteArray)] : List ByteArray))
theorem asset_policies.calls  (r : List ByteArray) (w : World) (h : asset_policies.f  = some r) :
 Calls Tryz.prog 43 #[] w fun e w' => ∃ v0_ : Value, e = .returned (v0_) ∧ Kd.R Kd.string 9 w' w.heap.size (fun _ => True) v0_ r ∧ Below w.heap.size w w' := by
 have HB := Aside0.mk (Below.refl w.heap.size w)
 unfold asset_policies.f at h; have H := h
 clear h
 obtain ⟨y137, hy137⟩ : ∃ y_ : List ByteArray, y_ = (([(⟨#[102, 105, 114, 115, 116]⟩ : ByteArray), (⟨#[108, 97, 115, 116]⟩ : ByteArray), (⟨#[98, 115, 100]⟩ : ByteArray), (⟨#[108, 105, 110, 117, 120]⟩ : ByteArray), (⟨#[100, 114, 111, 112]⟩ : ByteArray)] : List ByteArray)) := ⟨_, rfl⟩
 rw [← hy137] at H; try dsimp only [Option.bind_some] at H
 have Ny137 := Aside0.mk hy137; clear hy137
 obtain rfl := Option.some.inj H
 go_enter Tryz.func43, Tryz.ntmps43
 go_wp2_with (first | ((with_reducible refine gate_dst (N := 1) rfl ?_); refine Kd.R_lit Kd.string _ 9 ?hg (N := 1) ?hd (xs := ([(⟨#[102, 105, 114, 115, 116]⟩ : ByteArray), (⟨#[108, 97, 115, 116]⟩ : ByteArray), (⟨#[98, 115, 100]⟩ : ByteArray), (⟨#[108, 105, 110, 117, 120]⟩ : ByteArray), (⟨#[100, 114, 111, 112]⟩ : ByteArray)] : List ByteArray)) (inner := [.string (⟨#[102, 105, 114, 115, 116]⟩ : ByteArray), .string (⟨#[108, 97, 115, 116]⟩ : ByteArray), .string (⟨#[98, 115, 100]⟩ : ByteArray), .string (⟨#[108, 105, 110, 117, 120]⟩ : ByteArray), .string (⟨#[100, 114, 111, 112]⟩ : ByteArray)]) (ok := fun _ => True) (okp := fun _ => True) ?hr ?hp (fun _ hk => hk) trivial (Below.refl _ _) (Nat.le_refl _) (by simp) ?_; (case hd => rfl); (case hg => rfl); (case hr => first | (go_simp; done) | (go_simp; rfl)); (case hp => exact (Reps.one (show Kd.M Kd.string _ _ _ (⟨#[102, 105, 114, 115, 116]⟩ : ByteArray) [.string (⟨#[102, 105, 114, 115, 116]⟩ : ByteArray)] from rfl) (Reps.one (show Kd.M Kd.string _ _ _ (⟨#[108, 97, 115, 116]⟩ : ByteArray) [.string (⟨#[108, 97, 115, 116]⟩ : ByteArray)] from rfl) (Reps.one (show Kd.M Kd.string _ _ _ (⟨#[98, 115, 100]⟩ : ByteArray) [.string (⟨#[98, 115, 100]⟩ : ByteArray)] from rfl) (Reps.one (show Kd.M Kd.string _ _ _ (⟨#[108, 105, 110, 117, 120]⟩ : ByteArray) [.string (⟨#[108, 105, 110, 117, 120]⟩ : ByteArray)] from rfl) (Reps.one (show Kd.M Kd.string _ _ _ (⟨#[100, 114, 111, 112]⟩ : ByteArray) [.string (⟨#[100, 114, 111, 112]⟩ : ByteArray)] from rfl) (Reps.none _ _))))))); intro v138 w1 ho2 hb hg_ hnew_; clear hg_ hnew_; (first | rw [← Ny137.out] at ho2 | (simp only [Int.reduceToNat] at ho2; rw [← Ny137.out] at ho2)); have HO139 := Aside0.mk (Kd.R_lower ho2 (below_size (zB HB))); replace HB := Aside0.mk (below_step (zB HB) hb); clear hb ho2))
 go_ret
 exact ⟨_, by first | rfl | (simp [errW_none, errW_some] <;> rfl) | (simp [*, errW_none, errW_some] <;> rfl), by (with_reducible repeat (first | apply Kd.R_alloc | apply Kd.R_drewN | apply Kd.R_drew)); exact HO139.out, by repeat (first | (with_reducible first | exact HB.out | apply below_alloc | apply pw_below_drewN | apply below_drew1) | exact HB.out)⟩
def asset_apps.f  : Option (List ByteArray) := some (([(⟨#[114, 97, 119]⟩ : ByteArray), (⟨#[104, 116, 116, 112]⟩ : ByteArray), (⟨#[115, 109, 116, 112]⟩ : ByteArray), (⟨#[116, 108, 115]⟩ : ByteArray), (⟨#[100, 110, 115]⟩ : ByteArray)] : List ByteArray))
theorem asset_apps.calls  (r : List ByteArray) (w : World) (h : asset_apps.f  = some r) :
 Calls Tryz.prog 44 #[] w fun e w' => ∃ v0_ : Value, e = .returned (v0_) ∧ Kd.R Kd.string 9 w' w.heap.size (fun _ => True) v0_ r ∧ Below w.heap.size w w' := by
 have HB := Aside0.mk (Below.refl w.heap.size w)
 unfold asset_apps.f at h; have H := h
 clear h
 obtain ⟨y144, hy144⟩ : ∃ y_ : List ByteArray, y_ = (([(⟨#[114, 97, 119]⟩ : ByteArray), (⟨#[104, 116, 116, 112]⟩ : ByteArray), (⟨#[115, 109, 116, 112]⟩ : ByteArray), (⟨#[116, 108, 115]⟩ : ByteArray), (⟨#[100, 110, 115]⟩ : ByteArray)] : List ByteArray)) := ⟨_, rfl⟩
 rw [← hy144] at H; try dsimp only [Option.bind_some] at H
 have Ny144 := Aside0.mk hy144; clear hy144
 obtain rfl := Option.some.inj H
 go_enter Tryz.func44, Tryz.ntmps44
 go_wp2_with (first | ((with_reducible refine gate_dst (N := 1) rfl ?_); refine Kd.R_lit Kd.string _ 9 ?hg (N := 1) ?hd (xs := ([(⟨#[114, 97, 119]⟩ : ByteArray), (⟨#[104, 116, 116, 112]⟩ : ByteArray), (⟨#[115, 109, 116, 112]⟩ : ByteArray), (⟨#[116, 108, 115]⟩ : ByteArray), (⟨#[100, 110, 115]⟩ : ByteArray)] : List ByteArray)) (inner := [.string (⟨#[114, 97, 119]⟩ : ByteArray), .string (⟨#[104, 116, 116, 112]⟩ : ByteArray), .string (⟨#[115, 109, 116, 112]⟩ : ByteArray), .string (⟨#[116, 108, 115]⟩ : ByteArray), .string (⟨#[100, 110, 115]⟩ : ByteArray)]) (ok := fun _ => True) (okp := fun _ => True) ?hr ?hp (fun _ hk => hk) trivial (Below.refl _ _) (Nat.le_refl _) (by simp) ?_; (case hd => rfl); (case hg => rfl); (case hr => first | (go_simp; done) | (go_simp; rfl)); (case hp => exact (Reps.one (show Kd.M Kd.string _ _ _ (⟨#[114, 97, 119]⟩ : ByteArray) [.string (⟨#[114, 97, 119]⟩ : ByteArray)] from rfl) (Reps.one (show Kd.M Kd.string _ _ _ (⟨#[104, 116, 116, 112]⟩ : ByteArray) [.string (⟨#[104, 116, 116, 112]⟩ : ByteArray)] from rfl) (Reps.one (show Kd.M Kd.string _ _ _ (⟨#[115, 109, 116, 112]⟩ : ByteArray) [.string (⟨#[115, 109, 116, 112]⟩ : ByteArray)] from rfl) (Reps.one (show Kd.M Kd.string _ _ _ (⟨#[116, 108, 115]⟩ : ByteArray) [.string (⟨#[116, 108, 115]⟩ : ByteArray)] from rfl) (Reps.one (show Kd.M Kd.string _ _ _ (⟨#[100, 110, 115]⟩ : ByteArray) [.string (⟨#[100, 110, 115]⟩ : ByteArray)] from rfl) (Reps.none _ _))))))); intro v145 w1 ho2 hb hg_ hnew_; clear hg_ hnew_; (first | rw [← Ny144.out] at ho2 | (simp only [Int.reduceToNat] at ho2; rw [← Ny144.out] at ho2)); have HO146 := Aside0.mk (Kd.R_lower ho2 (below_size (zB HB))); replace HB := Aside0.mk (below_step (zB HB) hb); clear hb ho2))
 go_ret
 exact ⟨_, by first | rfl | (simp [errW_none, errW_some] <;> rfl) | (simp [*, errW_none, errW_some] <;> rfl), by (with_reducible repeat (first | apply Kd.R_alloc | apply Kd.R_drewN | apply Kd.R_drew)); exact HO146.out, by repeat (first | (with_reducible first | exact HB.out | apply below_alloc | apply pw_below_drewN | apply below_drew1) | exact HB.out)⟩
end Go.Proofs.YtnphnhkinjppjaaGreatDoor.Q
end

section
set_option maxHeartbeats 8000000
set_option maxRecDepth 100000
namespace Go.Proofs.YtnphnhkinjppjaaGreatDoor.Q
open Go.RowKit Go.Proofs.YtnphnhkinjppjaaGreatDoorW.PrintWords Go.Proofs.YtnphnhkinjppjaaGreatDoorW.PrintLast Go.Proofs.YtnphnhkinjppjaaGreatDoorW.PrintMore
structure FmtI (w W : World) (b : Nat) (out : List UInt8) : Prop where
  bld : IsBld w.heap.size b out W
  bel : Below w.heap.size w W
  lt : b < W.heap.size
theorem FmtI.below {w W W1 : World} {b : Nat} {out : List UInt8} (h : FmtI w W b out) (hb : Below W.heap.size W W1) : FmtI w W1 b out := ⟨bld_below h.bld hb, below_then h.bel h.bel.size hb, Nat.lt_of_lt_of_le h.lt hb.size⟩
theorem others_below {e : TypeId} {b : Option Nat} {W W1 : World} (hb : Below W.heap.size W W1) : Lib.OthersKept e b W W1 := fun k o hk _ _ => blk_below hk hb
theorem FmtI.write {w W W1 : World} {b : Nat} {out : List UInt8} {s : ByteArray} (h : FmtI w W b out) (h1 : IsBld w.heap.size b (out ++ s.data.toList) W1) (h2 : Below w.heap.size W W1) : FmtI w W1 b (out ++ s.data.toList) := ⟨h1, h.bel.trans h2, Nat.lt_of_lt_of_le h.lt h2.size⟩
def polList : List ByteArray := [⟨#[102, 105, 114, 115, 116]⟩, ⟨#[108, 97, 115, 116]⟩, ⟨#[98, 115, 100]⟩, ⟨#[108, 105, 110, 117, 120]⟩, ⟨#[100, 114, 111, 112]⟩]
def sp : ByteArray := ⟨#[32]⟩
def namePart (word : ByteArray) (n : Int) : List UInt8 := if n = 1 then [] else (sp ++ word ++ sp ++ rdOf ByteArray.empty polList (n - 1)).data.toList
theorem name_walk (w W : World) (b : Nat) (out : List UInt8) (word : ByteArray) (n : Int) (h : FmtI w W b out) (hw : word.size ≤ 100) (hl : out.length ≤ 10000000) (h1 : 1 ≤ n) (h5 : n ≤ 5) :
    Calls Tryz.prog 42 #[.string word, .int .i64 n, .pointer (some ⟨b, 0, none⟩)] W fun e w' => e = .returned (.tuple #[]) ∧ FmtI w w' b (out ++ namePart word n) ∧ Lib.OthersKept 5 (some b) W w' := by
  have H := Aside0.mk h
  have HL := Aside0.mk hl
  clear h hl
  by_cases hn : n = 1
  · have HE : Aside0 (namePart word n = []) := ⟨if_pos hn⟩
    have b1 : (n != 1) = false := by rw [hn]; rfl
    clear hn
    go_enter Tryz.func42, Tryz.ntmps42
    go_wp2
    go_end0
    exact ⟨rfl, by rw [HE.out, List.append_nil]; exact H.out, Lib.OthersKept.refl _ _ _⟩
  · have HE : Aside0 (namePart word n = (sp ++ word ++ sp ++ rdOf ByteArray.empty polList (n - 1)).data.toList) := ⟨if_neg hn⟩
    have b1 : (n != 1) = true := bne_iff_ne.mpr hn
    clear hn
    go_enter Tryz.func42, Tryz.ntmps42
    go_wp2_with fail
    refine (asset_policies.calls polList W rfl).mono ?_
    rintro e w2 ⟨v, rfl, ho, hb⟩
    obtain ⟨A1, c1, hv⟩ := Kd.R_slice ho
    subst hv
    obtain ⟨ad, ha, hx⟩ := Kd.at_string (Kd.R_reads' ho).2.2 (n - 1) (by omega) (by show n - 1 < (5 : Nat); omega)
    subst ha
    have HO := Aside0.mk (others_below (e := 5) (b := some b) hb)
    have H2 := Aside0.mk (H.out.below hb)
    clear ho hb
    have hps : (rdOf ByteArray.empty polList (n - 1)).size ≤ 10 := by
      have hns : n = 1 ∨ n = 2 ∨ n = 3 ∨ n = 4 ∨ n = 5 := by omega
      rcases hns with rfl | rfl | rfl | rfl | rfl <;> decide
    obtain ⟨nm, hnm⟩ : ∃ x, rdOf ByteArray.empty polList (n - 1) = x := ⟨_, rfl⟩
    rw [hnm] at hx hps
    have HNM := Aside0.mk hnm
    clear hnm
    rw [show (n - 1).toNat = n.toNat - 1 from by omega] at hx
    have h5l : polList.length = 5 := rfl
    rw [h5l]
    have p1 : 0 ≤ n - 1 := by omega
    have p2 : n - 1 < 5 := by omega
    go_wp2_with fail
    refine (bld_str w.heap.size b out (sp ++ word ++ sp ++ nm) w2 H2.out.bld (by rw [ByteArray.size_append, ByteArray.size_append, ByteArray.size_append]; have := HL.out; have : sp.size = 1 := rfl; omega) H2.out.bel.size).mono ?_
    rintro e w3 ⟨rfl, hb1, hb2, hb3⟩
    have H3 := Aside0.mk (H2.out.write hb1 hb2)
    have HO3 := Aside0.mk (HO.out.trans hb3)
    clear hb1 hb2 hb3 hx p1 p2 hps h5l
    go_wp2
    go_end0
    exact ⟨rfl, by rw [HE.out, HNM.out]; exact H3.out, HO3.out⟩
theorem itoa_size {n : Int} (h : 0 ≤ n) (h2 : n ≤ 100000) : (⟨(Lib.itoa n).toArray⟩ : ByteArray).size ≤ 30 := by
  show (Lib.itoa n).toArray.size ≤ 30
  simp only [List.size_toArray]
  exact Nat.le_trans (Lib.itoa_length_le n (by omega) (by omega)) (by decide)
def numPart (word : ByteArray) (n usual : Int) : List UInt8 := if n = usual then [] else (sp ++ word ++ sp ++ ⟨(Lib.itoa n).toArray⟩).data.toList
theorem number_walk (w W : World) (b : Nat) (out : List UInt8) (word : ByteArray) (n usual : Int) (h : FmtI w W b out) (hW : WOK w) (hw : word.size ≤ 100) (hl : out.length ≤ 10000000) (h1 : 0 ≤ n) (h5 : n ≤ 100000) :
    Calls Tryz.prog 40 #[.string word, .int .i64 n, .int .i64 usual, .pointer (some ⟨b, 0, none⟩)] W fun e w' => e = .returned (.tuple #[]) ∧ FmtI w w' b (out ++ numPart word n usual) ∧ Lib.OthersKept 5 (some b) W w' := by
  have H := Aside0.mk h
  have HL := Aside0.mk hl
  have HW := Aside0.mk (hW.below h.bel)
  clear h hl
  by_cases hn : n = usual
  · have HE : Aside0 (numPart word n usual = []) := ⟨if_pos hn⟩
    have b1 : (n != usual) = false := by rw [hn]; simp
    clear hn
    go_enter Tryz.func40, Tryz.ntmps40
    go_wp2
    go_end0
    exact ⟨rfl, by rw [HE.out, List.append_nil]; exact H.out, Lib.OthersKept.refl _ _ _⟩
  · have HE : Aside0 (numPart word n usual = (sp ++ word ++ sp ++ ⟨(Lib.itoa n).toArray⟩).data.toList) := ⟨if_neg hn⟩
    have b1 : (n != usual) = true := bne_iff_ne.mpr hn
    have hps := itoa_size (n := n) (by omega) (by omega)
    have hit : strconv_Itoa.f n = some ⟨(Lib.itoa n).toArray⟩ := if_pos ⟨by omega, by omega⟩
    have HIT := Aside0.mk hit
    obtain ⟨nm, hnm⟩ : ∃ x, (⟨(Lib.itoa n).toArray⟩ : ByteArray) = x := ⟨_, rfl⟩
    rw [hnm] at hps HIT HE
    clear hn hit hnm
    go_enter Tryz.func40, Tryz.ntmps40
    go_wp2_with fail
    refine (strconv_Itoa.calls n nm W HIT.out HW.out).mono ?_
    rintro e w2 ⟨rfl, hb⟩
    have HO := Aside0.mk (others_below (e := 5) (b := some b) hb)
    have H2 := Aside0.mk (H.out.below hb)
    clear hb
    go_wp2_with fail
    refine (bld_str w.heap.size b out (sp ++ word ++ sp ++ nm) w2 H2.out.bld (by rw [ByteArray.size_append, ByteArray.size_append, ByteArray.size_append]; have := HL.out; have : sp.size = 1 := rfl; omega) H2.out.bel.size).mono ?_
    rintro e w3 ⟨rfl, hb1, hb2, hb3⟩
    have H3 := Aside0.mk (H2.out.write hb1 hb2)
    have HO3 := Aside0.mk (HO.out.trans hb3)
    clear hb1 hb2 hb3 hps
    go_wp2
    go_end0
    exact ⟨rfl, by rw [HE.out]; exact H3.out, HO3.out⟩
def appList : List ByteArray := [⟨#[114, 97, 119]⟩, ⟨#[104, 116, 116, 112]⟩, ⟨#[115, 109, 116, 112]⟩, ⟨#[116, 108, 115]⟩, ⟨#[100, 110, 115]⟩]
def bHost5 : ByteArray := ⟨#[104, 111, 115, 116, 32]⟩
def bSvc9 : ByteArray := ⟨#[32, 115, 101, 114, 118, 105, 99, 101, 32]⟩
def svcPart (s : S74) : List UInt8 := (bSvc9 ++ (if s.f0 = 17 then ⟨#[117, 100, 112]⟩ else ⟨#[116, 99, 112]⟩) ++ sp ++ ⟨(Lib.itoa s.f1).toArray⟩ ++ sp ++ rdOf ByteArray.empty appList s.f2).data.toList
def headPart (A : S36) (fp : ByteArray) : List UInt8 := (bHost5 ++ A.f0 ++ sp ++ fp).data.toList
def linePart (A : S36) (fp : ByteArray) : List UInt8 :=
  headPart A fp ++ namePart ⟨#[112, 111, 108, 105, 99, 121]⟩ A.f2 ++ namePart ⟨#[102, 114, 97, 103]⟩ A.f3 ++ numPart ⟨#[104, 111, 112, 115]⟩ A.f4 0 ++ numPart ⟨#[119, 105, 110, 100, 111, 119]⟩ A.f5 8192 ++ (if A.f6 = true then [32, 115, 116, 97, 109, 112, 115] else []) ++ numPart ⟨#[118, 97, 108, 117, 101]⟩ A.f7 1 ++ (A.f8.map svcPart).flatten ++ [59, 10]
def fineB (A : S36) : Bool := decide (A.f0.size ≤ 100) && decide (1 ≤ A.f2) && decide (A.f2 ≤ 5) && decide (1 ≤ A.f3) && decide (A.f3 ≤ 5) && decide (0 ≤ A.f4) && decide (A.f4 ≤ 100000) && decide (0 ≤ A.f5) && decide (A.f5 ≤ 100000) && decide (0 ≤ A.f7) && decide (A.f7 ≤ 100000) && decide (A.f8.length ≤ 100) && A.f8.all fun s => decide (0 ≤ s.f1) && decide (s.f1 ≤ 100000) && decide (0 ≤ s.f2) && decide (s.f2 ≤ 4)
structure FineA (A : S36) : Prop where
  f0 : A.f0.size ≤ 100
  f2 : 1 ≤ A.f2 ∧ A.f2 ≤ 5
  f3 : 1 ≤ A.f3 ∧ A.f3 ≤ 5
  f4 : 0 ≤ A.f4 ∧ A.f4 ≤ 100000
  f5 : 0 ≤ A.f5 ∧ A.f5 ≤ 100000
  f7 : 0 ≤ A.f7 ∧ A.f7 ≤ 100000
  f8 : A.f8.length ≤ 100
  sv : ∀ s ∈ A.f8, 0 ≤ s.f1 ∧ s.f1 ≤ 100000 ∧ 0 ≤ s.f2 ∧ s.f2 ≤ 4
theorem fine_of {A : S36} (h : fineB A = true) : FineA A := by
  unfold fineB at h
  simp only [Bool.and_eq_true, decide_eq_true_eq, List.all_eq_true] at h
  obtain ⟨⟨⟨⟨⟨⟨⟨⟨⟨⟨⟨⟨h0, h1⟩, h2⟩, h3⟩, h4⟩, h5⟩, h6⟩, h7⟩, h8⟩, h9⟩, h10⟩, h11⟩, h12⟩ := h
  exact ⟨h0, ⟨h1, h2⟩, ⟨h3, h4⟩, ⟨h5, h6⟩, ⟨h7, h8⟩, ⟨h9, h10⟩, h11, fun s hs => by obtain ⟨⟨⟨a, b⟩, c⟩, d⟩ := h12 s hs; exact ⟨a, b, c, d⟩⟩
def asset_Format.l0 : Nat → List S36 → Nat → List UInt8 → Option (List UInt8)
  | 0, _, _, _ => none
  | k + 1, l, i, out =>
    if i < l.length then
      if fineB (rd_T36 l (i : Int)) = true then
        (address_FormatPrefix.f (rd_T36 l (i : Int)).f1.f0.f0 (rd_T36 l (i : Int)).f1.f0.f1 (rd_T36 l (i : Int)).f1.f0.f2 (rd_T36 l (i : Int)).f1.f1).bind fun fp =>
          if fp.size ≤ 1000 then asset_Format.l0 k l (i + 1) (out ++ linePart (rd_T36 l (i : Int)) fp) else none
      else none
    else some out
def asset_Format.f (k : Nat) (l : List S36) : Option ByteArray := (asset_Check.f k l).bind fun c => if c = 0 then (if l.length ≤ 100 then (asset_Format.l0 k l 0 []).bind fun out => some ⟨out.toArray⟩ else none) else some ⟨#[]⟩
theorem asset_Format.mono_l : ∀ (k : Nat) (l : List S36) (i : Nat) (out : List UInt8), LeO (asset_Format.l0 k l i out) (asset_Format.l0 (k + 1) l i out) := by
  intro k
  induction k with
  | zero => intro l i out; exact LeO.none _
  | succ k ih =>
    intro l i out
    rw [asset_Format.l0, asset_Format.l0]
    exact LeO.ite (LeO.ite (LeO.bind (LeO.refl _) fun fp => LeO.ite (ih _ _ _) (LeO.refl _)) (LeO.refl _)) (LeO.refl _)
theorem asset_Format.mono : ∀ l k, LeO (asset_Format.f k l) (asset_Format.f (k + 1) l) := fun l k => LeO.bind (asset_Check.mono _ _) fun c => LeO.ite (LeO.ite (LeO.bind (asset_Format.mono_l _ _ _ _) fun out => LeO.refl _) (LeO.refl _)) (LeO.refl _)
theorem name_size (w : ByteArray) (n : Int) (hw : w.size ≤ 100) (h1 : 1 ≤ n) (h5 : n ≤ 5) : (namePart w n).length ≤ 200 := by
  have hps : (rdOf ByteArray.empty polList (n - 1)).size ≤ 10 := by
    have hns : n = 1 ∨ n = 2 ∨ n = 3 ∨ n = 4 ∨ n = 5 := by omega
    rcases hns with rfl | rfl | rfl | rfl | rfl <;> decide
  unfold namePart
  split
  · simp
  · rw [data_length, ByteArray.size_append, ByteArray.size_append, ByteArray.size_append]
    have : sp.size = 1 := rfl
    omega
theorem num_size (w : ByteArray) (n u : Int) (hw : w.size ≤ 100) (h1 : 0 ≤ n) (h5 : n ≤ 100000) : (numPart w n u).length ≤ 200 := by
  have hps := itoa_size h1 h5
  unfold numPart
  split
  · simp
  · rw [data_length, ByteArray.size_append, ByteArray.size_append, ByteArray.size_append]
    have : sp.size = 1 := rfl
    omega
theorem format_on {k : Nat} {l : List S36} {i : Nat} {out o : List UInt8} (h : asset_Format.l0 k l i out = some o) (hi : i < l.length) {A : S36} (hA : rd_T36 l (i : Int) = A) :
    ∃ k' fp, k = k' + 1 ∧ FineA A ∧ address_FormatPrefix.f A.f1.f0.f0 A.f1.f0.f1 A.f1.f0.f2 A.f1.f1 = some fp ∧ fp.size ≤ 1000 ∧ asset_Format.l0 k' l (i + 1) (out ++ linePart A fp) = some o := by
  subst hA
  cases k with
  | zero => cases h
  | succ k =>
    rw [asset_Format.l0, if_pos hi] at h
    split at h
    · rename_i hf
      obtain ⟨fp, h1, h2⟩ := Option.bind_eq_some_iff.mp h
      split at h2
      · rename_i hs
        exact ⟨k, fp, rfl, fine_of hf, h1, hs, h2⟩
      · cases h2
    · cases h
theorem format_fin {k : Nat} {l : List S36} {i : Nat} {out o : List UInt8} (h : asset_Format.l0 k l i out = some o) (hi : ¬ i < l.length) : out = o := by
  cases k with
  | zero => cases h
  | succ k => rw [asset_Format.l0, if_neg hi] at h; exact Option.some.inj h
theorem app_size {n : Int} (h0 : 0 ≤ n) (h4 : n ≤ 4) : (rdOf ByteArray.empty appList n).size ≤ 10 := by
  have hns : n = 0 ∨ n = 1 ∨ n = 2 ∨ n = 3 ∨ n = 4 := by omega
  rcases hns with rfl | rfl | rfl | rfl | rfl <;> decide
theorem pro_size (n : Int) : ((if n = 17 then ⟨#[117, 100, 112]⟩ else ⟨#[116, 99, 112]⟩ : ByteArray)).size = 3 := by split <;> rfl
theorem svc_size {s : S74} (h : 0 ≤ s.f1 ∧ s.f1 ≤ 100000 ∧ 0 ≤ s.f2 ∧ s.f2 ≤ 4) : (svcPart s).length ≤ 100 := by
  have h1 := itoa_size h.1 h.2.1
  have h2 := app_size h.2.2.1 h.2.2.2
  have h3 := pro_size s.f0
  have h4 : bSvc9.size = 9 := rfl
  have h5 : sp.size = 1 := rfl
  rw [svcPart, data_length, ByteArray.size_append, ByteArray.size_append, ByteArray.size_append, ByteArray.size_append, ByteArray.size_append]
  omega
theorem svcs_size : ∀ (l : List S74), (∀ s ∈ l, 0 ≤ s.f1 ∧ s.f1 ≤ 100000 ∧ 0 ≤ s.f2 ∧ s.f2 ≤ 4) → ((l.map svcPart).flatten).length ≤ 100 * l.length
  | [], _ => by simp
  | s :: l, h => by
    have h1 := svc_size (h s (List.mem_cons_self ..))
    have h2 := svcs_size l (fun x hx => h x (List.mem_cons_of_mem _ hx))
    rw [List.map_cons, List.flatten_cons, List.length_append, List.length_cons]
    omega
theorem line_size {A : S36} {fp : ByteArray} (h : FineA A) (hf : fp.size ≤ 1000) : (linePart A fp).length ≤ 30000 := by
  have h1 := name_size ⟨#[112, 111, 108, 105, 99, 121]⟩ A.f2 (by decide) h.f2.1 h.f2.2
  have h2 := name_size ⟨#[102, 114, 97, 103]⟩ A.f3 (by decide) h.f3.1 h.f3.2
  have h3 := num_size ⟨#[104, 111, 112, 115]⟩ A.f4 0 (by decide) h.f4.1 h.f4.2
  have h4 := num_size ⟨#[119, 105, 110, 100, 111, 119]⟩ A.f5 8192 (by decide) h.f5.1 h.f5.2
  have h5 := num_size ⟨#[118, 97, 108, 117, 101]⟩ A.f7 1 (by decide) h.f7.1 h.f7.2
  have h6 := svcs_size A.f8 h.sv
  have h7 : (if A.f6 = true then [32, 115, 116, 97, 109, 112, 115] else [] : List UInt8).length ≤ 7 := by split <;> decide
  have h8 : (headPart A fp).length ≤ 1200 := by
    rw [headPart, data_length, ByteArray.size_append, ByteArray.size_append, ByteArray.size_append]
    have := h.f0; have : sp.size = 1 := rfl; have : bHost5.size = 5 := rfl; omega
  have h9 := h.f8
  have h10 : ([59, 10] : List UInt8).length = 2 := rfl
  unfold linePart
  simp only [List.length_append] at *
  omega
theorem st_size (b : Bool) : (if b = true then [32, 115, 116, 97, 109, 112, 115] else [] : List UInt8).length ≤ 7 := by split <;> decide
theorem svc_len {pr nm ap : ByteArray} {x : Nat} (h : pr.size = 3 ∧ nm.size ≤ 30 ∧ ap.size ≤ 10) (hl : x ≤ 3013100) : x + (bSvc9 ++ pr ++ sp ++ nm ++ sp ++ ap).size ≤ 100000000 := by
  rw [ByteArray.size_append, ByteArray.size_append, ByteArray.size_append, ByteArray.size_append, ByteArray.size_append]
  have h4 : bSvc9.size = 9 := rfl
  have h5 : sp.size = 1 := rfl
  omega
theorem svc_mem {l : List S74} {j : Nat} (h : j < l.length) : rd_T74 l (j : Int) ∈ l := by
  have : rd_T74 l (j : Int) = l[j] := by unfold rd_T74; rw [Int.toNat_natCast, List.getD_eq_getElem?_getD, List.getElem?_eq_getElem h]; rfl
  rw [this]; exact List.getElem_mem h
theorem svc_take {l : List S74} {j : Nat} (h : j < l.length) : ((l.take (j + 1)).map svcPart).flatten = ((l.take j).map svcPart).flatten ++ svcPart (rd_T74 l (j : Int)) := by
  have : rd_T74 l (j : Int) = l[j] := by unfold rd_T74; rw [Int.toNat_natCast, List.getD_eq_getElem?_getD, List.getElem?_eq_getElem h]; rfl
  rw [this, ← List.take_append_getElem h, List.map_append, List.flatten_append]
  simp
theorem keepS {b ga : Nat} {v : Array Value} {w w' : World} (h : w.heap[ga]? = some (.cells v 74 (0, 0))) (hb : ga ≠ b) (ho : Lib.OthersKept 5 (some b) w w') : w'.heap[ga]? = some (.cells v 74 (0, 0)) :=
  ho ga _ h (fun e => hb (Option.some.inj e)) (fun c fz e => by injection e with e1 e2 e3; exact absurd e2 (by decide))
theorem keepA {b ga : Nat} {v : Array Value} {w w' : World} (h : w.heap[ga]? = some (.cells v 36 (0, 0))) (hb : ga ≠ b) (ho : Lib.OthersKept 5 (some b) w w') : w'.heap[ga]? = some (.cells v 36 (0, 0)) :=
  ho ga _ h (fun e => hb (Option.some.inj e)) (fun c fz e => by injection e with e1 e2 e3; exact absurd e2 (by decide))
theorem asset_Format.calls (k : Nat) (A : Option Addr) (c : Nat) (l : List S36) (r : ByteArray) (w : World) (hC : Kd.C k36 w A l.length l) (hc : l.length ≤ c) (h : asset_Format.f k l = some r) (hW_ : WOK w) :
    Calls Tryz.prog 14 #[.slice A l.length c] w fun e w' => e = .returned (.string r) ∧ Below w.heap.size w w' := by
  have hu := Tryz.underlying36
  have hu33 := Tryz.underlying33
  have HC := Aside0.mk hC
  have HCC := Aside0.mk hc
  have HW0 := Aside0.mk hW_
  obtain ⟨n, hn⟩ : ∃ n, l.length = n := ⟨_, rfl⟩
  obtain ⟨cv, hch, hr⟩ := Option.bind_eq_some_iff.mp h
  have HCH := Aside0.mk hch
  have HCK := Aside0.mk (asset_Check.calls k A c l cv w hC hc hch)
  clear h hch hC hc hW_
  rw [hn] at HCK ⊢
  have HN := Aside0.mk hn
  by_cases hz : cv = 0
  · rw [if_pos hz] at hr
    subst hz
    by_cases h100 : l.length ≤ 100
    · rw [if_pos h100] at hr
      obtain ⟨out, ho, hr2⟩ := Option.bind_eq_some_iff.mp hr
      have hr3 := Option.some.inj hr2
      subst hr3
      have HO := Aside0.mk ho
      have H100 : Aside0 (n ≤ 100) := ⟨by omega⟩
      clear hr hr2 ho h100 hn
      go_enter Tryz.func14, Tryz.ntmps14
      go_wp2_with fail
      refine HCK.out.mono ?_
      rintro e w2 ⟨rfl, hb2⟩
      have HB2 := Aside0.mk hb2
      clear hb2
      go_upto_region 4 with (fail)
      have HF : Aside0 (FmtI w2 (w2.alloc (.cells #[.pointer none, .slice none 0 0] 62)) w2.heap.size []) := ⟨bld_new w2, below_alloc (Below.refl _ _) _, by show _ < (w2.heap.push _).size; rw [Array.size_push]; exact Nat.lt_succ_self _⟩
      obtain ⟨b, hb⟩ : ∃ x, w2.heap.size = x := ⟨_, rfl⟩
      simp only [hb] at HF ⊢
      have HBB := Aside0.mk hb
      clear hb
      generalize w2.alloc (.cells #[.pointer none, .slice none 0 0] 62) = W0 at HF ⊢
      go_upto_region 5 with (fail)
      go_loopg [16] k (fun gg v16 wr => ∃ (i : Nat) (o : List UInt8), v16 = .int .i64 (i : Int) ∧ Aside0 (asset_Format.l0 gg l i o = some out ∧ i ≤ n ∧ o.length ≤ 30000 * i) ∧ Aside0 (FmtI w2 wr b o))
      case atStart => exact ⟨0, [], rfl, ⟨HO.out, by omega, by simp⟩, HF⟩
      case round =>
        clear HO HF W0
        obtain ⟨i, o, rfl, HI, HF⟩ := hrel
        have HB := Aside0.mk (below_then HB2.out HB2.out.size HF.out.bel)
        by_cases hi : i < n
        · have b2 : decide ((i : Int) < (n : Int)) = true := decide_eq_true (by omega)
          have b2' : decide (i < n) = true := decide_eq_true hi
          obtain ⟨ad, Ab, cb, rfl, k0, k1, k2, k3, k4, k5, k6, k7, k8, k9, k10, k11, kl, kc⟩ := at_T36 HC.out (i : Int) (by omega) (by rw [HN.out]; omega)
          replace k0 := pw_cell_below HB.out k0
          replace k1 := pw_cell_below HB.out k1
          replace k2 := pw_cell_below HB.out k2
          replace k3 := pw_cell_below HB.out k3
          replace k4 := pw_cell_below HB.out k4
          replace k5 := pw_cell_below HB.out k5
          replace k6 := pw_cell_below HB.out k6
          replace k7 := pw_cell_below HB.out k7
          replace k8 := pw_cell_below HB.out k8
          replace k9 := pw_cell_below HB.out k9
          replace k10 := pw_cell_below HB.out k10
          replace k11 := pw_cell_below HB.out k11
          simp only [Int.toNat_natCast] at k0 k1 k2 k3 k4 k5 k6 k7 k8 k9 k10 k11
          obtain ⟨a, ha⟩ : ∃ a, rd_T36 l (i : Int) = a := ⟨_, rfl⟩
          obtain ⟨k', fp, hk', hfine, hfp, hfs, hnext⟩ := format_on HI.out.1 (by rw [HN.out]; exact hi) ha
          rw [ha] at k0 k1 k2 k3 k4 k5 k6 k7 k8 k9 k10 k11 kl kc
          subst hk'
          have HFN := Aside0.mk hfine
          have HFP := Aside0.mk hfp
          have HFS := Aside0.mk hfs
          have HNX := Aside0.mk hnext
          have HKL := Aside0.mk kl
          have HKC0 := Aside0.mk kc
          have HKC := Aside0.mk (Kd.C_below kc HB.out)
          have HII := Aside0.mk hi
          have HOL : Aside0 (o.length ≤ 3000000) := ⟨by have := HI.out.2.2; have := HI.out.2.1; have := H100.out; omega⟩
          have HIL : Aside0 (o.length ≤ 30000 * i) := ⟨HI.out.2.2⟩
          have b3 : n ≤ 1000000 := by have := H100.out; omega
          clear kl kc hfine hfp hfs hnext ha HI
          go_upto_region 7 with (fail)
          obtain ⟨ga, hga⟩ : ∃ x, wr.heap.size = x := ⟨_, rfl⟩
          have HA : Aside0 ((wr.alloc (.cells (asC a (.slice Ab a.f8.length cb)) 36)).heap[wr.heap.size]? = some (.cells (asC a (.slice Ab a.f8.length cb)) 36 (0, 0))) := ⟨heap_alloc_new _ _⟩
          rw [hga] at HA
          simp only [hga]
          have HGA : Aside0 (ga ≠ b ∧ w2.heap.size ≤ ga) := ⟨by have := HF.out.lt; omega, by have := HF.out.bel.size; omega⟩
          clear hga k0 k1 k2 k3 k4 k5 k6 k7 k8 k9 k10 k11
          replace HKC := Aside0.mk (Kd.C_below HKC.out (below_alloc (Below.refl _ _) (.cells (asC a (.slice Ab a.f8.length cb)) 36)))
          replace HF := Aside0.mk (HF.out.below (below_alloc (Below.refl _ _) (.cells (asC a (.slice Ab a.f8.length cb)) 36)))
          change Code.wp _ _ _ _ (wr.alloc (.cells (asC a (.slice Ab a.f8.length cb)) 36))
          generalize wr.alloc (.cells (asC a (.slice Ab a.f8.length cb)) 36) = W1 at HA HKC HF ⊢
          obtain ⟨d0, d1, d2, d3, d4, d5, d6, d7, d8, d9, d10, d11⟩ := zc12 HA
          obtain ⟨f0, f1, f2, f3, f4, f5, f6, f7, f8, f9, f10, f11⟩ := zf12 HA
          have s1 : (9223372036854775807 < 5 + a.f0.size) = False := eq_false (by have := HFN.out.f0; omega)
          have s2 : (9223372036854775807 < 5 + a.f0.size + 1) = False := eq_false (by have := HFN.out.f0; omega)
          have s3 : (9223372036854775807 < 5 + a.f0.size + 1 + fp.size) = False := eq_false (by have := HFN.out.f0; have := HFS.out; omega)
          refine start_ (n := 9) (S := fun w' => w'.cell? ⟨ga, 0, none⟩ = some (.string a.f0) ∧ w'.cell? ⟨ga, 1, none⟩ = some (.bool a.f1.f0.f0) ∧ w'.cell? ⟨ga, 2, none⟩ = some (.int .u64 a.f1.f0.f1) ∧ w'.cell? ⟨ga, 3, none⟩ = some (.int .u64 a.f1.f0.f2) ∧ w'.cell? ⟨ga, 4, none⟩ = some (.int .i64 a.f1.f1) ∧ w'.cell? ⟨ga, 5, none⟩ = some (.int .i64 a.f2) ∧ w'.cell? ⟨ga, 6, none⟩ = some (.int .i64 a.f3) ∧ w'.cell? ⟨ga, 7, none⟩ = some (.int .i64 a.f4) ∧ w'.cell? ⟨ga, 8, none⟩ = some (.int .i64 a.f5) ∧ w'.cell? ⟨ga, 9, none⟩ = some (.bool a.f6) ∧ w'.cell? ⟨ga, 10, none⟩ = some (.int .i64 a.f7) ∧ w'.cell? ⟨ga, 11, none⟩ = some (.slice Ab a.f8.length cb)) (ds := []) #[false, false, false, false, false, false, false, false, false] (by kernel_rfl) rfl rfl ⟨zc HA 0, zc HA 1, zc HA 2, zc HA 3, zc HA 4, zc HA 5, zc HA 6, zc HA 7, zc HA 8, zc HA 9, zc HA 10, zc HA 11⟩ (fun hHeld => ?_)
          replace HF := Aside0.mk (HF.out.below (Below.drew (Below.refl _ _)))
          replace HKC := Aside0.mk (Kd.C_below HKC.out (Below.drew (Below.refl _ _)))
          replace HA : Aside0 (W1.drew.heap[ga]? = some (.cells (asC a (.slice Ab a.f8.length cb)) 36 (0, 0))) := ⟨HA.out⟩
          clear d0 d1 d2 d3 d4 d5 d6 d7 d8 d9 d10 d11 f0 f1 f2 f3 f4 f5 f6 f7 f8 f9 f10 f11
          generalize W1.drew = W2 at HA HKC HF hHeld ⊢
          refine zp0 0 20 ?_; refine zp0 4 24 ?_; refine zt0 1 21 hHeld ?_; refine zp0 2 22 ?_; refine zp0 3 23 ?_; refine zt0 5 25 hHeld ?_; refine zo0 6 26 (fun K hK => ?_)
          refine zg Tryz.func39 #[.agg #[.bool a.f1.f0.f0, .int .u64 a.f1.f0.f1, .int .u64 a.f1.f0.f2, .int .i64 a.f1.f1]] ?_
          with_reducible refine (address_FormatPrefix.calls a.f1.f0.f0 a.f1.f0.f1 a.f1.f0.f2 a.f1.f1 fp W2 HFP.out (HW0.out.below (below_then HB2.out HB2.out.size HF.out.bel))).mono ?_
          rintro e w3 ⟨rfl, hb⟩
          refine ⟨_, rfl, ?_⟩
          replace HA := Aside0.mk (blk_below HA.out hb)
          replace HF := Aside0.mk (HF.out.below hb)
          replace HKC := Aside0.mk (Kd.C_below HKC.out hb)
          clear hb
          refine hK.out _ _ ⟨zc HA 0, zc HA 1, zc HA 2, zc HA 3, zc HA 4, zc HA 5, zc HA 6, zc HA 7, zc HA 8, zc HA 9, zc HA 10, zc HA 11⟩ (fun hHeld => ?_)
          clear hK K
          refine zn 26 ?_; refine zp0 7 27 ?_; refine zo0 8 28 (fun K hK => ?_)
          refine zg Tryz.func38 #[.pointer (some ⟨b, 0, none⟩), .string (bHost5 ++ a.f0 ++ sp ++ fp)] ?_
          refine (bld_str w2.heap.size b o (bHost5 ++ a.f0 ++ sp ++ fp) w3 HF.out.bld (by rw [ByteArray.size_append, ByteArray.size_append, ByteArray.size_append]; have := HOL.out; have := HFN.out.f0; have := HFS.out; have : sp.size = 1 := rfl; have : bHost5.size = 5 := rfl; omega) HF.out.bel.size).mono ?_
          rintro e w4 ⟨rfl, hb1, hb2, hb3⟩
          refine ⟨_, rfl, ?_⟩
          have HF4 := Aside0.mk (HF.out.write hb1 hb2)
          have HA4 := Aside0.mk (keepA HA.out HGA.out.1 hb3)
          clear hb1 hb2 hb3
          replace HA := HA4
          replace HF := HF4
          clear HA4 HF4
          refine hK.out _ _ ⟨zc HA 0, zc HA 1, zc HA 2, zc HA 3, zc HA 4, zc HA 5, zc HA 6, zc HA 7, zc HA 8, zc HA 9, zc HA 10, zc HA 11⟩ (fun hHeld => ?_)
          clear hK K
          refine zn 28 ?_; refine zd0 ?_
          replace HF : Aside0 (FmtI w2 w4 b (o ++ headPart a fp)) := ⟨HF.out⟩
          have HL : Aside0 ((o ++ headPart a fp).length ≤ 3002000) := ⟨by rw [List.length_append, headPart, data_length, ByteArray.size_append, ByteArray.size_append, ByteArray.size_append]; have := HOL.out; have := HFN.out.f0; have := HFS.out; have : sp.size = 1 := rfl; have : bHost5.size = 5 := rfl; omega⟩
          have HW2 := Aside0.mk (HW0.out.below HB2.out)
          clear hHeld s1 s2 s3 HKC
          obtain ⟨d0, d1, d2, d3, d4, d5, d6, d7, d8, d9, d10, d11⟩ := zc12 HA
          go_wp2_with fail
          refine (name_walk w2 w4 b (o ++ headPart a fp) ⟨#[112, 111, 108, 105, 99, 121]⟩ a.f2 HF.out (by decide) (by have := HL.out; omega) HFN.out.f2.1 HFN.out.f2.2).mono ?_
          rintro e w5 ⟨rfl, hf, ho⟩
          replace HA := Aside0.mk (keepA HA.out HGA.out.1 ho)
          replace HF := Aside0.mk hf
          replace HL : Aside0 ((o ++ headPart a fp ++ namePart ⟨#[112, 111, 108, 105, 99, 121]⟩ a.f2).length ≤ 3002200) := ⟨by rw [List.length_append]; have := HL.out; have := name_size ⟨#[112, 111, 108, 105, 99, 121]⟩ a.f2 (by decide) HFN.out.f2.1 HFN.out.f2.2; omega⟩
          clear hf ho d0 d1 d2 d3 d4 d5 d6 d7 d8 d9 d10 d11
          obtain ⟨d0, d1, d2, d3, d4, d5, d6, d7, d8, d9, d10, d11⟩ := zc12 HA
          go_wp2_with fail
          refine (name_walk w2 w5 b (o ++ headPart a fp ++ namePart ⟨#[112, 111, 108, 105, 99, 121]⟩ a.f2) ⟨#[102, 114, 97, 103]⟩ a.f3 HF.out (by decide) (by have := HL.out; omega) HFN.out.f3.1 HFN.out.f3.2).mono ?_
          rintro e w6 ⟨rfl, hf, ho⟩
          replace HA := Aside0.mk (keepA HA.out HGA.out.1 ho)
          replace HF := Aside0.mk hf
          replace HL : Aside0 ((o ++ headPart a fp ++ namePart ⟨#[112, 111, 108, 105, 99, 121]⟩ a.f2 ++ namePart ⟨#[102, 114, 97, 103]⟩ a.f3).length ≤ 3002400) := ⟨by rw [List.length_append]; have := HL.out; have := name_size ⟨#[102, 114, 97, 103]⟩ a.f3 (by decide) HFN.out.f3.1 HFN.out.f3.2; omega⟩
          clear hf ho d0 d1 d2 d3 d4 d5 d6 d7 d8 d9 d10 d11
          obtain ⟨d0, d1, d2, d3, d4, d5, d6, d7, d8, d9, d10, d11⟩ := zc12 HA
          go_wp2_with fail
          refine (number_walk w2 w6 b (o ++ headPart a fp ++ namePart ⟨#[112, 111, 108, 105, 99, 121]⟩ a.f2 ++ namePart ⟨#[102, 114, 97, 103]⟩ a.f3) ⟨#[104, 111, 112, 115]⟩ a.f4 0 HF.out HW2.out (by decide) (by have := HL.out; omega) HFN.out.f4.1 HFN.out.f4.2).mono ?_
          rintro e w7 ⟨rfl, hf, ho⟩
          replace HA := Aside0.mk (keepA HA.out HGA.out.1 ho)
          replace HF := Aside0.mk hf
          replace HL : Aside0 ((o ++ headPart a fp ++ namePart ⟨#[112, 111, 108, 105, 99, 121]⟩ a.f2 ++ namePart ⟨#[102, 114, 97, 103]⟩ a.f3 ++ numPart ⟨#[104, 111, 112, 115]⟩ a.f4 0).length ≤ 3002600) := ⟨by rw [List.length_append]; have := HL.out; have := num_size ⟨#[104, 111, 112, 115]⟩ a.f4 0 (by decide) HFN.out.f4.1 HFN.out.f4.2; omega⟩
          clear hf ho d0 d1 d2 d3 d4 d5 d6 d7 d8 d9 d10 d11
          obtain ⟨d0, d1, d2, d3, d4, d5, d6, d7, d8, d9, d10, d11⟩ := zc12 HA
          go_wp2_with fail
          refine (number_walk w2 w7 b (o ++ headPart a fp ++ namePart ⟨#[112, 111, 108, 105, 99, 121]⟩ a.f2 ++ namePart ⟨#[102, 114, 97, 103]⟩ a.f3 ++ numPart ⟨#[104, 111, 112, 115]⟩ a.f4 0) ⟨#[119, 105, 110, 100, 111, 119]⟩ a.f5 8192 HF.out HW2.out (by decide) (by have := HL.out; omega) HFN.out.f5.1 HFN.out.f5.2).mono ?_
          rintro e w8 ⟨rfl, hf, ho⟩
          replace HA := Aside0.mk (keepA HA.out HGA.out.1 ho)
          replace HF := Aside0.mk hf
          replace HL : Aside0 ((o ++ headPart a fp ++ namePart ⟨#[112, 111, 108, 105, 99, 121]⟩ a.f2 ++ namePart ⟨#[102, 114, 97, 103]⟩ a.f3 ++ numPart ⟨#[104, 111, 112, 115]⟩ a.f4 0 ++ numPart ⟨#[119, 105, 110, 100, 111, 119]⟩ a.f5 8192).length ≤ 3002800) := ⟨by rw [List.length_append]; have := HL.out; have := num_size ⟨#[119, 105, 110, 100, 111, 119]⟩ a.f5 8192 (by decide) HFN.out.f5.1 HFN.out.f5.2; omega⟩
          clear hf ho d0 d1 d2 d3 d4 d5 d6 d7 d8 d9 d10 d11
          obtain ⟨d0, d1, d2, d3, d4, d5, d6, d7, d8, d9, d10, d11⟩ := zc12 HA
          go_upto_if 48 with (fail)
          go_cut [3] (fun v3 wc => v3 = .pointer (some ⟨b, 0, none⟩) ∧ Aside0 (FmtI w2 wc b (o ++ headPart a fp ++ namePart ⟨#[112, 111, 108, 105, 99, 121]⟩ a.f2 ++ namePart ⟨#[102, 114, 97, 103]⟩ a.f3 ++ numPart ⟨#[104, 111, 112, 115]⟩ a.f4 0 ++ numPart ⟨#[119, 105, 110, 100, 111, 119]⟩ a.f5 8192 ++ (if a.f6 = true then [32, 115, 116, 97, 109, 112, 115] else []))) ∧ Aside0 (wc.heap[ga]? = some (.cells (asC a (.slice Ab a.f8.length cb)) 36 (0, 0))))
          case first =>
            by_cases hst : a.f6 = true
            · have HST := Aside0.mk hst
              rw [hst]
              go_wp2_with fail
              refine (bld_str w2.heap.size b (o ++ headPart a fp ++ namePart ⟨#[112, 111, 108, 105, 99, 121]⟩ a.f2 ++ namePart ⟨#[102, 114, 97, 103]⟩ a.f3 ++ numPart ⟨#[104, 111, 112, 115]⟩ a.f4 0 ++ numPart ⟨#[119, 105, 110, 100, 111, 119]⟩ a.f5 8192) ⟨#[32, 115, 116, 97, 109, 112, 115]⟩ w8 HF.out.bld (by have := HL.out; have : (⟨#[32, 115, 116, 97, 109, 112, 115]⟩ : ByteArray).size = 7 := rfl; omega) HF.out.bel.size).mono ?_
              rintro e w9 ⟨rfl, hb1, hb2, hb3⟩
              have HF9 := Aside0.mk (HF.out.write hb1 hb2)
              have HA9 := Aside0.mk (keepA HA.out HGA.out.1 hb3)
              clear hb1 hb2 hb3
              go_wp2
              go_meet
              case rel => exact ⟨rfl, ⟨by rw [if_pos HST.out]; exact HF9.out⟩, HA9⟩
            · have HST := Aside0.mk hst
              rw [show a.f6 = false from by simpa using hst]
              go_wp2
              go_meet
              case rel => exact ⟨rfl, ⟨by rw [if_neg HST.out, List.append_nil]; exact HF.out⟩, HA⟩
          case rest =>
            obtain ⟨rfl, HFc, HAc⟩ := hcut
            replace HF := HFc
            replace HA := HAc
            clear HFc HAc d0 d1 d2 d3 d4 d5 d6 d7 d8 d9 d10 d11
            replace HL : Aside0 ((o ++ headPart a fp ++ namePart ⟨#[112, 111, 108, 105, 99, 121]⟩ a.f2 ++ namePart ⟨#[102, 114, 97, 103]⟩ a.f3 ++ numPart ⟨#[104, 111, 112, 115]⟩ a.f4 0 ++ numPart ⟨#[119, 105, 110, 100, 111, 119]⟩ a.f5 8192 ++ (if a.f6 = true then [32, 115, 116, 97, 109, 112, 115] else [])).length ≤ 3002900) := ⟨by rw [List.length_append]; have := HL.out; have := st_size a.f6; omega⟩
            obtain ⟨d0, d1, d2, d3, d4, d5, d6, d7, d8, d9, d10, d11⟩ := zc12 HA
            go_wp2_with fail
            refine (number_walk w2 wc b (o ++ headPart a fp ++ namePart ⟨#[112, 111, 108, 105, 99, 121]⟩ a.f2 ++ namePart ⟨#[102, 114, 97, 103]⟩ a.f3 ++ numPart ⟨#[104, 111, 112, 115]⟩ a.f4 0 ++ numPart ⟨#[119, 105, 110, 100, 111, 119]⟩ a.f5 8192 ++ (if a.f6 = true then [32, 115, 116, 97, 109, 112, 115] else [])) ⟨#[118, 97, 108, 117, 101]⟩ a.f7 1 HF.out HW2.out (by decide) (by have := HL.out; omega) HFN.out.f7.1 HFN.out.f7.2).mono ?_
            rintro e w9 ⟨rfl, hf, ho⟩
            replace HA := Aside0.mk (keepA HA.out HGA.out.1 ho)
            replace HF := Aside0.mk hf
            replace HL : Aside0 ((o ++ headPart a fp ++ namePart ⟨#[112, 111, 108, 105, 99, 121]⟩ a.f2 ++ namePart ⟨#[102, 114, 97, 103]⟩ a.f3 ++ numPart ⟨#[104, 111, 112, 115]⟩ a.f4 0 ++ numPart ⟨#[119, 105, 110, 100, 111, 119]⟩ a.f5 8192 ++ (if a.f6 = true then [32, 115, 116, 97, 109, 112, 115] else []) ++ numPart ⟨#[118, 97, 108, 117, 101]⟩ a.f7 1).length ≤ 3003100) := ⟨by rw [List.length_append]; have := HL.out; have := num_size ⟨#[118, 97, 108, 117, 101]⟩ a.f7 1 (by decide) HFN.out.f7.1 HFN.out.f7.2; omega⟩
            clear hf ho d0 d1 d2 d3 d4 d5 d6 d7 d8 d9 d10 d11
            obtain ⟨o5, ho5⟩ : ∃ x, o ++ headPart a fp ++ namePart ⟨#[112, 111, 108, 105, 99, 121]⟩ a.f2 ++ namePart ⟨#[102, 114, 97, 103]⟩ a.f3 ++ numPart ⟨#[104, 111, 112, 115]⟩ a.f4 0 ++ numPart ⟨#[119, 105, 110, 100, 111, 119]⟩ a.f5 8192 ++ (if a.f6 = true then [32, 115, 116, 97, 109, 112, 115] else []) ++ numPart ⟨#[118, 97, 108, 117, 101]⟩ a.f7 1 = x := ⟨_, rfl⟩
            rw [ho5] at HF HL
            have HL5 := HL
            have HO5 := Aside0.mk ho5
            clear ho5
            obtain ⟨d0, d1, d2, d3, d4, d5, d6, d7, d8, d9, d10, d11⟩ := zc12 HA
            go_upto_region 18 with (fail)
            clear d0 d1 d2 d3 d4 d5 d6 d7 d8 d9 d10 d11
            go_loopg [57] (a.f8.length + 1) (fun gg v57 wr => ∃ j : Nat, v57 = .int .i64 (j : Int) ∧ Aside0 (gg + j = a.f8.length + 1 ∧ j ≤ a.f8.length) ∧ Aside0 (FmtI w2 wr b (o5 ++ ((a.f8.take j).map svcPart).flatten)) ∧ Aside0 (wr.heap[ga]? = some (.cells (asC a (.slice Ab a.f8.length cb)) 36 (0, 0))))
            case atStart => exact ⟨0, rfl, ⟨by omega, by omega⟩, ⟨by simpa using HF.out⟩, HA⟩
            case round =>
              clear HF HA HL
              obtain ⟨j, rfl, HJ, HF, HA⟩ := hrel
              have HB := Aside0.mk (below_then HB2.out HB2.out.size HF.out.bel)
              have HL : Aside0 ((o5 ++ ((a.f8.take j).map svcPart).flatten).length ≤ 3013100) := ⟨by rw [List.length_append]; have := HL5.out; have h1 := svcs_size (a.f8.take j) (fun s hs => HFN.out.sv s (List.mem_of_mem_take hs)); rw [List.length_take] at h1; have := HFN.out.f8; have := HJ.out.2; omega⟩
              by_cases hj : j < a.f8.length
              · have HJJ := Aside0.mk hj
                have c2 : decide ((j : Int) < (a.f8.length : Int)) = true := decide_eq_true (by omega)
                have c2' : decide (j < a.f8.length) = true := decide_eq_true hj
                obtain ⟨ads, rfl, k0, k1, k2⟩ := at_T74 (Kd.C_below HKC0.out HB.out) (j : Int) (by omega) (by omega)
                simp only [Int.toNat_natCast] at k0 k1 k2
                have HTK := Aside0.mk (svc_take hj)
                have HSM := Aside0.mk (HFN.out.sv _ (svc_mem hj))
                obtain ⟨s, hs⟩ : ∃ s, rd_T74 a.f8 (j : Int) = s := ⟨_, rfl⟩
                rw [hs] at k0 k1 k2 HTK HSM
                have c3 : a.f8.length ≤ 1000000 := by have := HFN.out.f8; omega
                clear hs
                go_upto_region 20 with (fail)
                obtain ⟨gs, hgs⟩ : ∃ x, wr.heap.size = x := ⟨_, rfl⟩
                have HS : Aside0 ((wr.alloc (.cells #[.int .i64 s.f0, .int .i64 s.f1, .int .i64 s.f2] 74)).heap[wr.heap.size]? = some (.cells #[.int .i64 s.f0, .int .i64 s.f1, .int .i64 s.f2] 74 (0, 0))) := ⟨heap_alloc_new _ _⟩
                have HGS : Aside0 (wr.heap.size ≠ b) := ⟨by have := HF.out.lt; omega⟩
                rw [hgs] at HS HGS
                simp only [hgs]
                clear hgs k0 k1 k2
                replace HA := Aside0.mk (blk_alloc HA.out (.cells #[.int .i64 s.f0, .int .i64 s.f1, .int .i64 s.f2] 74))
                replace HF := Aside0.mk (HF.out.below (below_alloc (Below.refl _ _) (.cells #[.int .i64 s.f0, .int .i64 s.f1, .int .i64 s.f2] 74)))
                change Code.wp _ _ _ _ (wr.alloc (.cells #[.int .i64 s.f0, .int .i64 s.f1, .int .i64 s.f2] 74))
                generalize wr.alloc (.cells #[.int .i64 s.f0, .int .i64 s.f1, .int .i64 s.f2] 74) = V1 at HA HS HF ⊢
                obtain ⟨e0, e1, e2⟩ := zc3 HS
                go_upto_if 63 with (fail)
                go_cut [10] (fun v10 wc => v10 = .string (if s.f0 = 17 then ⟨#[117, 100, 112]⟩ else ⟨#[116, 99, 112]⟩) ∧ Aside0 (FmtI w2 wc b (o5 ++ ((a.f8.take j).map svcPart).flatten)) ∧ Aside0 (wc.heap[ga]? = some (.cells (asC a (.slice (some ads) a.f8.length cb)) 36 (0, 0))) ∧ Aside0 (wc.heap[gs]? = some (.cells #[.int .i64 s.f0, .int .i64 s.f1, .int .i64 s.f2] 74 (0, 0))))
                case first =>
                  by_cases hp : s.f0 = 17
                  · have c5 : (s.f0 == 17) = true := beq_iff_eq.mpr hp
                    have HP := Aside0.mk hp
                    clear hp
                    (first | rw [c5] | skip)
                    go_wp2
                    go_meet
                    case rel => exact ⟨by rw [if_pos HP.out], HF, HA, HS⟩
                  · have c5 : (s.f0 == 17) = false := beq_eq_false_iff_ne.mpr hp
                    have HP := Aside0.mk hp
                    clear hp
                    (first | rw [c5] | skip)
                    go_wp2
                    go_meet
                    case rel => exact ⟨by rw [if_neg HP.out], HF, HA, HS⟩
                case rest =>
                  clear HF HA HS e0 e1 e2
                  obtain ⟨rfl, HF, HA, HS⟩ := hcut
                  have c6 := pro_size s.f0
                  have HSV : Aside0 (svcPart s = (bSvc9 ++ (if s.f0 = 17 then ⟨#[117, 100, 112]⟩ else ⟨#[116, 99, 112]⟩) ++ sp ++ ⟨(Lib.itoa s.f1).toArray⟩ ++ sp ++ rdOf ByteArray.empty appList s.f2).data.toList) := ⟨rfl⟩
                  obtain ⟨pr, hpr⟩ : ∃ x : ByteArray, (if s.f0 = 17 then ⟨#[117, 100, 112]⟩ else ⟨#[116, 99, 112]⟩ : ByteArray) = x := ⟨_, rfl⟩
                  have c7 := itoa_size HSM.out.1 HSM.out.2.1
                  have c8 := app_size HSM.out.2.2.1 HSM.out.2.2.2
                  have HIT : Aside0 (strconv_Itoa.f s.f1 = some ⟨(Lib.itoa s.f1).toArray⟩) := ⟨if_pos ⟨by have := HSM.out.1; omega, by have := HSM.out.2.1; omega⟩⟩
                  obtain ⟨nm, hnm⟩ : ∃ x, (⟨(Lib.itoa s.f1).toArray⟩ : ByteArray) = x := ⟨_, rfl⟩
                  obtain ⟨ap, hap⟩ : ∃ x, rdOf ByteArray.empty appList s.f2 = x := ⟨_, rfl⟩
                  rw [hpr] at HSV c6 ⊢
                  rw [hnm] at HSV HIT c7
                  rw [hap] at HSV c8
                  have HAP := Aside0.mk hap
                  clear hpr hnm hap
                  have t1 : (9223372036854775807 < 9 + pr.size) = False := eq_false (by omega)
                  have t2 : (9223372036854775807 < 9 + pr.size + 1) = False := eq_false (by omega)
                  have t3 : (9223372036854775807 < 9 + pr.size + 1 + nm.size) = False := eq_false (by omega)
                  have t4 : (9223372036854775807 < 9 + pr.size + 1 + nm.size + 1) = False := eq_false (by omega)
                  have t5 : (9223372036854775807 < 9 + pr.size + 1 + nm.size + 1 + ap.size) = False := eq_false (by omega)
                  have HSZ : Aside0 (pr.size = 3 ∧ nm.size ≤ 30 ∧ ap.size ≤ 10) := ⟨c6, c7, c8⟩
                  clear c6 c7 c8
                  go_upto_region 23 with (fail)
                  refine start_ (n := 15) (S := fun w' => w'.cell? ⟨gs, 0, none⟩ = some (.int .i64 s.f0) ∧ w'.cell? ⟨gs, 1, none⟩ = some (.int .i64 s.f1) ∧ w'.cell? ⟨gs, 2, none⟩ = some (.int .i64 s.f2)) (ds := []) #[false, false, false, false, false, false, false, false, false, false, false, false, false, false, false] (by kernel_rfl) rfl rfl ⟨zc HS 0, zc HS 1, zc HS 2⟩ (fun hHeld => ?_)
                  replace HF := Aside0.mk (HF.out.below (Below.drew (Below.refl _ _)))
                  replace HA : Aside0 (wc.drew.heap[ga]? = some (.cells (asC a (.slice (some ads) a.f8.length cb)) 36 (0, 0))) := ⟨HA.out⟩
                  replace HS : Aside0 (wc.drew.heap[gs]? = some (.cells #[.int .i64 s.f0, .int .i64 s.f1, .int .i64 s.f2] 74 (0, 0))) := ⟨HS.out⟩
                  generalize wc.drew = V2 at HA HS HF hHeld ⊢
                  refine zp0 0 64 ?_; refine zp0 1 65 ?_; refine zp0 2 66 ?_; refine zp0 3 67 ?_; refine zp0 9 73 ?_; refine zt0 4 68 hHeld ?_; refine zt0 10 74 hHeld ?_; refine zo0 5 69 (fun K hK => ?_)
                  refine zg Tryz.func41 #[.int .i64 s.f1] ?_
                  with_reducible refine (strconv_Itoa.calls s.f1 nm V2 HIT.out (HW0.out.below (below_then HB2.out HB2.out.size HF.out.bel))).mono ?_
                  rintro e V3 ⟨rfl, hb⟩
                  refine ⟨_, rfl, ?_⟩
                  replace HA := Aside0.mk (blk_below HA.out hb)
                  replace HS := Aside0.mk (blk_below HS.out hb)
                  replace HF := Aside0.mk (HF.out.below hb)
                  clear hb
                  refine hK.out _ _ ⟨zc HS 0, zc HS 1, zc HS 2⟩ (fun hHeld => ?_)
                  clear hK K
                  refine zn 69 ?_; refine zp0 6 70 ?_; refine zp0 7 71 ?_; refine zo0 8 72 (fun K hK => ?_)
                  refine zg Tryz.func44 #[] ?_
                  with_reducible refine (asset_apps.calls appList V3 rfl).mono ?_
                  rintro e V4 ⟨v, rfl, hlist, hb⟩
                  refine ⟨_, rfl, ?_⟩
                  replace HA := Aside0.mk (blk_below HA.out hb)
                  replace HS := Aside0.mk (blk_below HS.out hb)
                  replace HF := Aside0.mk (HF.out.below hb)
                  clear hb
                  obtain ⟨Al, cl, hv⟩ := Kd.R_slice hlist
                  subst hv
                  have q0 : 0 ≤ s.f2 := HSM.out.2.2.1
                  have q1 : s.f2 < (5 : Int) := by have := HSM.out.2.2.2; omega
                  obtain ⟨adl, hal, hx⟩ := Kd.at_string (Kd.R_reads' hlist).2.2 s.f2 q0 q1
                  subst hal
                  rw [HAP.out] at hx
                  have h5l : appList.length = 5 := rfl
                  rw [h5l]
                  clear hlist
                  replace q0 := eq_true q0
                  replace q1 := eq_true q1
                  refine hK.out _ _ ⟨zc HS 0, zc HS 1, zc HS 2⟩ (fun hHeld => ?_)
                  clear hK K
                  refine zn 72 ?_; refine zp0 11 75 ?_
                  refine zo0 12 76 (fun K hK => ?_)
                  refine value_ (w1 := ?_) (v := ?_) (by rfl) rfl ?_ ?_
                  rotate_left 2
                  · go_simp
                    constructor
                    · rfl
                    · rfl
                  refine hK.out _ _ ⟨zc HS 0, zc HS 1, zc HS 2⟩ (fun hHeld => ?_)
                  clear hK K
                  refine zn 76 ?_; refine zp0 13 77 ?_; refine zo0 14 78 (fun K hK => ?_)
                  refine zg Tryz.func38 #[.pointer (some ⟨b, 0, none⟩), .string (bSvc9 ++ pr ++ sp ++ nm ++ sp ++ ap)] ?_
                  refine (bld_str w2.heap.size b (o5 ++ ((a.f8.take j).map svcPart).flatten) (bSvc9 ++ pr ++ sp ++ nm ++ sp ++ ap) V4 HF.out.bld (svc_len HSZ.out HL.out) HF.out.bel.size).mono ?_
                  rintro e V5 ⟨rfl, hb1, hb2, hb3⟩
                  refine ⟨_, rfl, ?_⟩
                  have HF4 := Aside0.mk (HF.out.write hb1 hb2)
                  have HA4 := Aside0.mk (keepA HA.out HGA.out.1 hb3)
                  have HS4 := Aside0.mk (keepS HS.out HGS.out hb3)
                  clear hb1 hb2 hb3
                  replace HA := HA4
                  replace HF := HF4
                  replace HS := HS4
                  clear HA4 HF4 HS4
                  refine hK.out _ _ ⟨zc HS 0, zc HS 1, zc HS 2⟩ (fun hHeld => ?_)
                  clear hK K
                  refine zn 78 ?_; refine zd0 ?_
                  have HFL : Aside0 (FmtI w2 V5 b (o5 ++ ((a.f8.take (j + 1)).map svcPart).flatten)) := ⟨by rw [HTK.out, HSV.out, ← List.append_assoc]; exact HF.out⟩
                  have HJ1 : Aside0 ((a.f8.length - j) + (j + 1) = a.f8.length + 1 ∧ j + 1 ≤ a.f8.length) := ⟨by have := HJJ.out; omega, HJJ.out⟩
                  go_wp2
                  go_roundg (a.f8.length - j)
                  case measure => have := HJ.out.1; have := HJJ.out; omega
                  case rel => exact ⟨j + 1, by go_num, HJ1, HFL, HA⟩
              · have HJE : Aside0 (a.f8.take j = a.f8) := ⟨List.take_of_length_le (by omega)⟩
                have c2 : decide ((j : Int) < (a.f8.length : Int)) = false := decide_eq_false (by omega)
                have c2' : decide (j < a.f8.length) = false := decide_eq_false hj
                rw [HJE.out] at HF HL
                go_wp2_with fail
                refine (bld_str w2.heap.size b (o5 ++ (a.f8.map svcPart).flatten) ⟨#[59, 10]⟩ wr HF.out.bld (by have := HL.out; have : (⟨#[59, 10]⟩ : ByteArray).size = 2 := rfl; omega) HF.out.bel.size).mono ?_
                rintro e w10 ⟨rfl, hb1, hb2, hb3⟩
                have HF10 := Aside0.mk (HF.out.write hb1 hb2)
                clear hb1 hb2 hb3
                have HNEW : Aside0 (asset_Format.l0 k' l (i + 1) (o ++ linePart a fp) = some out ∧ i + 1 ≤ n ∧ (o ++ linePart a fp).length ≤ 30000 * (i + 1)) := ⟨HNX.out, HII.out, by rw [List.length_append]; have := HIL.out; have := line_size HFN.out HFS.out; omega⟩
                have HFL : Aside0 (FmtI w2 w10 b (o ++ linePart a fp)) := ⟨by have := HF10.out; rw [← HO5.out] at this; unfold linePart; simp only [List.append_assoc] at this ⊢; exact this⟩
                go_wp2
                go_roundg k'
                case measure => exact Nat.lt_succ_self k'
                case rel => exact ⟨i + 1, _, by go_num, HNEW, HFL⟩
        · have HE : Aside0 (o = out) := ⟨format_fin HI.out.1 (by rw [HN.out]; exact hi)⟩
          have b2 : decide ((i : Int) < (n : Int)) = false := decide_eq_false (by omega)
          have b2' : decide (i < n) = false := decide_eq_false hi
          go_wp2_with fail
          refine (bld_string w2.heap.size b o wr HF.out.bld HF.out.bel.size).mono ?_
          rintro e w4 ⟨rfl, hb4⟩
          have HB4 := Aside0.mk hb4
          clear hb4
          go_wp2
          go_ret
          exact ⟨by rw [HE.out]; rfl, below_then HB2.out HB2.out.size (HF.out.bel.trans HB4.out.2.1)⟩
    · rw [if_neg h100] at hr
      cases hr
  · rw [if_neg hz] at hr
    have hr3 := Option.some.inj hr
    subst hr3
    have b1 : (cv != 0) = true := bne_iff_ne.mpr hz
    clear hr hz hn
    go_enter Tryz.func14, Tryz.ntmps14
    go_wp2_with fail
    refine HCK.out.mono ?_
    rintro e w2 ⟨rfl, hb2⟩
    go_wp2
    go_ret
    exact ⟨rfl, hb2⟩
end Go.Proofs.YtnphnhkinjppjaaGreatDoor.Q
end

section
namespace Go.Proofs.YtnphnhkinjppjaaGreatDoor.Q
open Go.RowKit Go.Proofs.YtnphnhkinjppjaaGreatDoorW.PrintWords Go.Proofs.YtnphnhkinjppjaaGreatDoorW.PrintLast Go.Proofs.YtnphnhkinjppjaaGreatDoorW.PrintMore
attribute [local go_sem] max2_int min2_int max_two min_two max_three min_three max_four min_four
def r18_Policies.f  : Option (List ByteArray) := some (([(⟨#[102, 105, 114, 115, 116]⟩ : ByteArray), (⟨#[108, 97, 115, 116]⟩ : ByteArray), (⟨#[98, 115, 100]⟩ : ByteArray), (⟨#[108, 105, 110, 117, 120]⟩ : ByteArray), (⟨#[100, 114, 111, 112]⟩ : ByteArray)] : List ByteArray))
def r18_Apps.f  : Option (List ByteArray) := some (([(⟨#[114, 97, 119]⟩ : ByteArray), (⟨#[104, 116, 116, 112]⟩ : ByteArray), (⟨#[115, 109, 116, 112]⟩ : ByteArray), (⟨#[116, 108, 115]⟩ : ByteArray), (⟨#[100, 110, 115]⟩ : ByteArray)] : List ByteArray))
end Go.Proofs.YtnphnhkinjppjaaGreatDoor.Q
end

section
namespace Go.Proofs.YtnphnhkinjppjaaGreatDoor.Q
open Go.RowKit Go.Proofs.YtnphnhkinjppjaaGreatDoorW.PrintWords Go.Proofs.YtnphnhkinjppjaaGreatDoorW.PrintLast Go.Proofs.YtnphnhkinjppjaaGreatDoorW.PrintMore
def rsPol (lit : ByteArray) (n : Int) (s : ByteArray) : ByteArray := if n = 1 then s else s ++ (lit ++ rdOf ByteArray.empty polList (n - 1))
def rsNum (lit t : ByteArray) (n u : Int) (s : ByteArray) : ByteArray := if n = u then s else s ++ (lit ++ t)
def rsSvc (s t : ByteArray) (x : S74) : ByteArray := (s ++ (if x.f0 = 6 then ⟨#[32, 115, 101, 114, 118, 105, 99, 101, 32, 116, 99, 112, 32]⟩ else ⟨#[32, 115, 101, 114, 118, 105, 99, 101, 32, 117, 100, 112, 32]⟩)) ++ ((t ++ ⟨#[32]⟩) ++ rdOf ByteArray.empty appList x.f2)
def rsFold : List S74 → List ByteArray → ByteArray → ByteArray
  | x :: xs, t :: ts, s => rsFold xs ts (rsSvc s t x)
  | _, _, s => s
def rsList (k : Nat) : List S74 → Option (List ByteArray)
  | [] => some []
  | x :: xs => (r06_Number.f k x.f1).bind fun t => (rsList k xs).bind fun ts => some (t :: ts)
def rsAll (a : S36) (fp t4 t5 t7 : ByteArray) (ts : List ByteArray) : ByteArray :=
  rsFold a.f8 ts (rsNum ⟨#[32, 118, 97, 108, 117, 101, 32]⟩ t7 a.f7 1 ((fun s => if a.f6 = true then s ++ ⟨#[32, 115, 116, 97, 109, 112, 115]⟩ else s) (rsNum ⟨#[32, 119, 105, 110, 100, 111, 119, 32]⟩ t5 a.f5 8192 (rsNum ⟨#[32, 104, 111, 112, 115, 32]⟩ t4 a.f4 0 (rsPol ⟨#[32, 102, 114, 97, 103, 32]⟩ a.f3 (rsPol ⟨#[32, 112, 111, 108, 105, 99, 121, 32]⟩ a.f2 (((⟨#[104, 111, 115, 116, 32]⟩ ++ a.f0) ++ ⟨#[32]⟩) ++ fp))))))) ++ ⟨#[59]⟩
def r18_Statement.g (k : Nat) (a : S36) : Option ByteArray :=
  (r06_FormatPrefix.f k a.f1.f0.f0 a.f1.f0.f1 a.f1.f0.f2 a.f1.f1).bind fun fp => (r06_Number.f k a.f4).bind fun t4 => (r06_Number.f k a.f5).bind fun t5 => (r06_Number.f k a.f7).bind fun t7 => (rsList k a.f8).bind fun ts =>
    if (fineB a && decide (fp.size ≤ 1000) && decide (t4.size ≤ 50) && decide (t5.size ≤ 50) && decide (t7.size ≤ 50) && ts.all fun t => decide (t.size ≤ 50)) = true then some (rsAll a fp t4 t5 t7 ts) else none
def r18_Statement.f (k : Nat) (a0 : ByteArray) (a1 : Bool) (a2 a3 a4 a5 a6 a7 a8 : Int) (a9 : Bool) (a10 : Int) (l : List S74) : Option ByteArray := r18_Statement.g k ⟨a0, ⟨⟨a1, a2, a3⟩, a4⟩, a5, a6, a7, a8, a9, a10, l⟩
theorem rsList.mono (k : Nat) : ∀ l, LeO (rsList k l) (rsList (k + 1) l)
  | [] => LeO.refl _
  | x :: xs => LeO.bind (r06_Number.mono _ _) fun _ => LeO.bind (rsList.mono k xs) fun _ => LeO.refl _
theorem r18_Statement.mono (a0 : ByteArray) (a1 : Bool) (a2 a3 a4 a5 a6 a7 a8 : Int) (a9 : Bool) (a10 : Int) (l : List S74) (k : Nat) : LeO (r18_Statement.f k a0 a1 a2 a3 a4 a5 a6 a7 a8 a9 a10 l) (r18_Statement.f (k + 1) a0 a1 a2 a3 a4 a5 a6 a7 a8 a9 a10 l) :=
  LeO.bind (r06_FormatPrefix.mono _ _ _ _ _) fun _ => LeO.bind (r06_Number.mono _ _) fun _ => LeO.bind (r06_Number.mono _ _) fun _ => LeO.bind (r06_Number.mono _ _) fun _ => LeO.bind (rsList.mono _ _) fun _ => LeO.refl _
end Go.Proofs.YtnphnhkinjppjaaGreatDoor.Q
end

section
namespace Go.Proofs.YtnphnhkinjppjaaGreatDoor.Q
open Go.RowKit Go.Proofs.YtnphnhkinjppjaaGreatDoorW.PrintWords Go.Proofs.YtnphnhkinjppjaaGreatDoorW.PrintLast Go.Proofs.YtnphnhkinjppjaaGreatDoorW.PrintMore
attribute [local go_sem] max2_int min2_int max_two min_two max_three min_three max_four min_four
def r18_Format.l0 : Nat → List (S36) → ByteArray → Int → Option (ByteArray)
  | 0, _, _, _ => none
  | k + 1, x0, x3, x4 => if x4 < (x0.length : Int) then (if 0 ≤ x4 then ((r18_Statement.f k ((rd_T36 x0 x4).f0) ((rd_T36 x0 x4).f1.f0.f0) ((rd_T36 x0 x4).f1.f0.f1) ((rd_T36 x0 x4).f1.f0.f2) ((rd_T36 x0 x4).f1.f1) ((rd_T36 x0 x4).f2) ((rd_T36 x0 x4).f3) ((rd_T36 x0 x4).f4) ((rd_T36 x0 x4).f5) ((rd_T36 x0 x4).f6) ((rd_T36 x0 x4).f7) ((rd_T36 x0 x4).f8)).bind fun t386 => (if t386.size + 1 ≤ 9223372036854775807 then (if x3.size + (t386 ++ (⟨#[10]⟩ : ByteArray)).size ≤ 9223372036854775807 then (r18_Format.l0 k x0 (x3 ++ (t386 ++ (⟨#[10]⟩ : ByteArray))) (wrap64 (x4 + 1))) else (none)) else (none))) else (none)) else (some x3)
def r18_Format.f (k : Nat) (l0 : List (S36)) : Option (ByteArray) := (r18_Check.f k l0).bind fun t384 => (if t384 = 0 then (r18_Format.l0 k l0 (⟨#[]⟩ : ByteArray) 0) else (some (⟨#[]⟩ : ByteArray)))
theorem r18_Format.mono_l : ∀ k, (∀ y0 y1 y2, LeO (r18_Format.l0 k y0 y1 y2) (r18_Format.l0 (k + 1) y0 y1 y2))
  | 0 => fun _ _ _ r h => by simp [r18_Format.l0] at h
  | k + 1 => by
    have ih0 := r18_Format.mono_l k
    · intro y0 y1 y2
      unfold r18_Format.l0
      repeat' first
      | (with_reducible exact ih0 _ _ _)
      | (with_reducible exact r18_Check.mono _ _)
      | (with_reducible exact r18_Statement.mono _ _ _ _ _ _ _ _ _ _ _ _ _)
      | (with_reducible exact LeO.refl _)
      | (with_reducible exact LeO.none _)
      | (with_reducible refine LeO.ite ?_ ?_)
      | (with_reducible refine LeO.bind ?_ (fun _ => ?_))
theorem r18_Format.mono : ∀ a0 k, LeO (r18_Format.f k a0) (r18_Format.f (k + 1) a0) := by
  intro a0 k
  have ih0 := r18_Format.mono_l k
  unfold r18_Format.f
  repeat' first
      | (with_reducible exact ih0 _ _ _)
      | (with_reducible exact r18_Check.mono _ _)
      | (with_reducible exact r18_Statement.mono _ _ _ _ _ _ _ _ _ _ _ _ _)
      | (with_reducible exact LeO.refl _)
      | (with_reducible exact LeO.none _)
      | (with_reducible refine LeO.ite ?_ ?_)
      | (with_reducible refine LeO.bind ?_ (fun _ => ?_))
end Go.Proofs.YtnphnhkinjppjaaGreatDoor.Q
end

section
namespace Go.Proofs.YtnphnhkinjppjaaGreatDoor.Q
open Go.RowKit Go.Proofs.YtnphnhkinjppjaaGreatDoorW.PrintWords Go.Proofs.YtnphnhkinjppjaaGreatDoorW.PrintLast Go.Proofs.YtnphnhkinjppjaaGreatDoorW.PrintMore
theorem dig_tab : ((List.range 10).all fun m => (strOfNums [(wrap64 (48 + (m : Int))) % 256]).data.toList == [UInt8.ofNat (48 + m)]) = true := by kernel_rfl
theorem dig_eq {m : Nat} (h : m < 10) : strOfNums [(wrap64 (48 + (m : Int))) % 256] = ⟨#[UInt8.ofNat (48 + m)]⟩ := by
  have := List.all_eq_true.1 dig_tab m (List.mem_range.2 h)
  rw [beq_iff_eq] at this
  apply ByteArray.ext
  rw [← Array.toList_inj, this]
theorem rnum0 : ∀ (d n : Nat) (t : ByteArray), d ≤ 9 → n < 10 ^ (d + 1) → t.size + d ≤ 100 → Ev (fun k => r06_Number.l0 k (n : Int) t) ((⟨(Lib.decDigits n).toArray⟩ : ByteArray) ++ t) := by
  intro d
  induction d with
  | zero =>
    intro n t hd hn ht
    have hn : n < 10 := by simpa using hn
    refine Ev.step (f := fun _ => some ((⟨(Lib.decDigits n).toArray⟩ : ByteArray) ++ t)) (fun k => ?_) (Ev.now _)
    rw [r06_Number.l0, if_neg (by omega), Option.bind_some, dig_eq hn, if_pos (by show 1 + t.size ≤ _; omega), Lib.decDigits_one hn]
  | succ d ih =>
    intro n t hd hn ht
    by_cases h : n < 10
    · refine Ev.step (f := fun _ => some ((⟨(Lib.decDigits n).toArray⟩ : ByteArray) ++ t)) (fun k => ?_) (Ev.now _)
      rw [r06_Number.l0, if_neg (by omega), Option.bind_some, dig_eq h, if_pos (by show 1 + t.size ≤ _; omega), Lib.decDigits_one h]
    · have hm : n % 10 < 10 := Nat.mod_lt _ (by decide)
      have hq : n / 10 < 10 ^ (d + 1) := Nat.div_lt_of_lt_mul (by rw [Nat.pow_succ, Nat.mul_comm] at hn; exact hn)
      have hb : n < 9223372036854775808 := by
        have := Nat.pow_le_pow_right (show 0 < 10 by decide) (show d + 1 + 1 ≤ 10 by omega)
        rw [show (10 : Nat) ^ 10 = 10000000000 from by decide] at this
        omega
      have := ih (n / 10) (⟨#[UInt8.ofNat (48 + n % 10)]⟩ ++ t) (by omega) hq (by rw [ByteArray.size_append, show (⟨#[UInt8.ofNat (48 + n % 10)]⟩ : ByteArray).size = 1 from rfl]; omega)
      rw [show (⟨(Lib.decDigits n).toArray⟩ : ByteArray) ++ t = ⟨(Lib.decDigits (n / 10)).toArray⟩ ++ (⟨#[UInt8.ofNat (48 + n % 10)]⟩ ++ t) from by rw [Lib.decDigits, dif_neg h]; exact ba_app _ _ _]
      refine Ev.step (fun k => ?_) this
      have e1 : Int.tmod (n : Int) 10 = ((n % 10 : Nat) : Int) := rfl
      have e2 : wrap64 (Int.tdiv (n : Int) 10) = ((n / 10 : Nat) : Int) := by rw [show Int.tdiv (n : Int) 10 = ((n / 10 : Nat) : Int) from rfl, wid (by omega) (by omega)]
      rw [r06_Number.l0, if_pos (by omega), Option.bind_some, e1, e2, dig_eq hm, if_pos (by show 1 + t.size ≤ _; omega)]
theorem ba_nil (s : ByteArray) : s ++ ⟨#[]⟩ = s := by apply ByteArray.ext; rw [ByteArray.data_append]; simp
theorem rnum_ev {n : Int} (h0 : 0 ≤ n) (h1 : n ≤ 1000000) : Ev (fun k => r06_Number.f k n) (decB n) := by
  have := rnum0 9 n.toNat ⟨#[]⟩ (by omega) (by rw [show (10 : Nat) ^ (9 + 1) = 10000000000 from by decide]; omega) (by decide)
  rw [ba_nil, show ((n.toNat : Nat) : Int) = n from by omega] at this
  rw [show decB n = ⟨(Lib.decDigits n.toNat).toArray⟩ from by unfold decB Lib.itoa; rw [if_neg (by omega)]]
  exact this
theorem decB_size {n : Int} (h0 : 0 ≤ n) (h1 : n ≤ 1000000) : (decB n).size ≤ 21 := by
  have := Lib.itoa_length_le n (by omega) (by omega)
  show (Lib.itoa n).toArray.size ≤ 21
  simpa using this
def chkR (pre : List S36) : List S36 → Int
  | [] => 0
  | b :: bs => if oneR b = 0 then (if (pre.any fun x => clash x b) = true then 7 else if twR [] b.f8 = true then 7 else chkR (pre ++ [b]) bs) else oneR b
theorem one_len {b : S36} (h : oneR b = 0) : b.f8.length ≤ 16 := by
  unfold oneR at h
  split at h
  · cases h
  · omega
theorem take_as {l : List S36} {i : Nat} (h : i < l.length) : l.take i ++ [l[i]] = l.take (i + 1) := List.take_append_getElem h
theorem chk_l (l : List S36) (ha : ∀ x ∈ l, AW x.f1.f0) : ∀ (d i : Nat), l.length - i = d → i ≤ l.length → Ev (fun k => asset_Check.l0 k l i) (chkR (l.take i) (l.drop i))
  | 0, i, hd, hi => by
    rw [List.drop_of_length_le (by omega), chkR]
    refine Ev.step (f := fun _ => some 0) (fun k => ?_) (Ev.now _)
    rw [asset_Check.l0, if_neg (by omega)]
  | d + 1, i, hd, hi => by
    have h : i < l.length := by omega
    have ih := chk_l l ha d (i + 1) (by omega) (by omega)
    rw [List.drop_eq_getElem_cons h, chkR, take_as h]
    refine Ev.step (f := fun k => (asset_checkOne.f k l[i].f0 l[i].f1.f0.f0 l[i].f1.f0.f1 l[i].f1.f0.f2 l[i].f1.f1 l[i].f2 l[i].f3 l[i].f4 l[i].f5 l[i].f6 l[i].f7 l[i].f8).bind fun e => if e = 0 then (if ((l.take i).any fun b => clash b l[i]) = true then some 7 else (asset_twice.f k l[i].f8).bind fun t => if t = true then some 7 else asset_Check.l0 k l (i + 1)) else some e) (fun k => by rw [asset_Check.l0, if_pos h, as_get h]) ?_
    refine Ev.bind (one_ev _ (ha _ (List.getElem_mem h))) ?_
    refine ev_ite (fun h0 => ?_) fun h0 => ev_is (by rw [if_neg h0])
    rw [if_pos h0]
    refine ev_ite (fun h1 => ev_is (by rw [if_pos h1])) fun h1 => ?_
    rw [if_neg h1]
    refine Ev.bind (twice_ev _ (by have := one_len h0; omega)) ?_
    refine ev_ite (fun h2 => ev_is (by rw [if_pos h2])) fun h2 => ?_
    rw [if_neg h2]
    exact ih
def chkB (l : List S36) : Int := if (l.length : Int) > 64 then 3 else chkR [] l
theorem check_ev (l : List S36) (ha : ∀ x ∈ l, AW x.f1.f0) : Ev (fun k => asset_Check.f k l) (chkB l) := by
  unfold asset_Check.f chkB
  refine ev_ite (fun h => ev_is (by rw [if_pos h])) fun h => ?_
  rw [if_neg h]
  exact chk_l l ha _ 0 rfl (by omega)
theorem chkR_one : ∀ (l pre : List S36), chkR pre l = 0 → ∀ b ∈ l, oneR b = 0
  | [], _, _, b, hb => by cases hb
  | x :: xs, pre, h, b, hb => by
    rw [chkR] at h
    split at h
    · rename_i h0
      rcases List.mem_cons.1 hb with rfl | hb
      · exact h0
      · split at h
        · cases h
        · split at h
          · cases h
          · exact chkR_one xs _ h b hb
    · rename_i h0
      exact absurd h h0
theorem chkB_one {l : List S36} (h : chkB l = 0) : l.length ≤ 64 ∧ ∀ b ∈ l, oneR b = 0 := by
  unfold chkB at h
  split at h
  · cases h
  · exact ⟨by omega, chkR_one l [] h⟩
structure GoodA (a : S36) : Prop where
  f8 : a.f8.length ≤ 16
  name : nameB a.f0.data.toList = true
  num : 1 ≤ a.f2 ∧ a.f2 ≤ 4 ∧ 1 ≤ a.f3 ∧ a.f3 ≤ 5 ∧ 0 ≤ a.f4 ∧ a.f4 ≤ 64 ∧ 1 ≤ a.f5 ∧ a.f5 ≤ 8192 ∧ 0 ≤ a.f7 ∧ a.f7 ≤ 3
  svc : ∀ s ∈ a.f8, (s.f0 = 6 ∨ s.f0 = 17) ∧ 0 ≤ s.f1 ∧ s.f1 ≤ 65535 ∧ 0 ≤ s.f2 ∧ s.f2 ≤ 4
  vp : vpB a.f1.f0 a.f1.f1 = true
theorem good_of {a : S36} (h : oneR a = 0) : GoodA a := by
  have hl := one_len h
  unfold oneR at h
  rw [if_neg (by omega)] at h
  split at h
  · rename_i hn
    split at h
    · rename_i hq
      split at h
      · rename_i hv
        rw [Bool.and_eq_true, List.all_eq_true] at hq
        exact ⟨hl, hn, of_decide_eq_true hq.1, fun s hs => of_decide_eq_true (hq.2 s hs), hv⟩
      · cases h
    · cases h
  · cases h
theorem GoodA.fine {a : S36} (h : GoodA a) : fineB a = true := by
  have hs : a.f0.size ≤ 100 := by
    have := h.name
    unfold nameB at this
    simp only [Bool.and_eq_true, decide_eq_true_eq] at this
    rw [size_list]
    omega
  have hn := h.num
  have hl := h.f8
  unfold fineB
  simp only [Bool.and_eq_true, decide_eq_true_eq, List.all_eq_true]
  refine ⟨⟨⟨⟨⟨⟨⟨⟨⟨⟨⟨⟨hs, by omega⟩, by omega⟩, by omega⟩, by omega⟩, by omega⟩, by omega⟩, by omega⟩, by omega⟩, by omega⟩, by omega⟩, by omega⟩, fun s hs => ?_⟩
  have := h.svc s hs
  exact ⟨⟨⟨by omega, by omega⟩, by omega⟩, by omega⟩
theorem GoodA.bits {a : S36} (h : GoodA a) : 0 ≤ a.f1.f1 ∧ a.f1.f1 ≤ szA a.f1.f0.f0 ∧ a.f1.f1 < 256 := by
  have := h.vp
  unfold vpB at this
  simp only [Bool.and_eq_true, decide_eq_true_eq] at this
  have h2 := szA_le a.f1.f0.f0
  omega
def fpA (a : S36) : ByteArray := txtP a.f1.f0 a.f1.f1
theorem GoodA.fps {a : S36} (h : GoodA a) : (fpA a).size ≤ 1000 := by
  have h1 := txtA_size a.f1.f0
  have h2 := decB_size h.bits.1 (by have := h.bits.2.2; omega)
  unfold fpA txtP
  rw [ByteArray.size_append, ByteArray.size_append, show (⟨#[47]⟩ : ByteArray).size = 1 from rfl]
  omega
theorem rsList_ev : ∀ (l : List S74), (∀ x ∈ l, 0 ≤ x.f1 ∧ x.f1 ≤ 65535) → Ev (fun k => rsList k l) (l.map fun x => decB x.f1)
  | [], _ => Ev.now _
  | x :: xs, h => by
    have h1 := h x (List.mem_cons_self ..)
    exact Ev.bind (rnum_ev h1.1 (by omega)) (Ev.bind (rsList_ev xs fun y hy => h y (List.mem_cons_of_mem _ hy)) (Ev.now _))
def stB (a : S36) : ByteArray := rsAll a (fpA a) (decB a.f4) (decB a.f5) (decB a.f7) (a.f8.map fun x => decB x.f1)
theorem GoodA.st {a : S36} (h : GoodA a) : Ev (fun k => r18_Statement.f k a.f0 a.f1.f0.f0 a.f1.f0.f1 a.f1.f0.f2 a.f1.f1 a.f2 a.f3 a.f4 a.f5 a.f6 a.f7 a.f8) (stB a) := by
  have hn := h.num
  have s4 := decB_size (n := a.f4) (by omega) (by omega)
  have s5 := decB_size (n := a.f5) (by omega) (by omega)
  have s7 := decB_size (n := a.f7) (by omega) (by omega)
  refine Ev.bind (rfp_ev a.f1.f0 h.bits.1 h.bits.2.2) (Ev.bind (rnum_ev (n := a.f4) (by omega) (by omega)) (Ev.bind (rnum_ev (n := a.f5) (by omega) (by omega)) (Ev.bind (rnum_ev (n := a.f7) (by omega) (by omega)) (Ev.bind (rsList_ev a.f8 fun x hx => ⟨(h.svc x hx).2.1, (h.svc x hx).2.2.1⟩) ?_))))
  refine Ev.congr (fun k => if_pos ?_) (Ev.now _)
  have hf := h.fine
  have hfp := h.fps
  unfold fpA at hfp
  simp only [Bool.and_eq_true, decide_eq_true_eq, List.all_eq_true]
  refine ⟨⟨⟨⟨⟨hf, hfp⟩, by omega⟩, by omega⟩, by omega⟩, fun t ht => ?_⟩
  obtain ⟨x, hx, rfl⟩ := List.mem_map.1 ht
  have := h.svc x hx
  have := decB_size (n := x.f1) (by omega) (by omega)
  omega
end Go.Proofs.YtnphnhkinjppjaaGreatDoor.Q
end

section
set_option maxHeartbeats 8000000
set_option maxRecDepth 100000
namespace Go.Proofs.YtnphnhkinjppjaaGreatDoor.Q
open Go.RowKit Go.Proofs.YtnphnhkinjppjaaGreatDoorW.PrintWords Go.Proofs.YtnphnhkinjppjaaGreatDoorW.PrintLast Go.Proofs.YtnphnhkinjppjaaGreatDoorW.PrintMore
attribute [local go_sem] max2_int min2_int max_two min_two max_three min_three max_four min_four
mutual
def r18_Few.l0 : Nat → List (S36) → Int → Option (Bool)
  | 0, _, _ => none
  | k + 1, x0, x3 => if x3 < (x0.length : Int) then (r18_Few.j1 k x0 x3 (decide (x3 < 71))) else (r18_Few.j1 k x0 x3 false)
def r18_Few.j1 : Nat → List (S36) → Int → Bool → Option (Bool)
  | 0, _, _, _ => none
  | k + 1, x0, x3, x11 => if x11 = true then (if 0 ≤ x3 then (if x3 < (x0.length : Int) then (if (((rd_T36 x0 x3).f8).length : Int) > 20 then (some false) else (if (((rd_T36 x0 x3).f0).size : Int) > 100 then (some false) else (r18_Few.l0 k x0 (wrap64 (x3 + 1))))) else (none)) else (none)) else (some (decide ((x0.length : Int) ≤ 70)))
end
def r18_Few.f (k : Nat) (l0 : List (S36)) : Option (Bool) := r18_Few.l0 k l0 0
theorem r18_Few.mono_l : ∀ k, (∀ y0 y1, LeO (r18_Few.l0 k y0 y1) (r18_Few.l0 (k + 1) y0 y1)) ∧ (∀ y0 y1 y2, LeO (r18_Few.j1 k y0 y1 y2) (r18_Few.j1 (k + 1) y0 y1 y2))
  | 0 => ⟨fun _ _ r h => by simp [r18_Few.l0] at h, fun _ _ _ r h => by simp [r18_Few.j1] at h⟩
  | k + 1 => by
    obtain ⟨ih0, ih1⟩ := r18_Few.mono_l k
    refine ⟨?_, ?_⟩
    · intro y0 y1
      unfold r18_Few.l0
      repeat' first
      | (with_reducible exact ih0 _ _)
      | (with_reducible exact ih1 _ _ _)
      | (with_reducible exact LeO.refl _)
      | (with_reducible exact LeO.none _)
      | (with_reducible refine LeO.ite ?_ ?_)
      | (with_reducible refine LeO.bind ?_ (fun _ => ?_))
    · intro y0 y1 y2
      unfold r18_Few.j1
      repeat' first
      | (with_reducible exact ih0 _ _)
      | (with_reducible exact ih1 _ _ _)
      | (with_reducible exact LeO.refl _)
      | (with_reducible exact LeO.none _)
      | (with_reducible refine LeO.ite ?_ ?_)
      | (with_reducible refine LeO.bind ?_ (fun _ => ?_))
theorem r18_Few.mono : ∀ a0 k, LeO (r18_Few.f k a0) (r18_Few.f (k + 1) a0) := by
  intro a0 k
  obtain ⟨ih0, ih1⟩ := r18_Few.mono_l k
  unfold r18_Few.f
  repeat' first
      | (with_reducible exact ih0 _ _)
      | (with_reducible exact ih1 _ _ _)
      | (with_reducible exact LeO.refl _)
      | (with_reducible exact LeO.none _)
      | (with_reducible refine LeO.ite ?_ ?_)
      | (with_reducible refine LeO.bind ?_ (fun _ => ?_))
theorem r18_Few.calls (k : Nat) (A0 : Option Addr) (c0 : Nat) (l0 : List (S36)) (r : Bool) (w : World) (hr0 : Kd.C k36 w A0 l0.length l0) (hc0 : l0.length ≤ c0) (h : r18_Few.f k l0 = some r) :
 Calls Tryz.prog 10 #[.slice A0 l0.length c0] w fun e w' => e = .returned (.bool r) ∧ Drawn0 w w' := by
 have HR0 := Aside0.mk hr0; have HC0 := Aside0.mk hc0; clear hr0 hc0
 unfold r18_Few.f at h; have H := h
 clear h
 have H' := Aside0.mk H
 clear H
 go_enter Tryz.func10, Tryz.ntmps10
 go_wp2
 go_loopg [3] k (fun kq v3 w' => ∃ (x3_1 : Int), v3 = .int .i64 x3_1 ∧ Aside0 (r18_Few.l0 kq l0 x3_1 = some r) ∧ Aside0 (kq ≤ k) ∧ Drawn0 w w')
 case atStart => exact ⟨(0), zI, H', ⟨Nat.le_refl _⟩, by repeat (first | exact Drawn0.refl _ | apply Drawn0.step)⟩
 case round =>
  clear H'
  obtain ⟨x3_1, rfl, HA, HK1, ⟨m1, rfl⟩⟩ := hrel
  rcases gk with _ | k1
  · exact absurd HA.out (by simp [r18_Few.l0])
  have H := HA.out
  clear HA
  simp only [r18_Few.l0] at H
  have HC2 := Aside0.mk H; clear H
  go_upto_region 2 with (fail)
  go_cut [11] (fun v11 wc => ∃ (kq : Nat) (x11_1 : Bool), v11 = .bool x11_1 ∧ Aside0 (r18_Few.j1 kq l0 x3_1 x11_1 = some r) ∧ Aside0 (kq ≤ k1) ∧ Drawn0 w wc)
  case first =>
   have H := HC2.out
   clear HC2
   by_cases c3 : x3_1 < (l0.length : Int)
   · rw [if_pos c3] at H
     have c3b0 : decide (x3_1 < (l0.length : Int)) = true := decide_eq_true c3; clear c3
     (first | rw [c3b0] | (simp only [i64_w, i32_w]; rw [c3b0]) | skip)
     have H' := Aside0.mk H
     clear H
     go_wp2
     go_meet
     case rel => exact ⟨_, (decide (x3_1 < 71)), zI, H', ⟨by have := HK1.out; first | omega | exact Nat.le_refl _⟩, by repeat (first | exact Drawn0.refl _ | apply Drawn0.step)⟩
   rw [if_neg c3] at H
   have c3b0 : decide (x3_1 < (l0.length : Int)) = false := decide_eq_false c3; clear c3
   (first | rw [c3b0] | (simp only [i64_w, i32_w]; rw [c3b0]) | skip)
   have H' := Aside0.mk H
   clear H
   go_wp2
   go_meet
   case rel => exact ⟨_, (false), zI, H', ⟨by have := HK1.out; first | omega | exact Nat.le_refl _⟩, by repeat (first | exact Drawn0.refl _ | apply Drawn0.step)⟩
  case rest =>
   clear HC2
   obtain ⟨kq, x11_1, rfl, HA, HJ1, ⟨mc1, rfl⟩⟩ := hcut
   rcases kq with _ | kj1
   · exact absurd HA.out (by simp [r18_Few.j1])
   have H := HA.out
   clear HA
   simp only [r18_Few.j1] at H
   by_cases c4 : x11_1 = true
   rotate_left
   · replace c4 := Bool.eq_false_iff.mpr c4
     subst c4; rw [if_neg zF] at H
     obtain rfl := Option.some.inj H
     go_wp2
     go_ret
     exact ⟨by first | rfl | (simp; done) | (simp [*]; done), by repeat (first | exact Drawn0.refl _ | apply Drawn0.step)⟩
   subst c4; rw [if_pos rfl] at H
   by_cases c5 : 0 ≤ x3_1
   rotate_left
   · rw [if_neg c5] at H
     exact absurd H (by simp)
   rw [if_pos c5] at H
   have c5b0 : decide (0 ≤ x3_1) = true := decide_eq_true c5; clear c5
   by_cases c6 : x3_1 < (l0.length : Int)
   rotate_left
   · rw [if_neg c6] at H
     exact absurd H (by simp)
   rw [if_pos c6] at H
   have c6b0 : decide (x3_1 < (l0.length : Int)) = true := decide_eq_true c6; clear c6
   by_cases c7 : (((rd_T36 l0 x3_1).f8).length : Int) > 20
   · rw [if_pos c7] at H
     have c7b0 : decide (20 < (((rd_T36 l0 x3_1).f8).length : Int)) = true := decide_eq_true c7
     have c7b1 : decide (20 < ((rd_T36 l0 x3_1).f8).length) = true := decide_eq_true (by omega)
     clear c7
     obtain rfl := Option.some.inj H
     have p101 : 0 ≤ (x3_1 : Int) := za
     have q101 : x3_1 < (l0.length : Int) := za
     obtain ⟨ad101, A101_11, c101_11, e101, hx101_0, hx101_1, hx101_2, hx101_3, hx101_4, hx101_5, hx101_6, hx101_7, hx101_8, hx101_9, hx101_10, hx101_11, hl101_11, hi101_11⟩ := at_T36 HR0.out x3_1 p101 q101
     cases e101
     have HR101_11 := Aside0.mk hi101_11; have HC101_11 := Aside0.mk hl101_11; clear hi101_11 hl101_11
     replace p101 := eq_true p101
     replace q101 := eq_true q101
     go_wp2
     go_ret
     exact ⟨by first | rfl | (simp; done) | (simp [*]; done), by repeat (first | exact Drawn0.refl _ | apply Drawn0.step)⟩
   rw [if_neg c7] at H; have c7b0 : decide (20 < (((rd_T36 l0 x3_1).f8).length : Int)) = false := decide_eq_false c7
   have c7b1 : decide (20 < ((rd_T36 l0 x3_1).f8).length) = false := decide_eq_false (by omega)
   clear c7
   by_cases c8 : (((rd_T36 l0 x3_1).f0).size : Int) > 100
   · rw [if_pos c8] at H
     have c8b0 : decide (100 < (((rd_T36 l0 x3_1).f0).size : Int)) = true := decide_eq_true c8
     have c8b1 : decide (100 < ((rd_T36 l0 x3_1).f0).size) = true := decide_eq_true (by omega)
     clear c8
     obtain rfl := Option.some.inj H
     have p101 : 0 ≤ (x3_1 : Int) := za
     have q101 : x3_1 < (l0.length : Int) := za
     obtain ⟨ad101, A101_11, c101_11, e101, hx101_0, hx101_1, hx101_2, hx101_3, hx101_4, hx101_5, hx101_6, hx101_7, hx101_8, hx101_9, hx101_10, hx101_11, hl101_11, hi101_11⟩ := at_T36 HR0.out x3_1 p101 q101
     cases e101
     have HR101_11 := Aside0.mk hi101_11; have HC101_11 := Aside0.mk hl101_11; clear hi101_11 hl101_11
     replace p101 := eq_true p101
     replace q101 := eq_true q101
     have p102 : 0 ≤ (x3_1 : Int) := za
     have q102 : x3_1 < (l0.length : Int) := za
     obtain ⟨ad102, A102_11, c102_11, e102, hx102_0, hx102_1, hx102_2, hx102_3, hx102_4, hx102_5, hx102_6, hx102_7, hx102_8, hx102_9, hx102_10, hx102_11, hl102_11, hi102_11⟩ := at_T36 HR0.out x3_1 p102 q102
     obtain rfl : ad101 = ad102 := (by injection e102)
     have HR102_11 := Aside0.mk hi102_11; have HC102_11 := Aside0.mk hl102_11; clear hi102_11 hl102_11
     replace p102 := eq_true p102
     replace q102 := eq_true q102
     have ea_ := Option.some.inj (hx101_11.symm.trans hx102_11)
     injection ea_ with ea_ en_ ec_
     subst ea_; subst ec_; clear en_
     go_wp2
     go_ret
     exact ⟨by first | rfl | (simp; done) | (simp [*]; done), by repeat (first | exact Drawn0.refl _ | apply Drawn0.step)⟩
   rw [if_neg c8] at H; have c8b0 : decide (100 < (((rd_T36 l0 x3_1).f0).size : Int)) = false := decide_eq_false c8
   have c8b1 : decide (100 < ((rd_T36 l0 x3_1).f0).size) = false := decide_eq_false (by omega)
   clear c8
   have H' := Aside0.mk H
   clear H
   have p101 : 0 ≤ (x3_1 : Int) := za
   have q101 : x3_1 < (l0.length : Int) := za
   obtain ⟨ad101, A101_11, c101_11, e101, hx101_0, hx101_1, hx101_2, hx101_3, hx101_4, hx101_5, hx101_6, hx101_7, hx101_8, hx101_9, hx101_10, hx101_11, hl101_11, hi101_11⟩ := at_T36 HR0.out x3_1 p101 q101
   cases e101
   have HR101_11 := Aside0.mk hi101_11; have HC101_11 := Aside0.mk hl101_11; clear hi101_11 hl101_11
   replace p101 := eq_true p101
   replace q101 := eq_true q101
   have p102 : 0 ≤ (x3_1 : Int) := za
   have q102 : x3_1 < (l0.length : Int) := za
   obtain ⟨ad102, A102_11, c102_11, e102, hx102_0, hx102_1, hx102_2, hx102_3, hx102_4, hx102_5, hx102_6, hx102_7, hx102_8, hx102_9, hx102_10, hx102_11, hl102_11, hi102_11⟩ := at_T36 HR0.out x3_1 p102 q102
   obtain rfl : ad101 = ad102 := (by injection e102)
   have HR102_11 := Aside0.mk hi102_11; have HC102_11 := Aside0.mk hl102_11; clear hi102_11 hl102_11
   replace p102 := eq_true p102
   replace q102 := eq_true q102
   have ea_ := Option.some.inj (hx101_11.symm.trans hx102_11)
   injection ea_ with ea_ en_ ec_
   subst ea_; subst ec_; clear en_
   go_wp2
   go_roundg kj1
   case measure => have := HK1.out; have := HJ1.out; omega
   case rel => exact ⟨(wrap64 (x3_1 + 1)), zI, H', ⟨by have := HK1.out; have := HJ1.out; omega⟩, by repeat (first | exact Drawn0.refl _ | apply Drawn0.step)⟩
end Go.Proofs.YtnphnhkinjppjaaGreatDoor.Q
end

section
namespace Go.Proofs.YtnphnhkinjppjaaGreatDoor.Q
open Go.RowKit Go.Proofs.YtnphnhkinjppjaaGreatDoorW.PrintWords Go.Proofs.YtnphnhkinjppjaaGreatDoorW.PrintLast Go.Proofs.YtnphnhkinjppjaaGreatDoorW.PrintMore
attribute [local go_sem] max2_int min2_int max_two min_two max_three min_three max_four min_four
theorem eqA74 (d : Nat) (w : World) (x0 y0 : Int) (x1 y1 : Int) (x2 y2 : Int) :
    (Op.equalIn (d + 2) 74 (.agg #[.int .i64 x0, .int .i64 x1, .int .i64 x2]) (.agg #[.int .i64 y0, .int .i64 y1, .int .i64 y2])).run Tryz.prog w = .ok (x0 == y0 && (x1 == y1 && (x2 == y2))) w := by
  refine eqA_of Tryz.underlying74 (by kernel_rfl) ?_
  refine eqf_cons (by rfl) (by go_simp; rfl) (by go_simp; rfl) (by go_simp) ?_
  refine eqf_cons (by rfl) (by go_simp; rfl) (by go_simp; rfl) (by go_simp) ?_
  exact eqf_last (by rfl) (by go_simp; rfl) (by go_simp; rfl) (by go_simp)
end Go.Proofs.YtnphnhkinjppjaaGreatDoor.Q
end

section
set_option maxHeartbeats 8000000
set_option maxRecDepth 100000
namespace Go.Proofs.YtnphnhkinjppjaaGreatDoor.Q
open Go.RowKit Go.Proofs.YtnphnhkinjppjaaGreatDoorW.PrintWords Go.Proofs.YtnphnhkinjppjaaGreatDoorW.PrintLast Go.Proofs.YtnphnhkinjppjaaGreatDoorW.PrintMore
attribute [local go_sem] max2_int min2_int max_two min_two max_three min_three max_four min_four
attribute [local go_sem high] eqA33 eqA74
mutual
def r18_One.j0 : Nat → Bool → ByteArray → Bool → Int → Int → Int → Int → Int → Int → Int → Bool → Int → List (S74) → ByteArray → Bool → Int → Int → Int → Int → Int → Int → Int → Bool → Int → List (S74) → Option (Bool)
  | 0, _, _, _, _, _, _, _, _, _, _, _, _, _, _, _, _, _, _, _, _, _, _, _, _, _ => none
  | k + 1, x68, x388000, x388001, x388002, x388003, x388004, x388005, x388006, x388007, x388008, x388009, x388010, x388011, x389000, x389001, x389002, x389003, x389004, x389005, x389006, x389007, x389008, x389009, x389010, x389011 => if x68 = true then (some false) else (r18_One.l0 k 0 x388000 x388001 x388002 x388003 x388004 x388005 x388006 x388007 x388008 x388009 x388010 x388011 x389000 x389001 x389002 x389003 x389004 x389005 x389006 x389007 x389008 x389009 x389010 x389011)
def r18_One.l0 : Nat → Int → ByteArray → Bool → Int → Int → Int → Int → Int → Int → Int → Bool → Int → List (S74) → ByteArray → Bool → Int → Int → Int → Int → Int → Int → Int → Bool → Int → List (S74) → Option (Bool)
  | 0, _, _, _, _, _, _, _, _, _, _, _, _, _, _, _, _, _, _, _, _, _, _, _, _, _ => none
  | k + 1, x5, x388000, x388001, x388002, x388003, x388004, x388005, x388006, x388007, x388008, x388009, x388010, x388011, x389000, x389001, x389002, x389003, x389004, x389005, x389006, x389007, x389008, x389009, x389010, x389011 => if x5 < (x388011.length : Int) then (if 0 ≤ x5 then (if x5 < (x389011.length : Int) then (if (!(((rd_T74 x388011 x5).f0) == ((rd_T74 x389011 x5).f0)) || (!(((rd_T74 x388011 x5).f1) == ((rd_T74 x389011 x5).f1)) || (!(((rd_T74 x388011 x5).f2) == ((rd_T74 x389011 x5).f2))))) = true then (some false) else (r18_One.l0 k (wrap64 (x5 + 1)) x388000 x388001 x388002 x388003 x388004 x388005 x388006 x388007 x388008 x388009 x388010 x388011 x389000 x389001 x389002 x389003 x389004 x389005 x389006 x389007 x389008 x389009 x389010 x389011)) else (none)) else (none)) else (some true)
end
def r18_One.f (k : Nat) (a0_0 : ByteArray) (a0_1 : Bool) (a0_2 : Int) (a0_3 : Int) (a0_4 : Int) (a0_5 : Int) (a0_6 : Int) (a0_7 : Int) (a0_8 : Int) (a0_9 : Bool) (a0_10 : Int) (l0_11 : List (S74)) (a1_0 : ByteArray) (a1_1 : Bool) (a1_2 : Int) (a1_3 : Int) (a1_4 : Int) (a1_5 : Int) (a1_6 : Int) (a1_7 : Int) (a1_8 : Int) (a1_9 : Bool) (a1_10 : Int) (l1_11 : List (S74)) : Option (Bool) := if a0_0.toList = a1_0.toList then (if ((!(a0_1 == a1_1) || (!(a0_2 == a1_2) || (!(a0_3 == a1_3)))) || (!(a0_4 == a1_4))) = true then (r18_One.j0 k true a0_0 a0_1 a0_2 a0_3 a0_4 a0_5 a0_6 a0_7 a0_8 a0_9 a0_10 l0_11 a1_0 a1_1 a1_2 a1_3 a1_4 a1_5 a1_6 a1_7 a1_8 a1_9 a1_10 l1_11) else (if a0_5 = a1_5 then (if a0_6 = a1_6 then (if a0_7 = a1_7 then (if a0_8 = a1_8 then (if (a0_9 != a1_9) = true then (r18_One.j0 k true a0_0 a0_1 a0_2 a0_3 a0_4 a0_5 a0_6 a0_7 a0_8 a0_9 a0_10 l0_11 a1_0 a1_1 a1_2 a1_3 a1_4 a1_5 a1_6 a1_7 a1_8 a1_9 a1_10 l1_11) else (if a0_10 = a1_10 then (r18_One.j0 k ((l0_11.length : Int) != (l1_11.length : Int)) a0_0 a0_1 a0_2 a0_3 a0_4 a0_5 a0_6 a0_7 a0_8 a0_9 a0_10 l0_11 a1_0 a1_1 a1_2 a1_3 a1_4 a1_5 a1_6 a1_7 a1_8 a1_9 a1_10 l1_11) else (r18_One.j0 k true a0_0 a0_1 a0_2 a0_3 a0_4 a0_5 a0_6 a0_7 a0_8 a0_9 a0_10 l0_11 a1_0 a1_1 a1_2 a1_3 a1_4 a1_5 a1_6 a1_7 a1_8 a1_9 a1_10 l1_11))) else (r18_One.j0 k true a0_0 a0_1 a0_2 a0_3 a0_4 a0_5 a0_6 a0_7 a0_8 a0_9 a0_10 l0_11 a1_0 a1_1 a1_2 a1_3 a1_4 a1_5 a1_6 a1_7 a1_8 a1_9 a1_10 l1_11)) else (r18_One.j0 k true a0_0 a0_1 a0_2 a0_3 a0_4 a0_5 a0_6 a0_7 a0_8 a0_9 a0_10 l0_11 a1_0 a1_1 a1_2 a1_3 a1_4 a1_5 a1_6 a1_7 a1_8 a1_9 a1_10 l1_11)) else (r18_One.j0 k true a0_0 a0_1 a0_2 a0_3 a0_4 a0_5 a0_6 a0_7 a0_8 a0_9 a0_10 l0_11 a1_0 a1_1 a1_2 a1_3 a1_4 a1_5 a1_6 a1_7 a1_8 a1_9 a1_10 l1_11)) else (r18_One.j0 k true a0_0 a0_1 a0_2 a0_3 a0_4 a0_5 a0_6 a0_7 a0_8 a0_9 a0_10 l0_11 a1_0 a1_1 a1_2 a1_3 a1_4 a1_5 a1_6 a1_7 a1_8 a1_9 a1_10 l1_11))) else (r18_One.j0 k true a0_0 a0_1 a0_2 a0_3 a0_4 a0_5 a0_6 a0_7 a0_8 a0_9 a0_10 l0_11 a1_0 a1_1 a1_2 a1_3 a1_4 a1_5 a1_6 a1_7 a1_8 a1_9 a1_10 l1_11)
theorem r18_One.mono_l : ∀ k, (∀ y0 y1 y2 y3 y4 y5 y6 y7 y8 y9 y10 y11 y12 y13 y14 y15 y16 y17 y18 y19 y20 y21 y22 y23 y24, LeO (r18_One.j0 k y0 y1 y2 y3 y4 y5 y6 y7 y8 y9 y10 y11 y12 y13 y14 y15 y16 y17 y18 y19 y20 y21 y22 y23 y24) (r18_One.j0 (k + 1) y0 y1 y2 y3 y4 y5 y6 y7 y8 y9 y10 y11 y12 y13 y14 y15 y16 y17 y18 y19 y20 y21 y22 y23 y24)) ∧ (∀ y0 y1 y2 y3 y4 y5 y6 y7 y8 y9 y10 y11 y12 y13 y14 y15 y16 y17 y18 y19 y20 y21 y22 y23 y24, LeO (r18_One.l0 k y0 y1 y2 y3 y4 y5 y6 y7 y8 y9 y10 y11 y12 y13 y14 y15 y16 y17 y18 y19 y20 y21 y22 y23 y24) (r18_One.l0 (k + 1) y0 y1 y2 y3 y4 y5 y6 y7 y8 y9 y10 y11 y12 y13 y14 y15 y16 y17 y18 y19 y20 y21 y22 y23 y24))
  | 0 => ⟨fun _ _ _ _ _ _ _ _ _ _ _ _ _ _ _ _ _ _ _ _ _ _ _ _ _ r h => by simp [r18_One.j0] at h, fun _ _ _ _ _ _ _ _ _ _ _ _ _ _ _ _ _ _ _ _ _ _ _ _ _ r h => by simp [r18_One.l0] at h⟩
  | k + 1 => by
    obtain ⟨ih0, ih1⟩ := r18_One.mono_l k
    refine ⟨?_, ?_⟩
    · intro y0 y1 y2 y3 y4 y5 y6 y7 y8 y9 y10 y11 y12 y13 y14 y15 y16 y17 y18 y19 y20 y21 y22 y23 y24
      unfold r18_One.j0
      repeat' first
      | (with_reducible exact ih0 _ _ _ _ _ _ _ _ _ _ _ _ _ _ _ _ _ _ _ _ _ _ _ _ _)
      | (with_reducible exact ih1 _ _ _ _ _ _ _ _ _ _ _ _ _ _ _ _ _ _ _ _ _ _ _ _ _)
      | (with_reducible exact LeO.refl _)
      | (with_reducible exact LeO.none _)
      | (with_reducible refine LeO.ite ?_ ?_)
      | (with_reducible refine LeO.bind ?_ (fun _ => ?_))
    · intro y0 y1 y2 y3 y4 y5 y6 y7 y8 y9 y10 y11 y12 y13 y14 y15 y16 y17 y18 y19 y20 y21 y22 y23 y24
      unfold r18_One.l0
      repeat' first
      | (with_reducible exact ih0 _ _ _ _ _ _ _ _ _ _ _ _ _ _ _ _ _ _ _ _ _ _ _ _ _)
      | (with_reducible exact ih1 _ _ _ _ _ _ _ _ _ _ _ _ _ _ _ _ _ _ _ _ _ _ _ _ _)
      | (with_reducible exact LeO.refl _)
      | (with_reducible exact LeO.none _)
      | (with_reducible refine LeO.ite ?_ ?_)
      | (with_reducible refine LeO.bind ?_ (fun _ => ?_))
theorem r18_One.mono : ∀ a0 a1 a2 a3 a4 a5 a6 a7 a8 a9 a10 a11 a12 a13 a14 a15 a16 a17 a18 a19 a20 a21 a22 a23 k, LeO (r18_One.f k a0 a1 a2 a3 a4 a5 a6 a7 a8 a9 a10 a11 a12 a13 a14 a15 a16 a17 a18 a19 a20 a21 a22 a23) (r18_One.f (k + 1) a0 a1 a2 a3 a4 a5 a6 a7 a8 a9 a10 a11 a12 a13 a14 a15 a16 a17 a18 a19 a20 a21 a22 a23) := by
  intro a0 a1 a2 a3 a4 a5 a6 a7 a8 a9 a10 a11 a12 a13 a14 a15 a16 a17 a18 a19 a20 a21 a22 a23 k
  obtain ⟨ih0, ih1⟩ := r18_One.mono_l k
  unfold r18_One.f
  repeat' first
      | (with_reducible exact ih0 _ _ _ _ _ _ _ _ _ _ _ _ _ _ _ _ _ _ _ _ _ _ _ _ _)
      | (with_reducible exact ih1 _ _ _ _ _ _ _ _ _ _ _ _ _ _ _ _ _ _ _ _ _ _ _ _ _)
      | (with_reducible exact LeO.refl _)
      | (with_reducible exact LeO.none _)
      | (with_reducible refine LeO.ite ?_ ?_)
      | (with_reducible refine LeO.bind ?_ (fun _ => ?_))
theorem r18_One.calls (k : Nat) (a0_0 : ByteArray) (a0_1 : Bool) (a0_2 : Int) (a0_3 : Int) (a0_4 : Int) (a0_5 : Int) (a0_6 : Int) (a0_7 : Int) (a0_8 : Int) (a0_9 : Bool) (a0_10 : Int) (A0_11 : Option Addr) (c0_11 : Nat) (l0_11 : List (S74)) (a1_0 : ByteArray) (a1_1 : Bool) (a1_2 : Int) (a1_3 : Int) (a1_4 : Int) (a1_5 : Int) (a1_6 : Int) (a1_7 : Int) (a1_8 : Int) (a1_9 : Bool) (a1_10 : Int) (A1_11 : Option Addr) (c1_11 : Nat) (l1_11 : List (S74)) (r : Bool) (w : World) (hr0_11 : Kd.C k74 w A0_11 l0_11.length l0_11) (hc0_11 : l0_11.length ≤ c0_11) (hr1_11 : Kd.C k74 w A1_11 l1_11.length l1_11) (hc1_11 : l1_11.length ≤ c1_11) (h : r18_One.f k a0_0 a0_1 a0_2 a0_3 a0_4 a0_5 a0_6 a0_7 a0_8 a0_9 a0_10 l0_11 a1_0 a1_1 a1_2 a1_3 a1_4 a1_5 a1_6 a1_7 a1_8 a1_9 a1_10 l1_11 = some r) :
 Calls Tryz.prog 16 #[.agg #[.string a0_0, .bool a0_1, .int .u64 a0_2, .int .u64 a0_3, .int .i64 a0_4, .int .i64 a0_5, .int .i64 a0_6, .int .i64 a0_7, .int .i64 a0_8, .bool a0_9, .int .i64 a0_10, .slice A0_11 l0_11.length c0_11], .agg #[.string a1_0, .bool a1_1, .int .u64 a1_2, .int .u64 a1_3, .int .i64 a1_4, .int .i64 a1_5, .int .i64 a1_6, .int .i64 a1_7, .int .i64 a1_8, .bool a1_9, .int .i64 a1_10, .slice A1_11 l1_11.length c1_11]] w fun e w' => e = .returned (.bool r) ∧ Below w.heap.size w w' := by
 have hu36 := Tryz.underlying36
 have hu33 := Tryz.underlying33
 have hu74 := Tryz.underlying74
 have HR0_11 := Aside0.mk hr0_11; have HC0_11 := Aside0.mk hc0_11; clear hr0_11 hc0_11; have HR1_11 := Aside0.mk hr1_11; have HC1_11 := Aside0.mk hc1_11; clear hr1_11 hc1_11; have HB := Aside0.mk (Below.refl w.heap.size w)
 unfold r18_One.f at h; have H := h
 clear h; have HC3 := Aside0.mk H; clear H
 go_enter Tryz.func16, Tryz.ntmps16
 go_upto_region 1 with (first | ((with_reducible refine gate_dst (N := 2) rfl ?_); (try (refine gate_guard (by rfl) ?_; dsimp only)); refine zx 2 #[.string a0_0, .bool a0_1, .int .u64 a0_2, .int .u64 a0_3, .int .i64 a0_4, .int .i64 a0_5, .int .i64 a0_6, .int .i64 a0_7, .int .i64 a0_8, .bool a0_9, .int .i64 a0_10, .slice A0_11 l0_11.length c0_11] 36 ?_; intro gb387 hg w4 hbox hb; have BK387 := Aside0.mk (hbox); have GW387 := zG HB hg; have GE387 := zG HB hg; replace HB := Aside0.mk (below_step (zB HB) hb); clear hb hbox hg) | ((with_reducible refine gate_dst (N := 3) rfl ?_); (try (refine gate_guard (by rfl) ?_; dsimp only)); refine zx 3 #[.string a1_0, .bool a1_1, .int .u64 a1_2, .int .u64 a1_3, .int .i64 a1_4, .int .i64 a1_5, .int .i64 a1_6, .int .i64 a1_7, .int .i64 a1_8, .bool a1_9, .int .i64 a1_10, .slice A1_11 l1_11.length c1_11] 36 ?_; intro gb388 hg w5 hbox hb; have BK388 := Aside0.mk (hbox); have GW388 := zG HB hg; have GE388 := zG HB hg; replace HB := Aside0.mk (below_step (zB HB) hb); have NB387_388 := Aside0.mk ((by rw [hg]; exact Nat.ne_of_lt (blk_lt (g := gb387) (o := .cells #[.string a0_0, .bool a0_1, .int .u64 a0_2, .int .u64 a0_3, .int .i64 a0_4, .int .i64 a0_5, .int .i64 a0_6, .int .i64 a0_7, .int .i64 a0_8, .bool a0_9, .int .i64 a0_10, .slice A0_11 l0_11.length c0_11] 36 (0, 0)) (zK BK387)) : gb387 ≠ gb388)); have NB388_387 := Aside0.mk ((by rw [hg]; exact Nat.ne_of_gt (blk_lt (g := gb387) (o := .cells #[.string a0_0, .bool a0_1, .int .u64 a0_2, .int .u64 a0_3, .int .i64 a0_4, .int .i64 a0_5, .int .i64 a0_6, .int .i64 a0_7, .int .i64 a0_8, .bool a0_9, .int .i64 a0_10, .slice A0_11 l0_11.length c0_11] 36 (0, 0)) (zK BK387)) : gb388 ≠ gb387)); replace BK387 := zkb BK387 hb; clear hb hbox hg))
 repeat (go_quiet (first | ((with_reducible refine gate_dst (N := 2) rfl ?_); (try (refine gate_guard (by rfl) ?_; dsimp only)); refine zx 2 #[.string a0_0, .bool a0_1, .int .u64 a0_2, .int .u64 a0_3, .int .i64 a0_4, .int .i64 a0_5, .int .i64 a0_6, .int .i64 a0_7, .int .i64 a0_8, .bool a0_9, .int .i64 a0_10, .slice A0_11 l0_11.length c0_11] 36 ?_; intro gb387 hg w4 hbox hb; have BK387 := Aside0.mk (hbox); have GW387 := zG HB hg; have GE387 := zG HB hg; replace HB := Aside0.mk (below_step (zB HB) hb); clear hb hbox hg) | ((with_reducible refine gate_dst (N := 3) rfl ?_); (try (refine gate_guard (by rfl) ?_; dsimp only)); refine zx 3 #[.string a1_0, .bool a1_1, .int .u64 a1_2, .int .u64 a1_3, .int .i64 a1_4, .int .i64 a1_5, .int .i64 a1_6, .int .i64 a1_7, .int .i64 a1_8, .bool a1_9, .int .i64 a1_10, .slice A1_11 l1_11.length c1_11] 36 ?_; intro gb388 hg w5 hbox hb; have BK388 := Aside0.mk (hbox); have GW388 := zG HB hg; have GE388 := zG HB hg; replace HB := Aside0.mk (below_step (zB HB) hb); have NB387_388 := Aside0.mk ((by rw [hg]; exact Nat.ne_of_lt (blk_lt (g := gb387) (o := .cells #[.string a0_0, .bool a0_1, .int .u64 a0_2, .int .u64 a0_3, .int .i64 a0_4, .int .i64 a0_5, .int .i64 a0_6, .int .i64 a0_7, .int .i64 a0_8, .bool a0_9, .int .i64 a0_10, .slice A0_11 l0_11.length c0_11] 36 (0, 0)) (zK BK387)) : gb387 ≠ gb388)); have NB388_387 := Aside0.mk ((by rw [hg]; exact Nat.ne_of_gt (blk_lt (g := gb387) (o := .cells #[.string a0_0, .bool a0_1, .int .u64 a0_2, .int .u64 a0_3, .int .i64 a0_4, .int .i64 a0_5, .int .i64 a0_6, .int .i64 a0_7, .int .i64 a0_8, .bool a0_9, .int .i64 a0_10, .slice A0_11 l0_11.length c0_11] 36 (0, 0)) (zK BK387)) : gb388 ≠ gb387)); replace BK387 := zkb BK387 hb; clear hb hbox hg)); go_upto_region 1 with (first | ((with_reducible refine gate_dst (N := 2) rfl ?_); (try (refine gate_guard (by rfl) ?_; dsimp only)); refine zx 2 #[.string a0_0, .bool a0_1, .int .u64 a0_2, .int .u64 a0_3, .int .i64 a0_4, .int .i64 a0_5, .int .i64 a0_6, .int .i64 a0_7, .int .i64 a0_8, .bool a0_9, .int .i64 a0_10, .slice A0_11 l0_11.length c0_11] 36 ?_; intro gb387 hg w4 hbox hb; have BK387 := Aside0.mk (hbox); have GW387 := zG HB hg; have GE387 := zG HB hg; replace HB := Aside0.mk (below_step (zB HB) hb); clear hb hbox hg) | ((with_reducible refine gate_dst (N := 3) rfl ?_); (try (refine gate_guard (by rfl) ?_; dsimp only)); refine zx 3 #[.string a1_0, .bool a1_1, .int .u64 a1_2, .int .u64 a1_3, .int .i64 a1_4, .int .i64 a1_5, .int .i64 a1_6, .int .i64 a1_7, .int .i64 a1_8, .bool a1_9, .int .i64 a1_10, .slice A1_11 l1_11.length c1_11] 36 ?_; intro gb388 hg w5 hbox hb; have BK388 := Aside0.mk (hbox); have GW388 := zG HB hg; have GE388 := zG HB hg; replace HB := Aside0.mk (below_step (zB HB) hb); have NB387_388 := Aside0.mk ((by rw [hg]; exact Nat.ne_of_lt (blk_lt (g := gb387) (o := .cells #[.string a0_0, .bool a0_1, .int .u64 a0_2, .int .u64 a0_3, .int .i64 a0_4, .int .i64 a0_5, .int .i64 a0_6, .int .i64 a0_7, .int .i64 a0_8, .bool a0_9, .int .i64 a0_10, .slice A0_11 l0_11.length c0_11] 36 (0, 0)) (zK BK387)) : gb387 ≠ gb388)); have NB388_387 := Aside0.mk ((by rw [hg]; exact Nat.ne_of_gt (blk_lt (g := gb387) (o := .cells #[.string a0_0, .bool a0_1, .int .u64 a0_2, .int .u64 a0_3, .int .i64 a0_4, .int .i64 a0_5, .int .i64 a0_6, .int .i64 a0_7, .int .i64 a0_8, .bool a0_9, .int .i64 a0_10, .slice A0_11 l0_11.length c0_11] 36 (0, 0)) (zK BK387)) : gb388 ≠ gb387)); replace BK387 := zkb BK387 hb; clear hb hbox hg)))
 (try simp only [Act.put, List.setIfInBounds_toArray, List.set_cons_zero, List.set_cons_succ])
 go_cut [68] (fun v68 wc => ∃ (kq : Nat) (x68_2 : Bool), v68 = .bool x68_2 ∧ Aside0 (r18_One.j0 kq x68_2 a0_0 a0_1 a0_2 a0_3 a0_4 a0_5 a0_6 a0_7 a0_8 a0_9 a0_10 l0_11 a1_0 a1_1 a1_2 a1_3 a1_4 a1_5 a1_6 a1_7 a1_8 a1_9 a1_10 l1_11 = some r) ∧ Aside0 (kq ≤ k) ∧ Aside0 (wc.heap[gb387]? = some (.cells #[.string a0_0, .bool a0_1, .int .u64 a0_2, .int .u64 a0_3, .int .i64 a0_4, .int .i64 a0_5, .int .i64 a0_6, .int .i64 a0_7, .int .i64 a0_8, .bool a0_9, .int .i64 a0_10, (.slice A0_11 l0_11.length c0_11)] 36 (0, 0))) ∧ Aside0 (wc.heap[gb388]? = some (.cells #[.string a1_0, .bool a1_1, .int .u64 a1_2, .int .u64 a1_3, .int .i64 a1_4, .int .i64 a1_5, .int .i64 a1_6, .int .i64 a1_7, .int .i64 a1_8, .bool a1_9, .int .i64 a1_10, (.slice A1_11 l1_11.length c1_11)] 36 (0, 0))) ∧ Aside0 (Below w.heap.size w wc))
 case first =>
  have H := HC3.out
  clear HC3
  by_cases c6 : a0_0.toList = a1_0.toList
  rotate_left
  · rw [if_neg c6] at H
    have c6b0 : (a0_0.toList == a1_0.toList) = false := beq_eq_false_iff_ne.mpr c6
    have c6b1 : (a0_0.toList != a1_0.toList) = true := bne_iff_ne.mpr c6
    (first | rw [c6b0] | (simp only [i64_w, i32_w]; rw [c6b0]) | skip)
    have H' := Aside0.mk H
    clear H
    have hnb38 := NB387_388.out
    have hnc38 := NB388_387.out
    obtain ⟨hcz39_0, hcz39_1, hcz39_2, hcz39_3, hcz39_4, hcz39_5, hcz39_6, hcz39_7, hcz39_8, hcz39_9, hcz39_10, hcz39_11⟩ := zc12 BK387; obtain ⟨hfz39_0, hfz39_1, hfz39_2, hfz39_3, hfz39_4, hfz39_5, hfz39_6, hfz39_7, hfz39_8, hfz39_9, hfz39_10, hfz39_11⟩ := zf12 BK387; obtain ⟨hcz40_0, hcz40_1, hcz40_2, hcz40_3, hcz40_4, hcz40_5, hcz40_6, hcz40_7, hcz40_8, hcz40_9, hcz40_10, hcz40_11⟩ := zc12 BK388; obtain ⟨hfz40_0, hfz40_1, hfz40_2, hfz40_3, hfz40_4, hfz40_5, hfz40_6, hfz40_7, hfz40_8, hfz40_9, hfz40_10, hfz40_11⟩ := zf12 BK388
    go_wp2
    repeat (go_quiet (fail); try go_wp2)
    go_meet
    case rel => exact ⟨_, (true), zI, H', ⟨by first | omega | exact Nat.le_refl _⟩, ⟨zK BK387⟩, ⟨zK BK388⟩, ⟨zB HB⟩⟩
  rw [if_pos c6] at H
  have c6b0 : (a0_0.toList == a1_0.toList) = true := beq_iff_eq.mpr c6; have c6b1 : (a0_0.toList != a1_0.toList) = false := bne_eq_false_iff_eq.mpr c6; clear c6
  (first | rw [c6b0] | (simp only [i64_w, i32_w]; rw [c6b0]) | skip)
  by_cases c7 : ((!(a0_1 == a1_1) || (!(a0_2 == a1_2) || (!(a0_3 == a1_3)))) || (!(a0_4 == a1_4))) = true
  · rw [if_pos c7] at H
    have c7b0 : ((!(a0_1 == a1_1) || (!(a0_2 == a1_2) || (!(a0_3 == a1_3)))) || (!(a0_4 == a1_4))) = true := c7
    clear c7
    have H' := Aside0.mk H
    clear H
    have hnb8 := NB387_388.out
    have hnc8 := NB388_387.out
    obtain ⟨hcz9_0, hcz9_1, hcz9_2, hcz9_3, hcz9_4, hcz9_5, hcz9_6, hcz9_7, hcz9_8, hcz9_9, hcz9_10, hcz9_11⟩ := zc12 BK387; obtain ⟨hfz9_0, hfz9_1, hfz9_2, hfz9_3, hfz9_4, hfz9_5, hfz9_6, hfz9_7, hfz9_8, hfz9_9, hfz9_10, hfz9_11⟩ := zf12 BK387; obtain ⟨hcz10_0, hcz10_1, hcz10_2, hcz10_3, hcz10_4, hcz10_5, hcz10_6, hcz10_7, hcz10_8, hcz10_9, hcz10_10, hcz10_11⟩ := zc12 BK388; obtain ⟨hfz10_0, hfz10_1, hfz10_2, hfz10_3, hfz10_4, hfz10_5, hfz10_6, hfz10_7, hfz10_8, hfz10_9, hfz10_10, hfz10_11⟩ := zf12 BK388
    go_wp2
    repeat (go_quiet (fail); try go_wp2)
    go_meet
    case rel => exact ⟨_, (true), zI, H', ⟨by first | omega | exact Nat.le_refl _⟩, ⟨zK BK387⟩, ⟨zK BK388⟩, ⟨zB HB⟩⟩
  rw [if_neg c7] at H
  have c7b0 : ((!(a0_1 == a1_1) || (!(a0_2 == a1_2) || (!(a0_3 == a1_3)))) || (!(a0_4 == a1_4))) = false := by simpa using c7
  clear c7
  by_cases c11 : a0_5 = a1_5
  rotate_left
  · rw [if_neg c11] at H
    have c11b0 : (a0_5 == a1_5) = false := beq_eq_false_iff_ne.mpr c11
    have c11b1 : (a0_5 != a1_5) = true := bne_iff_ne.mpr c11
    have H' := Aside0.mk H
    clear H
    have hnb35 := NB387_388.out
    have hnc35 := NB388_387.out
    obtain ⟨hcz36_0, hcz36_1, hcz36_2, hcz36_3, hcz36_4, hcz36_5, hcz36_6, hcz36_7, hcz36_8, hcz36_9, hcz36_10, hcz36_11⟩ := zc12 BK387; obtain ⟨hfz36_0, hfz36_1, hfz36_2, hfz36_3, hfz36_4, hfz36_5, hfz36_6, hfz36_7, hfz36_8, hfz36_9, hfz36_10, hfz36_11⟩ := zf12 BK387; obtain ⟨hcz37_0, hcz37_1, hcz37_2, hcz37_3, hcz37_4, hcz37_5, hcz37_6, hcz37_7, hcz37_8, hcz37_9, hcz37_10, hcz37_11⟩ := zc12 BK388; obtain ⟨hfz37_0, hfz37_1, hfz37_2, hfz37_3, hfz37_4, hfz37_5, hfz37_6, hfz37_7, hfz37_8, hfz37_9, hfz37_10, hfz37_11⟩ := zf12 BK388
    go_wp2
    repeat (go_quiet (fail); try go_wp2)
    go_meet
    case rel => exact ⟨_, (true), zI, H', ⟨by first | omega | exact Nat.le_refl _⟩, ⟨zK BK387⟩, ⟨zK BK388⟩, ⟨zB HB⟩⟩
  rw [if_pos c11] at H
  have c11b0 : (a0_5 == a1_5) = true := beq_iff_eq.mpr c11; have c11b1 : (a0_5 != a1_5) = false := bne_eq_false_iff_eq.mpr c11; clear c11
  by_cases c12 : a0_6 = a1_6
  rotate_left
  · rw [if_neg c12] at H
    have c12b0 : (a0_6 == a1_6) = false := beq_eq_false_iff_ne.mpr c12
    have c12b1 : (a0_6 != a1_6) = true := bne_iff_ne.mpr c12
    have H' := Aside0.mk H
    clear H
    have hnb32 := NB387_388.out
    have hnc32 := NB388_387.out
    obtain ⟨hcz33_0, hcz33_1, hcz33_2, hcz33_3, hcz33_4, hcz33_5, hcz33_6, hcz33_7, hcz33_8, hcz33_9, hcz33_10, hcz33_11⟩ := zc12 BK387; obtain ⟨hfz33_0, hfz33_1, hfz33_2, hfz33_3, hfz33_4, hfz33_5, hfz33_6, hfz33_7, hfz33_8, hfz33_9, hfz33_10, hfz33_11⟩ := zf12 BK387; obtain ⟨hcz34_0, hcz34_1, hcz34_2, hcz34_3, hcz34_4, hcz34_5, hcz34_6, hcz34_7, hcz34_8, hcz34_9, hcz34_10, hcz34_11⟩ := zc12 BK388; obtain ⟨hfz34_0, hfz34_1, hfz34_2, hfz34_3, hfz34_4, hfz34_5, hfz34_6, hfz34_7, hfz34_8, hfz34_9, hfz34_10, hfz34_11⟩ := zf12 BK388
    go_wp2
    repeat (go_quiet (fail); try go_wp2)
    go_meet
    case rel => exact ⟨_, (true), zI, H', ⟨by first | omega | exact Nat.le_refl _⟩, ⟨zK BK387⟩, ⟨zK BK388⟩, ⟨zB HB⟩⟩
  rw [if_pos c12] at H
  have c12b0 : (a0_6 == a1_6) = true := beq_iff_eq.mpr c12; have c12b1 : (a0_6 != a1_6) = false := bne_eq_false_iff_eq.mpr c12; clear c12
  by_cases c13 : a0_7 = a1_7
  rotate_left
  · rw [if_neg c13] at H
    have c13b0 : (a0_7 == a1_7) = false := beq_eq_false_iff_ne.mpr c13
    have c13b1 : (a0_7 != a1_7) = true := bne_iff_ne.mpr c13
    have H' := Aside0.mk H
    clear H
    have hnb29 := NB387_388.out
    have hnc29 := NB388_387.out
    obtain ⟨hcz30_0, hcz30_1, hcz30_2, hcz30_3, hcz30_4, hcz30_5, hcz30_6, hcz30_7, hcz30_8, hcz30_9, hcz30_10, hcz30_11⟩ := zc12 BK387; obtain ⟨hfz30_0, hfz30_1, hfz30_2, hfz30_3, hfz30_4, hfz30_5, hfz30_6, hfz30_7, hfz30_8, hfz30_9, hfz30_10, hfz30_11⟩ := zf12 BK387; obtain ⟨hcz31_0, hcz31_1, hcz31_2, hcz31_3, hcz31_4, hcz31_5, hcz31_6, hcz31_7, hcz31_8, hcz31_9, hcz31_10, hcz31_11⟩ := zc12 BK388; obtain ⟨hfz31_0, hfz31_1, hfz31_2, hfz31_3, hfz31_4, hfz31_5, hfz31_6, hfz31_7, hfz31_8, hfz31_9, hfz31_10, hfz31_11⟩ := zf12 BK388
    go_wp2
    repeat (go_quiet (fail); try go_wp2)
    go_meet
    case rel => exact ⟨_, (true), zI, H', ⟨by first | omega | exact Nat.le_refl _⟩, ⟨zK BK387⟩, ⟨zK BK388⟩, ⟨zB HB⟩⟩
  rw [if_pos c13] at H
  have c13b0 : (a0_7 == a1_7) = true := beq_iff_eq.mpr c13; have c13b1 : (a0_7 != a1_7) = false := bne_eq_false_iff_eq.mpr c13; clear c13
  by_cases c14 : a0_8 = a1_8
  rotate_left
  · rw [if_neg c14] at H
    have c14b0 : (a0_8 == a1_8) = false := beq_eq_false_iff_ne.mpr c14
    have c14b1 : (a0_8 != a1_8) = true := bne_iff_ne.mpr c14
    have H' := Aside0.mk H
    clear H
    have hnb26 := NB387_388.out
    have hnc26 := NB388_387.out
    obtain ⟨hcz27_0, hcz27_1, hcz27_2, hcz27_3, hcz27_4, hcz27_5, hcz27_6, hcz27_7, hcz27_8, hcz27_9, hcz27_10, hcz27_11⟩ := zc12 BK387; obtain ⟨hfz27_0, hfz27_1, hfz27_2, hfz27_3, hfz27_4, hfz27_5, hfz27_6, hfz27_7, hfz27_8, hfz27_9, hfz27_10, hfz27_11⟩ := zf12 BK387; obtain ⟨hcz28_0, hcz28_1, hcz28_2, hcz28_3, hcz28_4, hcz28_5, hcz28_6, hcz28_7, hcz28_8, hcz28_9, hcz28_10, hcz28_11⟩ := zc12 BK388; obtain ⟨hfz28_0, hfz28_1, hfz28_2, hfz28_3, hfz28_4, hfz28_5, hfz28_6, hfz28_7, hfz28_8, hfz28_9, hfz28_10, hfz28_11⟩ := zf12 BK388
    go_wp2
    repeat (go_quiet (fail); try go_wp2)
    go_meet
    case rel => exact ⟨_, (true), zI, H', ⟨by first | omega | exact Nat.le_refl _⟩, ⟨zK BK387⟩, ⟨zK BK388⟩, ⟨zB HB⟩⟩
  rw [if_pos c14] at H
  have c14b0 : (a0_8 == a1_8) = true := beq_iff_eq.mpr c14; have c14b1 : (a0_8 != a1_8) = false := bne_eq_false_iff_eq.mpr c14; clear c14
  by_cases c15 : (a0_9 != a1_9) = true
  · rw [if_pos c15] at H
    have c15b0 : (a0_9 != a1_9) = true := c15
    (try (have c15b1 : decide (a0_9 = a1_9) = false := by first | (simpa using c15) | exact decide_eq_true (Decidable.not_not.1 (fun hn => c15 (bne_iff_ne.2 hn))) | exact beq_iff_eq.2 (Decidable.not_not.1 (fun hn => c15 (bne_iff_ne.2 hn))) | exact decide_eq_false (bne_iff_ne.1 c15) | exact beq_eq_false_iff_ne.2 (bne_iff_ne.1 c15) | exact bne_iff_ne.1 c15))
    (try (have c15b2 : (a0_9 == a1_9) = false := by first | (simpa using c15) | exact decide_eq_true (Decidable.not_not.1 (fun hn => c15 (bne_iff_ne.2 hn))) | exact beq_iff_eq.2 (Decidable.not_not.1 (fun hn => c15 (bne_iff_ne.2 hn))) | exact decide_eq_false (bne_iff_ne.1 c15) | exact beq_eq_false_iff_ne.2 (bne_iff_ne.1 c15) | exact bne_iff_ne.1 c15))
    (try (have c15b3 : ¬ (a0_9 = a1_9) := by first | (simpa using c15) | exact decide_eq_true (Decidable.not_not.1 (fun hn => c15 (bne_iff_ne.2 hn))) | exact beq_iff_eq.2 (Decidable.not_not.1 (fun hn => c15 (bne_iff_ne.2 hn))) | exact decide_eq_false (bne_iff_ne.1 c15) | exact beq_eq_false_iff_ne.2 (bne_iff_ne.1 c15) | exact bne_iff_ne.1 c15))
    clear c15
    have H' := Aside0.mk H
    clear H
    have hnb16 := NB387_388.out
    have hnc16 := NB388_387.out
    obtain ⟨hcz17_0, hcz17_1, hcz17_2, hcz17_3, hcz17_4, hcz17_5, hcz17_6, hcz17_7, hcz17_8, hcz17_9, hcz17_10, hcz17_11⟩ := zc12 BK387; obtain ⟨hfz17_0, hfz17_1, hfz17_2, hfz17_3, hfz17_4, hfz17_5, hfz17_6, hfz17_7, hfz17_8, hfz17_9, hfz17_10, hfz17_11⟩ := zf12 BK387; obtain ⟨hcz18_0, hcz18_1, hcz18_2, hcz18_3, hcz18_4, hcz18_5, hcz18_6, hcz18_7, hcz18_8, hcz18_9, hcz18_10, hcz18_11⟩ := zc12 BK388; obtain ⟨hfz18_0, hfz18_1, hfz18_2, hfz18_3, hfz18_4, hfz18_5, hfz18_6, hfz18_7, hfz18_8, hfz18_9, hfz18_10, hfz18_11⟩ := zf12 BK388
    go_wp2
    repeat (go_quiet (fail); try go_wp2)
    go_meet
    case rel => exact ⟨_, (true), zI, H', ⟨by first | omega | exact Nat.le_refl _⟩, ⟨zK BK387⟩, ⟨zK BK388⟩, ⟨zB HB⟩⟩
  rw [if_neg c15] at H
  have c15b0 : (a0_9 != a1_9) = false := by simpa using c15
  (try (have c15b1 : decide (a0_9 = a1_9) = true := by first | (simpa using c15) | exact decide_eq_true (Decidable.not_not.1 (fun hn => c15 (bne_iff_ne.2 hn))) | exact beq_iff_eq.2 (Decidable.not_not.1 (fun hn => c15 (bne_iff_ne.2 hn))) | exact decide_eq_false (bne_iff_ne.1 c15) | exact beq_eq_false_iff_ne.2 (bne_iff_ne.1 c15) | exact bne_iff_ne.1 c15))
  (try (have c15b2 : (a0_9 == a1_9) = true := by first | (simpa using c15) | exact decide_eq_true (Decidable.not_not.1 (fun hn => c15 (bne_iff_ne.2 hn))) | exact beq_iff_eq.2 (Decidable.not_not.1 (fun hn => c15 (bne_iff_ne.2 hn))) | exact decide_eq_false (bne_iff_ne.1 c15) | exact beq_eq_false_iff_ne.2 (bne_iff_ne.1 c15) | exact bne_iff_ne.1 c15))
  clear c15
  by_cases c19 : a0_10 = a1_10
  · rw [if_pos c19] at H
    have c19b0 : (a0_10 == a1_10) = true := beq_iff_eq.mpr c19; have c19b1 : (a0_10 != a1_10) = false := bne_eq_false_iff_eq.mpr c19; clear c19
    have H' := Aside0.mk H
    clear H
    have hnb20 := NB387_388.out
    have hnc20 := NB388_387.out
    obtain ⟨hcz21_0, hcz21_1, hcz21_2, hcz21_3, hcz21_4, hcz21_5, hcz21_6, hcz21_7, hcz21_8, hcz21_9, hcz21_10, hcz21_11⟩ := zc12 BK387; obtain ⟨hfz21_0, hfz21_1, hfz21_2, hfz21_3, hfz21_4, hfz21_5, hfz21_6, hfz21_7, hfz21_8, hfz21_9, hfz21_10, hfz21_11⟩ := zf12 BK387; obtain ⟨hcz22_0, hcz22_1, hcz22_2, hcz22_3, hcz22_4, hcz22_5, hcz22_6, hcz22_7, hcz22_8, hcz22_9, hcz22_10, hcz22_11⟩ := zc12 BK388; obtain ⟨hfz22_0, hfz22_1, hfz22_2, hfz22_3, hfz22_4, hfz22_5, hfz22_6, hfz22_7, hfz22_8, hfz22_9, hfz22_10, hfz22_11⟩ := zf12 BK388
    go_wp2
    repeat (go_quiet (fail); try go_wp2)
    go_meet
    case rel => exact ⟨_, (((l0_11.length : Int) != (l1_11.length : Int))), zI, H', ⟨by first | omega | exact Nat.le_refl _⟩, ⟨zK BK387⟩, ⟨zK BK388⟩, ⟨zB HB⟩⟩
  rw [if_neg c19] at H
  have c19b0 : (a0_10 == a1_10) = false := beq_eq_false_iff_ne.mpr c19
  have c19b1 : (a0_10 != a1_10) = true := bne_iff_ne.mpr c19
  have H' := Aside0.mk H
  clear H
  have hnb23 := NB387_388.out
  have hnc23 := NB388_387.out
  obtain ⟨hcz24_0, hcz24_1, hcz24_2, hcz24_3, hcz24_4, hcz24_5, hcz24_6, hcz24_7, hcz24_8, hcz24_9, hcz24_10, hcz24_11⟩ := zc12 BK387; obtain ⟨hfz24_0, hfz24_1, hfz24_2, hfz24_3, hfz24_4, hfz24_5, hfz24_6, hfz24_7, hfz24_8, hfz24_9, hfz24_10, hfz24_11⟩ := zf12 BK387; obtain ⟨hcz25_0, hcz25_1, hcz25_2, hcz25_3, hcz25_4, hcz25_5, hcz25_6, hcz25_7, hcz25_8, hcz25_9, hcz25_10, hcz25_11⟩ := zc12 BK388; obtain ⟨hfz25_0, hfz25_1, hfz25_2, hfz25_3, hfz25_4, hfz25_5, hfz25_6, hfz25_7, hfz25_8, hfz25_9, hfz25_10, hfz25_11⟩ := zf12 BK388
  go_wp2
  repeat (go_quiet (fail); try go_wp2)
  go_meet
  case rel => exact ⟨_, (true), zI, H', ⟨by first | omega | exact Nat.le_refl _⟩, ⟨zK BK387⟩, ⟨zK BK388⟩, ⟨zB HB⟩⟩
 case rest =>
  clear HC3
  obtain ⟨kq, x68_2, rfl, HA, HJ2, BK387, BK388, HB⟩ := hcut
  rcases kq with _ | kj2
  · exact absurd HA.out (by simp [r18_One.j0])
  have H := HA.out
  clear HA
  simp only [r18_One.j0] at H
  by_cases c41 : x68_2 = true
  · subst c41
    rw [if_pos rfl] at H
    obtain rfl := Option.some.inj H
    go_wp2
    repeat (go_quiet (fail); try go_wp2)
    go_ret
    exact ⟨zr, zB HB⟩
  replace c41 := Bool.eq_false_iff.mpr c41
  subst c41; rw [if_neg zF] at H
  have H' := Aside0.mk H
  clear H
  go_wp2
  repeat (go_quiet (fail); try go_wp2)
  go_loopg [5] kj2 (fun kq v5 w' => ∃ (x5_2 : Int), v5 = .int .i64 x5_2 ∧ Aside0 (r18_One.l0 kq x5_2 a0_0 a0_1 a0_2 a0_3 a0_4 a0_5 a0_6 a0_7 a0_8 a0_9 a0_10 l0_11 a1_0 a1_1 a1_2 a1_3 a1_4 a1_5 a1_6 a1_7 a1_8 a1_9 a1_10 l1_11 = some r) ∧ Aside0 (kq ≤ kj2) ∧ Aside0 (w'.heap[gb387]? = some (.cells #[.string a0_0, .bool a0_1, .int .u64 a0_2, .int .u64 a0_3, .int .i64 a0_4, .int .i64 a0_5, .int .i64 a0_6, .int .i64 a0_7, .int .i64 a0_8, .bool a0_9, .int .i64 a0_10, (.slice A0_11 l0_11.length c0_11)] 36 (0, 0))) ∧ Aside0 (w'.heap[gb388]? = some (.cells #[.string a1_0, .bool a1_1, .int .u64 a1_2, .int .u64 a1_3, .int .i64 a1_4, .int .i64 a1_5, .int .i64 a1_6, .int .i64 a1_7, .int .i64 a1_8, .bool a1_9, .int .i64 a1_10, (.slice A1_11 l1_11.length c1_11)] 36 (0, 0))) ∧ Aside0 (Below w.heap.size w w'))
  case atStart => exact ⟨(0), zI, H', ⟨Nat.le_refl _⟩, ⟨zK BK387⟩, ⟨zK BK388⟩, ⟨zB HB⟩⟩
  case round =>
   clear H'
   try clear c41
   obtain ⟨x5_2, rfl, HA, HK2, BK387, BK388, HB⟩ := hrel
   rcases gk with _ | k2
   · exact absurd HA.out (by simp [r18_One.l0])
   have H := HA.out
   clear HA
   simp only [r18_One.l0] at H
   by_cases c42 : x5_2 < (l0_11.length : Int)
   rotate_left
   · rw [if_neg c42] at H
     have c42b0 : decide (x5_2 < (l0_11.length : Int)) = false := decide_eq_false c42; clear c42
     obtain rfl := Option.some.inj H
     have hnb52 := NB387_388.out
     have hnc52 := NB388_387.out
     obtain ⟨hcz53_0, hcz53_1, hcz53_2, hcz53_3, hcz53_4, hcz53_5, hcz53_6, hcz53_7, hcz53_8, hcz53_9, hcz53_10, hcz53_11⟩ := zc12 BK387; obtain ⟨hfz53_0, hfz53_1, hfz53_2, hfz53_3, hfz53_4, hfz53_5, hfz53_6, hfz53_7, hfz53_8, hfz53_9, hfz53_10, hfz53_11⟩ := zf12 BK387
     go_wp2
     repeat (go_quiet (fail); try go_wp2)
     go_ret
     exact ⟨zr, zB HB⟩
   rw [if_pos c42] at H
   have c42b0 : decide (x5_2 < (l0_11.length : Int)) = true := decide_eq_true c42; clear c42
   by_cases c43 : 0 ≤ x5_2
   rotate_left
   · rw [if_neg c43] at H
     exact absurd H (by simp)
   rw [if_pos c43] at H
   have c43b0 : decide (0 ≤ x5_2) = true := decide_eq_true c43; clear c43
   by_cases c44 : x5_2 < (l1_11.length : Int)
   rotate_left
   · rw [if_neg c44] at H
     exact absurd H (by simp)
   rw [if_pos c44] at H
   have c44b0 : decide (x5_2 < (l1_11.length : Int)) = true := decide_eq_true c44; clear c44
   by_cases c45 : (!(((rd_T74 l0_11 x5_2).f0) == ((rd_T74 l1_11 x5_2).f0)) || (!(((rd_T74 l0_11 x5_2).f1) == ((rd_T74 l1_11 x5_2).f1)) || (!(((rd_T74 l0_11 x5_2).f2) == ((rd_T74 l1_11 x5_2).f2))))) = true
   · rw [if_pos c45] at H
     have c45b0 : (!(((rd_T74 l0_11 x5_2).f0) == ((rd_T74 l1_11 x5_2).f0)) || (!(((rd_T74 l0_11 x5_2).f1) == ((rd_T74 l1_11 x5_2).f1)) || (!(((rd_T74 l0_11 x5_2).f2) == ((rd_T74 l1_11 x5_2).f2))))) = true := c45
     clear c45
     obtain rfl := Option.some.inj H
     have hnb46 := NB387_388.out
     have hnc46 := NB388_387.out
     obtain ⟨hcz47_0, hcz47_1, hcz47_2, hcz47_3, hcz47_4, hcz47_5, hcz47_6, hcz47_7, hcz47_8, hcz47_9, hcz47_10, hcz47_11⟩ := zc12 BK387; obtain ⟨hfz47_0, hfz47_1, hfz47_2, hfz47_3, hfz47_4, hfz47_5, hfz47_6, hfz47_7, hfz47_8, hfz47_9, hfz47_10, hfz47_11⟩ := zf12 BK387
     have p389 : 0 ≤ (x5_2 : Int) := za
     have q389 : x5_2 < (l0_11.length : Int) := za
     obtain ⟨ad389, e389, hx389_0, hx389_1, hx389_2⟩ := at_T74 HR0_11.out x5_2 p389 q389
     cases e389
     replace hx389_0 := zh HB hx389_0; replace hx389_1 := zh HB hx389_1; replace hx389_2 := zh HB hx389_2
     replace p389 := eq_true p389
     replace q389 := eq_true q389
     obtain ⟨hcz48_0, hcz48_1, hcz48_2, hcz48_3, hcz48_4, hcz48_5, hcz48_6, hcz48_7, hcz48_8, hcz48_9, hcz48_10, hcz48_11⟩ := zc12 BK388; obtain ⟨hfz48_0, hfz48_1, hfz48_2, hfz48_3, hfz48_4, hfz48_5, hfz48_6, hfz48_7, hfz48_8, hfz48_9, hfz48_10, hfz48_11⟩ := zf12 BK388
     have p390 : 0 ≤ (x5_2 : Int) := za
     have q390 : x5_2 < (l1_11.length : Int) := za
     obtain ⟨ad390, e390, hx390_0, hx390_1, hx390_2⟩ := at_T74 HR1_11.out x5_2 p390 q390
     cases e390
     replace hx390_0 := zh HB hx390_0; replace hx390_1 := zh HB hx390_1; replace hx390_2 := zh HB hx390_2
     replace p390 := eq_true p390
     replace q390 := eq_true q390
     go_wp2
     repeat (go_quiet (fail); try go_wp2)
     go_ret
     exact ⟨zr, zB HB⟩
   rw [if_neg c45] at H
   have c45b0 : (!(((rd_T74 l0_11 x5_2).f0) == ((rd_T74 l1_11 x5_2).f0)) || (!(((rd_T74 l0_11 x5_2).f1) == ((rd_T74 l1_11 x5_2).f1)) || (!(((rd_T74 l0_11 x5_2).f2) == ((rd_T74 l1_11 x5_2).f2))))) = false := by simpa using c45
   clear c45
   have H' := Aside0.mk H
   clear H
   have hnb49 := NB387_388.out
   have hnc49 := NB388_387.out
   obtain ⟨hcz50_0, hcz50_1, hcz50_2, hcz50_3, hcz50_4, hcz50_5, hcz50_6, hcz50_7, hcz50_8, hcz50_9, hcz50_10, hcz50_11⟩ := zc12 BK387; obtain ⟨hfz50_0, hfz50_1, hfz50_2, hfz50_3, hfz50_4, hfz50_5, hfz50_6, hfz50_7, hfz50_8, hfz50_9, hfz50_10, hfz50_11⟩ := zf12 BK387
   have p389 : 0 ≤ (x5_2 : Int) := za
   have q389 : x5_2 < (l0_11.length : Int) := za
   obtain ⟨ad389, e389, hx389_0, hx389_1, hx389_2⟩ := at_T74 HR0_11.out x5_2 p389 q389
   cases e389
   replace hx389_0 := zh HB hx389_0; replace hx389_1 := zh HB hx389_1; replace hx389_2 := zh HB hx389_2
   replace p389 := eq_true p389
   replace q389 := eq_true q389
   obtain ⟨hcz51_0, hcz51_1, hcz51_2, hcz51_3, hcz51_4, hcz51_5, hcz51_6, hcz51_7, hcz51_8, hcz51_9, hcz51_10, hcz51_11⟩ := zc12 BK388; obtain ⟨hfz51_0, hfz51_1, hfz51_2, hfz51_3, hfz51_4, hfz51_5, hfz51_6, hfz51_7, hfz51_8, hfz51_9, hfz51_10, hfz51_11⟩ := zf12 BK388
   have p390 : 0 ≤ (x5_2 : Int) := za
   have q390 : x5_2 < (l1_11.length : Int) := za
   obtain ⟨ad390, e390, hx390_0, hx390_1, hx390_2⟩ := at_T74 HR1_11.out x5_2 p390 q390
   cases e390
   replace hx390_0 := zh HB hx390_0; replace hx390_1 := zh HB hx390_1; replace hx390_2 := zh HB hx390_2
   replace p390 := eq_true p390
   replace q390 := eq_true q390
   go_wp2
   repeat (go_quiet (fail); try go_wp2)
   go_roundg k2
   case measure => have := HJ2.out; have := HK2.out; omega
   case rel => exact ⟨(wrap64 (x5_2 + 1)), zI, H', ⟨by have := HJ2.out; have := HK2.out; omega⟩, ⟨zK BK387⟩, ⟨zK BK388⟩, ⟨zB HB⟩⟩
end Go.Proofs.YtnphnhkinjppjaaGreatDoor.Q
end

section
namespace Go.Proofs.YtnphnhkinjppjaaGreatDoor.Q
open Go.RowKit Go.Proofs.YtnphnhkinjppjaaGreatDoorW.PrintWords Go.Proofs.YtnphnhkinjppjaaGreatDoorW.PrintLast Go.Proofs.YtnphnhkinjppjaaGreatDoorW.PrintMore
def smallB (a : S36) : Bool := decide (a.f8.length ≤ 20) && decide (a.f0.size ≤ 100)
theorem few_l (l : List S36) : ∀ (d i : Nat), 71 - i = d → i ≤ 71 → i ≤ l.length → Ev (fun k => r18_Few.l0 k l (i : Int)) (((l.take 71).drop i).all smallB && decide ((l.length : Int) ≤ 70)) := by
  intro d
  induction d with
  | zero =>
    intro i hd hi hl
    have e : i = 71 := by omega
    have h0 : (l.take 71).drop i = [] := List.drop_of_length_le (by rw [List.length_take]; omega)
    rw [h0, List.all_nil, Bool.true_and]
    by_cases h : i < l.length
    · refine Ev.step (f := fun k => r18_Few.j1 k l (i : Int) false) (fun k => by rw [r18_Few.l0, if_pos (by omega), decide_eq_false (show ¬ (i : Int) < 71 by omega)]) ?_
      refine Ev.step (f := fun _ => some (decide ((l.length : Int) ≤ 70))) (fun k => by rw [r18_Few.j1, if_neg Bool.false_ne_true]) (Ev.now _)
    · refine Ev.step (f := fun k => r18_Few.j1 k l (i : Int) false) (fun k => by rw [r18_Few.l0, if_neg (by omega)]) ?_
      refine Ev.step (f := fun _ => some (decide ((l.length : Int) ≤ 70))) (fun k => by rw [r18_Few.j1, if_neg Bool.false_ne_true]) (Ev.now _)
  | succ d ih =>
    intro i hd hi hl
    by_cases h : i < l.length
    · have h2 : i < (l.take 71).length := by rw [List.length_take]; omega
      rw [List.drop_eq_getElem_cons h2, List.all_cons, List.getElem_take]
      refine Ev.step (f := fun k => r18_Few.j1 k l (i : Int) true) (fun k => by rw [r18_Few.l0, if_pos (by omega), decide_eq_true (show (i : Int) < 71 by omega)]) ?_
      by_cases h3 : (l[i].f8.length : Int) > 20
      · rw [show smallB l[i] = false from by unfold smallB; rw [decide_eq_false (by omega), Bool.false_and], Bool.false_and, Bool.false_and]
        refine Ev.step (f := fun _ => some false) (fun k => by rw [r18_Few.j1, if_pos rfl, if_pos (by omega), if_pos (by omega), as_get h, if_pos h3]) (Ev.now _)
      · by_cases h4 : (l[i].f0.size : Int) > 100
        · rw [show smallB l[i] = false from by unfold smallB; rw [decide_eq_false (show ¬ l[i].f0.size ≤ 100 by omega), Bool.and_false], Bool.false_and, Bool.false_and]
          refine Ev.step (f := fun _ => some false) (fun k => by rw [r18_Few.j1, if_pos rfl, if_pos (by omega), if_pos (by omega), as_get h, if_neg h3, if_pos h4]) (Ev.now _)
        · rw [show smallB l[i] = true from by unfold smallB; rw [decide_eq_true (by omega), decide_eq_true (by omega)]; rfl, Bool.true_and]
          refine Ev.step (fun k => ?_) (ih (i + 1) (by omega) (by omega) (by omega))
          rw [r18_Few.j1, if_pos rfl, if_pos (by omega), if_pos (by omega), as_get h, if_neg h3, if_neg h4, lx_up (by omega)]
    · have h0 : (l.take 71).drop i = [] := List.drop_of_length_le (by rw [List.length_take]; omega)
      rw [h0, List.all_nil, Bool.true_and]
      refine Ev.step (f := fun k => r18_Few.j1 k l (i : Int) false) (fun k => by rw [r18_Few.l0, if_neg (by omega)]) ?_
      refine Ev.step (f := fun _ => some (decide ((l.length : Int) ≤ 70))) (fun k => by rw [r18_Few.j1, if_neg Bool.false_ne_true]) (Ev.now _)
def fewB (l : List S36) : Bool := (l.take 71).all smallB && decide ((l.length : Int) ≤ 70)
theorem few_ev (l : List S36) : Ev (fun k => r18_Few.f k l) (fewB l) := few_l l _ 0 rfl (by omega) (by omega)
end Go.Proofs.YtnphnhkinjppjaaGreatDoor.Q
end

section
namespace Go.Proofs.YtnphnhkinjppjaaGreatDoor.Bridge
open Go.RowKit Go.Sort Go.Proofs.YtnphnhkinjppjaaGreatDoorW.PrintWords
variable {α : Type}
theorem chunk_get (k j : Nat) (hk : 0 < k) (a : List Value) (n : Nat) (ha : a.length = n * k) (hj : j < n * k) :
    a[j]? = ((a.drop (j / k * k)).take k)[j % k]? := by
  have h1 : j / k * k + j % k = j := by rw [Nat.mul_comm]; exact Nat.div_add_mod j k
  have h2 : j % k < k := Nat.mod_lt _ hk
  rw [List.getElem?_take, if_pos h2, List.getElem?_drop, h1]
variable [Inhabited α]
theorem reps_flat {enc : α → List Value} {k : Nat} (hk0 : 0 < k) (hk : ∀ x, (enc x).length = k) (l : List α) : Reps (fun p cs => cs = enc p) k l (flatK enc k l.toArray).toList := by
  refine ⟨by simp, fun j p hj => ?_⟩
  obtain ⟨hjl, hp⟩ := List.getElem?_eq_some_iff.1 hj
  have hle : j * k + k ≤ l.length * k := by rw [← Nat.succ_mul]; exact Nat.mul_le_mul_right _ hjl
  apply List.ext_getElem
  · rw [List.length_take, List.length_drop, Array.length_toList, size_flatK, hk]
    simp
    omega
  · intro i h1 h2
    have hi : i < k := by rw [hk] at h2; exact h2
    have e1 : (j * k + i) / k = j := (blk_iff k j _ hk0).1 ⟨by omega, by omega⟩
    have e2 : (j * k + i) % k = i := by rw [Nat.mod_eq_sub_div_mul, e1]; omega
    rw [List.getElem_take, List.getElem_drop, Array.getElem_toList]
    have hlt : j * k + i < l.toArray.size * k := by simp; omega
    have hg := get_flatK enc k l.toArray (j * k + i) hlt
    rw [getElem!_pos (flatK enc k l.toArray) (j * k + i) (by rw [size_flatK]; exact hlt), e1, e2] at hg
    rw [hg]
    have hx : l.toArray[j]! = p := by
      rw [getElem!_pos l.toArray j (by simpa using hjl)]
      simpa using hp
    rw [hx, getElem!_pos (enc p) i h2]
end Go.Proofs.YtnphnhkinjppjaaGreatDoor.Bridge
end

section
namespace Go.Proofs.YtnphnhkinjppjaaGreatDoor.Q
open Go.RowKit Go.Sort Go.Proofs.YtnphnhkinjppjaaGreatDoorW.PrintWords Go.Proofs.YtnphnhkinjppjaaGreatDoorW.PrintLast Go.Proofs.YtnphnhkinjppjaaGreatDoorW.PrintMore
def asset_given.f (l : List (S74)) : Option (List (S74)) := if l.length < 1000000 then some l else none
theorem given_some {l r : List (S74)} (h : asset_given.f l = some r) : l.length < 1000000 ∧ r = l := by
  unfold asset_given.f at h
  split at h
  · rename_i h1; injection h with h; exact ⟨h1, h.symm⟩
  · cases h
structure Given1 (w0 : World) (g n : Nat) (w : World) : Prop where
  base : w0.heap.size ≤ g
  row : ∃ cur, w.heap[g]? = some (.cells cur 74 (0, 0)) ∧ cur.size = n * 3
  bel : Below w0.heap.size w0 w
theorem Given1.drew {w0 w : World} {g n : Nat} (h : Given1 w0 g n w) : Given1 w0 g n w.drew := ⟨h.base, h.row, below_drew1 h.bel⟩
theorem given_make {w0 W : World} {l r : List (S74)} {ops : Array Oper} {rest : List Oper} {o : Oper} {a : Act} {Q : Exit → Act → World → Prop}
    (hg : o.guard = none) (hop : o.op = Op.makeSlice 34 (.tmp 6) (.tmp 6)) (hl : a.eval (.tmp 6) = .int .i64 l.length) (h : asset_given.f l = some r) (hB : Below w0.heap.size w0 W)
    (hK : ∀ g w', Aside0 (Given1 w0 g l.length w') → wpList Tryz.prog ops Q rest (a.put o.dst (.slice (some ⟨g, 0, none⟩) l.length l.length)) w') :
    wpList Tryz.prog ops Q (o :: rest) a W := by
  obtain ⟨hn, rfl⟩ := given_some h
  have h0 : (Tryz.prog.info? 74).isSome = true := by kernel_rfl
  obtain ⟨i, hi⟩ := Option.isSome_iff_exists.1 h0
  have h1 : ((Tryz.prog.info? 74).bind (·.zero)).isSome = true := by kernel_rfl
  have h2 : (Tryz.prog.info? 74).map (·.size) = some 3 := by kernel_rfl
  have h3 : (Tryz.prog.info? 74).map (·.bytes) = some 24 := by kernel_rfl
  rw [hi] at h1 h2 h3
  obtain ⟨z, hz⟩ := Option.isSome_iff_exists.1 h1
  simp only [Option.bind_some, Option.map_some, Option.some.injEq] at hz h2 h3
  refine wpList_make_full W hg _ _ 34 hop w0.heap.size 74 i z 3 Tryz.underlying34 hi hz h2 .i64 .i64 _ _ r.length hl hl rfl rfl (by rw [h3]; omega) (by simp [maxLen]; omega) hB.size ?_
  intro w' ho hgr
  refine hK _ w' ⟨⟨hB.size, ?_, ?_⟩⟩
  · rcases ho.2 with ⟨hx, _⟩ | ⟨g', cap', cur, hx, _, hh, _, _, hcs, _⟩
    · simp at hx
    · simp only [Value.slice.injEq, Option.some.injEq, Addr.mk.injEq, and_true, true_and] at hx
      obtain ⟨hx1, hx2⟩ := hx
      subst hx1
      subst hx2
      exact ⟨cur, hh, hcs⟩
  · exact pw_below_grown hB none hB.size hgr (by intro k hk; cases hk)
theorem run_copy_all {P : Program} (w : World) (dT sT ty elem : TypeId) (sz g n : Nat) (A : Option Addr) (sCap : Nat) (cur : Array Value) (cs : List Value)
    (hu : P.underlying dT = some (.slice elem)) (hs : (P.info? elem).map (·.size) = some sz)
    (hg : w.heap[g]? = some (.cells cur elem (0, 0))) (hn : cs.length = n * sz) (hcur : cur.size = n * sz)
    (hsrc : 0 < n → ∃ a, A = some a ∧ ∀ j v, cs[j]? = some v → w.cell? (a.add j) = some v) (h1 : ∀ v ∈ cs, v.oneCell' = true) :
    (Builtin.copy_ #[dT, sT] ty #[.slice (some ⟨g, 0, none⟩) n n, .slice A n sCap]).run P w = .ok (goInt n) (w.setRow g cs.toArray) := by
  have hst := run_storeCells_at P g 0 elem cs 0 cur w hg (by omega) h1
  have e0 : (cur.toList.take (0 + 0) ++ cs ++ cur.toList.drop (0 + 0 + cs.length)).toArray = cs.toArray := by
    rw [List.drop_of_length_le (by simp; omega)]
    simp
  rw [e0] at hst
  cases hq : P.info? elem with
  | none => simp [hq] at hs
  | some i =>
    have hi : i.size = sz := by simpa [hq] using hs
    cases A with
    | none =>
      have hn0 : n = 0 := by
        rcases Nat.eq_zero_or_pos n with h | h
        · exact h
        · obtain ⟨a, ha, _⟩ := hsrc h; cases ha
      subst hn0
      have hcs : cs = [] := List.eq_nil_of_length_eq_zero (by omega)
      subst hcs
      simp [Builtin.copy_, run_underlying hu, Builtin.lenOf, Builtin.firstCells, sizeOf, typeInfo, hq, storeCells] at hst ⊢
      exact hst
    | some a =>
      have hl : Sem.run P (loadCells a cs.length) w = Result.ok cs.toArray w := by
        apply run_loadCells_list
        rcases Nat.eq_zero_or_pos n with h | h
        · have hcs : cs = [] := List.eq_nil_of_length_eq_zero (by rw [hn, h]; simp)
          subst hcs
          intro j v hv
          simp at hv
        · obtain ⟨a', ha, hx⟩ := hsrc h
          cases ha
          exact hx
      rw [hn] at hl
      have hmin : Nat.min n n = n := Nat.min_self n
      simp [Builtin.copy_, run_underlying hu, Builtin.lenOf, Builtin.firstCells, sizeOf, typeInfo, hq, hi, hmin, hl, hst]
theorem given_copy {w0 W : World} {l r : List (S74)} {A0 : Option Addr} {c0 g : Nat} {ops : Array Oper} {rest : List Oper} {o : Oper} {a : Act} {Q : Exit → Act → World → Prop}
    (hg : o.guard = none) (hop : o.op = Op.call { callee := Callee.builtin Builtin.copy, args := #[.tmp 8, .tmp 10], argTypes := #[34, 34] })
    (h12 : a.eval (.tmp 8) = .slice (some ⟨g, 0, none⟩) l.length l.length) (h13 : a.eval (.tmp 10) = .slice A0 l.length c0) (h : asset_given.f l = some r)
    (hG : Given1 w0 g l.length W) (hR : Kd.C k74 w0 A0 l.length l)
    (hK : ∀ w', Kd.R k74 74 w' w0.heap.size (fun _ => True) (.slice (some ⟨g, 0, none⟩) l.length l.length) r → Below w0.heap.size w0 w' → wpList Tryz.prog ops Q rest (a.put o.dst (.int .i64 l.length)) w') :
    wpList Tryz.prog ops Q (o :: rest) a W := by
  obtain ⟨hn, rfl⟩ := given_some h
  obtain ⟨cur, hcur, hcs⟩ := hG.row
  haveI : Inhabited (S74) := ⟨z74⟩
  have hflat := Bridge.reps_flat (enc := fun x : S74 => [Value.int .i64 x.f0, .int .i64 x.f1, .int .i64 x.f2]) (k := 3) (by decide) (fun _ => rfl) r
  generalize (flatK (fun x : S74 => [Value.int .i64 x.f0, .int .i64 x.f1, .int .i64 x.f2]) 3 r.toArray).toList = cs at hflat
  have hone : ∀ v ∈ cs, v.oneCell' = true := by
    intro v hv
    obtain ⟨j, hj, rfl⟩ := List.getElem_of_mem hv
    have hj2 : j < r.length * 3 := by rw [← hflat.1]; exact hj
    have hc := Bridge.chunk_get 3 j (by decide) cs r.length hflat.1 hj2
    have hjl : j / 3 < r.length := Nat.div_lt_of_lt_mul (by rw [Nat.mul_comm]; exact hj2)
    have h3 := hflat.2 _ _ (List.getElem?_eq_getElem hjl)
    rw [h3, List.getElem?_eq_getElem hj] at hc
    have h4 := List.mem_of_getElem? hc.symm
    simp at h4
    rcases h4 with h4 | h4 | h4 <;> rw [h4] <;> rfl
  have hsrc : 0 < r.length → ∃ ad, A0 = some ad ∧ ∀ j v, cs[j]? = some v → W.cell? (ad.add j) = some v := by
    intro hp
    obtain ⟨ad, rfl, hx⟩ := hR.2.2 hp
    refine ⟨ad, rfl, fun j v hv => ?_⟩
    have hj : j < cs.length := (List.getElem?_eq_some_iff.1 hv).1
    have hj2 : j < r.length * 3 := by rw [← hflat.1]; exact hj
    have hc := Bridge.chunk_get 3 j (by decide) cs r.length hflat.1 hj2
    have hjl : j / 3 < r.length := Nat.div_lt_of_lt_mul (by rw [Nat.mul_comm]; exact hj2)
    have h3 := hflat.2 _ _ (List.getElem?_eq_getElem hjl)
    rw [h3] at hc
    obtain ⟨c, hcl, hk, hcell⟩ := hx _ _ (List.getElem?_eq_getElem hjl)
    have hk2 := k74_open hk
    rw [hk2] at hcell
    have h5 := hcell (j % 3) v (hc.symm.trans hv)
    rw [show j / 3 * k74.sz + j % 3 = j from by show j / 3 * 3 + j % 3 = j; omega] at h5
    exact (hG.bel.cell (World.block_lt_of_cell? _ _ h5)).trans h5
  have hrun := run_copy_all (P := Tryz.prog) W 34 34 o.type 74 3 g r.length A0 c0 cur cs Tryz.underlying34 (by kernel_rfl) hcur (by rw [hflat.1]) hcs hsrc hone
  have hb : Below w0.heap.size w0 (W.setRow g cs.toArray) := pw_below_grown hG.bel (some g) hG.bel.size ⟨rfl, rfl, rfl, by simp, fun k _ hk => setRow_other W g k _ (fun e => hk (by simp [e]))⟩ (by intro k hk; injection hk with hk; rw [← hk]; exact hG.base)
  have hr : Kd.R k74 74 (W.setRow g cs.toArray) w0.heap.size (fun _ => True) (.slice (some ⟨g, 0, none⟩) r.length r.length) r := by
    refine ⟨fun _ _ => trivial, cs, ⟨hflat.1, .inr ⟨g, r.length, cs.toArray, rfl, hG.base, setRow_heap W g cur _ _ _ hcur, Nat.le_refl _, by simp [maxLen]; omega, by show cs.toArray.size = r.length * 3; simp [hflat.1], by rw [List.take_of_length_le (by show cs.toArray.toList.length ≤ r.length * 3; simp [hflat.1])]⟩⟩, ?_⟩
    exact hflat.imp_ (fun p c hp => by rw [hp]; exact k74_mkM _ _ _ _)
  refine wpList_plain hg fun K hK' => ?_
  unfold Oper.wp
  simp [execOp, hop, resolve, invoke, builtin, h12, h13, hrun, Result.andThen]
  exact hK' _ _ (hK _ hr hb)
end Go.Proofs.YtnphnhkinjppjaaGreatDoor.Q
end

section
set_option maxHeartbeats 8000000
set_option maxRecDepth 100000
namespace Go.Proofs.YtnphnhkinjppjaaGreatDoor.Q
open Go.RowKit Go.Proofs.YtnphnhkinjppjaaGreatDoorW.PrintWords Go.Proofs.YtnphnhkinjppjaaGreatDoorW.PrintLast Go.Proofs.YtnphnhkinjppjaaGreatDoorW.PrintMore
abbrev as0 : Array Value := #[.string ⟨#[]⟩, .bool false, .int .u64 0, .int .u64 0, .int .i64 0, .int .i64 0, .int .i64 0, .int .i64 0, .int .i64 0, .bool false, .int .i64 0, .slice none 0 0]
theorem put12 {w : World} {g : Nat} {t : TypeId} {u0 u1 u2 u3 u4 u5 u6 u7 u8 u9 u10 u11 v0 v1 v2 v3 v4 v5 v6 v7 v8 v9 v10 v11 : Value} (h : w.heap[g]? = some (.cells #[u0, u1, u2, u3, u4, u5, u6, u7, u8, u9, u10, u11] t (0, 0))) : ((((((((((((w.setCell ⟨g, 0, none⟩ v0).setCell ⟨g, 1, none⟩ v1).setCell ⟨g, 2, none⟩ v2).setCell ⟨g, 3, none⟩ v3).setCell ⟨g, 4, none⟩ v4).setCell ⟨g, 5, none⟩ v5).setCell ⟨g, 6, none⟩ v6).setCell ⟨g, 7, none⟩ v7).setCell ⟨g, 8, none⟩ v8).setCell ⟨g, 9, none⟩ v9).setCell ⟨g, 10, none⟩ v10).setCell ⟨g, 11, none⟩ v11).heap[g]? = some (.cells #[v0, v1, v2, v3, v4, v5, v6, v7, v8, v9, v10, v11] t (0, 0)) := by
  refine blk_put (cs := #[v0, v1, v2, v3, v4, v5, v6, v7, v8, v9, v10, u11]) ?_ 11 _ rfl
  refine blk_put (cs := #[v0, v1, v2, v3, v4, v5, v6, v7, v8, v9, u10, u11]) ?_ 10 _ rfl
  refine blk_put (cs := #[v0, v1, v2, v3, v4, v5, v6, v7, v8, u9, u10, u11]) ?_ 9 _ rfl
  refine blk_put (cs := #[v0, v1, v2, v3, v4, v5, v6, v7, u8, u9, u10, u11]) ?_ 8 _ rfl
  refine blk_put (cs := #[v0, v1, v2, v3, v4, v5, v6, u7, u8, u9, u10, u11]) ?_ 7 _ rfl
  refine blk_put (cs := #[v0, v1, v2, v3, v4, v5, u6, u7, u8, u9, u10, u11]) ?_ 6 _ rfl
  refine blk_put (cs := #[v0, v1, v2, v3, v4, u5, u6, u7, u8, u9, u10, u11]) ?_ 5 _ rfl
  refine blk_put (cs := #[v0, v1, v2, v3, u4, u5, u6, u7, u8, u9, u10, u11]) ?_ 4 _ rfl
  refine blk_put (cs := #[v0, v1, v2, u3, u4, u5, u6, u7, u8, u9, u10, u11]) ?_ 3 _ rfl
  refine blk_put (cs := #[v0, v1, u2, u3, u4, u5, u6, u7, u8, u9, u10, u11]) ?_ 2 _ rfl
  refine blk_put (cs := #[v0, u1, u2, u3, u4, u5, u6, u7, u8, u9, u10, u11]) ?_ 1 _ rfl
  refine blk_put (cs := #[u0, u1, u2, u3, u4, u5, u6, u7, u8, u9, u10, u11]) ?_ 0 _ rfl
  exact h
theorem below12 {w W : World} {g : Nat} {v0 v1 v2 v3 v4 v5 v6 v7 v8 v9 v10 v11 : Value} (h : Below w.heap.size w W) (hg : w.heap.size ≤ g) : Below w.heap.size w ((((((((((((W.setCell ⟨g, 0, none⟩ v0).setCell ⟨g, 1, none⟩ v1).setCell ⟨g, 2, none⟩ v2).setCell ⟨g, 3, none⟩ v3).setCell ⟨g, 4, none⟩ v4).setCell ⟨g, 5, none⟩ v5).setCell ⟨g, 6, none⟩ v6).setCell ⟨g, 7, none⟩ v7).setCell ⟨g, 8, none⟩ v8).setCell ⟨g, 9, none⟩ v9).setCell ⟨g, 10, none⟩ v10).setCell ⟨g, 11, none⟩ v11) := by
  repeat (refine below_set ?_ hg)
  exact h
theorem putR {w : World} {g B : Nat} {cs : Array Value} {p : Value} {l : List S74} {v0 v1 v2 v3 v4 v5 v6 v7 v8 v9 v10 v11 : Value} (h : w.heap[g]? = some (.cells cs 36 (0, 0))) (hR : Kd.R k74 74 w B (fun _ => True) p l) : Kd.R k74 74 ((((((((((((w.setCell ⟨g, 0, none⟩ v0).setCell ⟨g, 1, none⟩ v1).setCell ⟨g, 2, none⟩ v2).setCell ⟨g, 3, none⟩ v3).setCell ⟨g, 4, none⟩ v4).setCell ⟨g, 5, none⟩ v5).setCell ⟨g, 6, none⟩ v6).setCell ⟨g, 7, none⟩ v7).setCell ⟨g, 8, none⟩ v8).setCell ⟨g, 9, none⟩ v9).setCell ⟨g, 10, none⟩ v10).setCell ⟨g, 11, none⟩ v11) B (fun _ => True) p l := by
  have hd : ∀ q, q ∈ 74 :: (k74).E → q ≠ 36 := by decide
  have R1 := Kd.R_set hR h hd 0 v0
  have h1 := blk_set h 0 v0
  have R2 := Kd.R_set R1 h1 hd 1 v1
  have h2 := blk_set h1 1 v1
  have R3 := Kd.R_set R2 h2 hd 2 v2
  have h3 := blk_set h2 2 v2
  have R4 := Kd.R_set R3 h3 hd 3 v3
  have h4 := blk_set h3 3 v3
  have R5 := Kd.R_set R4 h4 hd 4 v4
  have h5 := blk_set h4 4 v4
  have R6 := Kd.R_set R5 h5 hd 5 v5
  have h6 := blk_set h5 5 v5
  have R7 := Kd.R_set R6 h6 hd 6 v6
  have h7 := blk_set h6 6 v6
  have R8 := Kd.R_set R7 h7 hd 7 v7
  have h8 := blk_set h7 7 v7
  have R9 := Kd.R_set R8 h8 hd 8 v8
  have h9 := blk_set h8 8 v8
  have R10 := Kd.R_set R9 h9 hd 9 v9
  have h10 := blk_set h9 9 v9
  have R11 := Kd.R_set R10 h10 hd 10 v10
  have h11 := blk_set h10 10 v10
  have R12 := Kd.R_set R11 h11 hd 11 v11
  have h12 := blk_set h11 11 v11
  exact R12
theorem clone_walk' (a : S36) (Ab : Option Addr) (cb : Nat) (w : World) (hC : Kd.C k74 w Ab a.f8.length a.f8) (hl : a.f8.length < 1000000) :
    Calls Tryz.prog 52 #[.agg (asC a (.slice Ab a.f8.length cb))] w fun e w' => ∃ g, e = .returned (.agg (asC a (.slice (some ⟨g, 0, none⟩) a.f8.length a.f8.length))) ∧ Kd.R k74 74 w' w.heap.size (fun _ => True) (.slice (some ⟨g, 0, none⟩) a.f8.length a.f8.length) a.f8 ∧ Below w.heap.size w w' := by
  have hu := Tryz.underlying36
  have hu2 := Tryz.underlying33
  have HX : Aside0 ((w.alloc (.cells (asC a (.slice Ab a.f8.length cb)) 36)).heap[w.heap.size]? = some (.cells (asC a (.slice Ab a.f8.length cb)) 36 (0, 0))) := ⟨heap_alloc_new _ _⟩
  have HB := Aside0.mk (below_alloc (Below.refl w.heap.size w) (.cells (asC a (.slice Ab a.f8.length cb)) 36))
  have HC := Aside0.mk (Kd.C_below hC HB.out)
  have HG : Aside0 (asset_given.f a.f8 = some a.f8) := ⟨if_pos hl⟩
  clear hC hl
  go_enter Tryz.func52, Tryz.ntmps52
  go_upto_region 1 with (fail)
  have hsz : (w.alloc (.cells (asC a (.slice Ab a.f8.length cb)) 36)).heap.size = w.heap.size + 1 := by show (w.heap.push _).size = _; rw [Array.size_push]
  have HY : Aside0 (((w.alloc (.cells (asC a (.slice Ab a.f8.length cb)) 36)).alloc (.cells as0 36)).heap[(w.alloc (.cells (asC a (.slice Ab a.f8.length cb)) 36)).heap.size]? = some (.cells as0 36 (0, 0))) := ⟨heap_alloc_new _ _⟩
  replace HX := Aside0.mk (blk_alloc HX.out (.cells as0 36))
  replace HC := Aside0.mk (Kd.C_below HC.out (below_alloc (Below.refl _ _) (.cells as0 36)))
  replace HB := Aside0.mk (below_alloc HB.out (.cells as0 36))
  rw [hsz] at HY
  clear hsz
  have HLT : Aside0 (w.heap.size ≤ w.heap.size ∧ w.heap.size ≤ w.heap.size + 1 ∧ w.heap.size ≠ w.heap.size + 1) := ⟨by omega⟩
  change Code.wp _ _ _ _ ((w.alloc (.cells (asC a (.slice Ab a.f8.length cb)) 36)).alloc (.cells as0 36))
  generalize (w.alloc (.cells (asC a (.slice Ab a.f8.length cb)) 36)).alloc (.cells as0 36) = W1 at HX HY HC HB ⊢
  obtain ⟨B, hBB⟩ : ∃ x, w.heap.size = x := ⟨_, rfl⟩
  obtain ⟨ga, hga⟩ : ∃ x, w.heap.size = x := ⟨_, rfl⟩
  obtain ⟨gr, hgr⟩ : ∃ x, w.heap.size + 1 = x := ⟨_, rfl⟩
  rw [hgr] at HY HLT
  replace HLT : Aside0 (B ≤ ga ∧ B ≤ gr ∧ ga ≠ gr) := ⟨by rw [← hBB, ← hga]; exact HLT.out⟩
  simp only [hgr]
  simp only [hga] at HX HB ⊢
  have HGA := Aside0.mk hga
  have HBR : Aside0 (gr = w.heap.size + 1) := ⟨hgr.symm⟩
  clear hgr hga hBB
  obtain ⟨d0, d1, d2, d3, d4, d5, d6, d7, d8, d9, d10, d11⟩ := zc12 HX
  go_upto_region 3 with (first
    | ((with_reducible refine gate_ (op := Op.makeSlice 34 (.tmp 6) (.tmp 6)) rfl ?_); refine given_make (w0 := W1) (l := a.f8) rfl rfl rfl HG.out (Below.refl _ _) ?_; intro g w3 HG3; have HX3 := Aside0.mk (blk_below HX.out HG3.out.bel); obtain ⟨e0, e1, e2, e3, e4, e5, e6, e7, e8, e9, e10, e11⟩ := zc12 HX3)
    | ((with_reducible refine gate_builtin (b := .copy) (xs := #[.tmp 8, .tmp 10]) rfl ?_); refine given_copy (w0 := W1) (l := a.f8) (A0 := Ab) (c0 := cb) rfl rfl rfl rfl HG.out HG3.out HC.out ?_; intro w4 ho hb; have HO := Aside0.mk ho; have HB4 := Aside0.mk hb; clear ho hb))
  replace HX := Aside0.mk (blk_below HX.out HB4.out)
  replace HY := Aside0.mk (blk_below HY.out HB4.out)
  clear d0 d1 d2 d3 d4 d5 d6 d7 d8 d9 d10 d11 e0 e1 e2 e3 e4 e5 e6 e7 e8 e9 e10 e11 HX3
  obtain ⟨d0, d1, d2, d3, d4, d5, d6, d7, d8, d9, d10, d11⟩ := zc12 HX
  obtain ⟨f0, f1, f2, f3, f4, f5, f6, f7, f8, f9, f10, f11⟩ := zf12 HX
  go_upto_region 4 with (fail)
  have HX5 : Aside0 ((w4.setCell ⟨ga, 11, none⟩ (.slice (some ⟨g, 0, none⟩) a.f8.length a.f8.length)).heap[ga]? = some (.cells (asC a (.slice (some ⟨g, 0, none⟩) a.f8.length a.f8.length)) 36 (0, 0))) := ⟨blk_put HX.out 11 _ rfl⟩
  have HY5 : Aside0 ((w4.setCell ⟨ga, 11, none⟩ (.slice (some ⟨g, 0, none⟩) a.f8.length a.f8.length)).heap[gr]? = some (.cells as0 36 (0, 0))) := ⟨blk_far HY.out (Ne.symm HLT.out.2.2) _⟩
  have HO5 := Aside0.mk (Kd.R_set HO.out HX.out (by decide) 11 (.slice (some ⟨g, 0, none⟩) a.f8.length a.f8.length))
  have HBw : Aside0 (Below w.heap.size w W1) := ⟨by rw [HGA.out]; exact HB.out⟩
  have HG1 : Aside0 (w.heap.size ≤ ga ∧ w.heap.size ≤ gr) := ⟨by have := HGA.out; have := HLT.out; omega, by have := HBR.out; omega⟩
  have HB5 : Aside0 (Below w.heap.size w (w4.setCell ⟨ga, 11, none⟩ (.slice (some ⟨g, 0, none⟩) a.f8.length a.f8.length))) := ⟨below_set (below_then HBw.out HBw.out.size HB4.out) HG1.out.1⟩
  have HSZ := Aside0.mk HBw.out.size
  clear d0 d1 d2 d3 d4 d5 d6 d7 d8 d9 d10 d11 f0 f1 f2 f3 f4 f5 f6 f7 f8 f9 f10 f11 HX HY HO HB4
  generalize w4.setCell ⟨ga, 11, none⟩ (.slice (some ⟨g, 0, none⟩) a.f8.length a.f8.length) = w5 at HX5 HY5 HO5 HB5 ⊢
  obtain ⟨d0, d1, d2, d3, d4, d5, d6, d7, d8, d9, d10, d11⟩ := zc12 HX5
  obtain ⟨f0, f1, f2, f3, f4, f5, f6, f7, f8, f9, f10, f11⟩ := zf12 HY5
  obtain ⟨x0, x1, x2, x3, x4, x5, x6, x7, x8, x9, x10, x11⟩ := zc12 HY5
  go_wp2
  refine bodyPost_ret (results_cell_row rfl _ _ gr 36 (asC a (.slice (some ⟨g, 0, none⟩) a.f8.length a.f8.length)) (0, 0) _ rfl (put12 HY5.out) Tryz.underlying36 rfl (by kernel_rfl)) rfl ?_
  exact ⟨g, rfl, putR HY5.out (Kd.R_lower HO5.out HSZ.out), below12 HB5.out HG1.out.2⟩
def IsCur (w0 W : World) (g : Nat) (L : List (S84)) (i : Int) : Prop := ∃ A0 c0, W.heap[g]? = some (.cells #[.slice A0 L.length c0, .int .i64 i] 105 (0, 0)) ∧ w0.heap.size ≤ g ∧ Kd.C k84 w0 A0 L.length L
theorem IsCur.blk_ {w0 W W1 : World} {g : Nat} {L : List (S84)} {i : Int} (h : IsCur w0 W g L i) (hb : W1.heap[g]? = W.heap[g]?) : IsCur w0 W1 g L i := by
  obtain ⟨A0, c0, h1, h2, h3⟩ := h
  exact ⟨A0, c0, hb.trans h1, h2, h3⟩
theorem IsCur.lt {w0 W : World} {g : Nat} {L : List (S84)} {i : Int} (h : IsCur w0 W g L i) : g < W.heap.size := by
  obtain ⟨A0, c0, h1, h2, h3⟩ := h
  exact blk_lt h1
theorem IsCur.ge {w0 W : World} {g : Nat} {L : List (S84)} {i : Int} (h : IsCur w0 W g L i) : w0.heap.size ≤ g := by
  obtain ⟨A0, c0, h1, h2, h3⟩ := h
  exact h2
theorem IsCur.below {w0 W W1 : World} {g : Nat} {L : List (S84)} {i : Int} (h : IsCur w0 W g L i) (hb : Below W.heap.size W W1) : IsCur w0 W1 g L i := h.blk_ (hb.block g h.lt)
theorem IsCur.alloc {w0 W : World} {g : Nat} {L : List (S84)} {i : Int} (h : IsCur w0 W g L i) (o : Obj) : IsCur w0 (W.alloc o) g L i := h.below (below_alloc (Below.refl _ _) o)
theorem IsCur.far {w0 W : World} {g : Nat} {L : List (S84)} {i : Int} (h : IsCur w0 W g L i) {p : Addr} (hp : p.block ≠ g) (v : Value) : IsCur w0 (W.setCell p v) g L i := h.blk_ (Below.heap_setCell W p v g (Ne.symm hp))
theorem IsCur.set {w0 W : World} {g : Nat} {L : List (S84)} {i : Int} (h : IsCur w0 W g L i) (j : Int) : IsCur w0 (W.setCell ⟨g, 1, none⟩ (.int .i64 j)) g L j := by
  obtain ⟨A0, c0, h1, h2, h3⟩ := h
  exact ⟨A0, c0, by simpa using blk_set h1 1 (.int .i64 j), h2, h3⟩
def tokAt (L : List (S84)) (i : Int) : S84 := rd_T84 L i
abbrev tokV (t : S84) : Value := .agg #[.int .i64 t.f0, .string t.f1, .int .i64 t.f2]
theorem blk3 {w : World} {g : Nat} {L : List (S84)} {i : Int} {w0 : World} (hI : IsCur w0 w g L i) (hB : Below w0.heap.size w0 w) (h0 : 0 ≤ i) (h1 : i < L.length) : ∃ (ad : Addr) (c0 : Nat), ad.block ≠ g ∧ w.cell? ⟨g, 0, none⟩ = some (.slice (some ad) L.length c0) ∧ w.cell? ⟨g, 1, none⟩ = some (.int .i64 i) ∧ w.cell? (ad.add (i.toNat * 3)) = some (.int .i64 (tokAt L i).f0) ∧ w.cell? ⟨(ad.add (i.toNat * 3)).block, (ad.add (i.toNat * 3)).off + 1, none⟩ = some (.string (tokAt L i).f1) ∧ w.cell? ⟨(ad.add (i.toNat * 3)).block, (ad.add (i.toNat * 3)).off + 2, none⟩ = some (.int .i64 (tokAt L i).f2) := by
  obtain ⟨A0, c0, hb, hg, hc⟩ := hI
  obtain ⟨ad, rfl, k0, k1, k2⟩ := at_T84 hc i h0 h1
  refine ⟨ad, c0, ?_, (blk_cell hb 0).trans rfl, (blk_cell hb 1).trans rfl, pw_cell_below hB k0, pw_cell_below hB k1, pw_cell_below hB k2⟩
  have h := World.block_lt_of_cell? w0 _ k0
  rw [add_block] at h
  omega
theorem peek_walk (w0 w : World) (g : Nat) (L : List (S84)) (i : Int) (hI : IsCur w0 w g L i) (hB : Below w0.heap.size w0 w) (h0 : 0 ≤ i) (h1 : i < L.length) :
    Calls Tryz.prog 48 #[.pointer (some ⟨g, 0, none⟩)] w fun e w' => e = .returned (tokV (tokAt L i)) ∧ Below w.heap.size w w' := by
  have hu := Tryz.underlying84
  have hI1 := hI.alloc (.cells #[.int .i64 0, .string ⟨#[]⟩, .int .i64 0] 84)
  obtain ⟨ad, c0, hne0, hc0, hc1, k0, k1, k2⟩ := blk3 hI1 (hB.alloc hB.size _) h0 h1
  have HX : Aside0 ((w.alloc (.cells #[.int .i64 0, .string ⟨#[]⟩, .int .i64 0] 84)).heap[w.heap.size]? = some (.cells #[.int .i64 0, .string ⟨#[]⟩, .int .i64 0] 84 (0, 0))) := ⟨heap_alloc_new _ _⟩
  have HL : Aside0 (Below w.heap.size w (w.alloc (.cells #[.int .i64 0, .string ⟨#[]⟩, .int .i64 0] 84))) := ⟨below_alloc (Below.refl _ _) _⟩
  obtain ⟨n, hn⟩ : ∃ n, L.length = n := ⟨_, rfl⟩
  rw [hn] at hc0 h1
  have hlen : ((n : Int) == 0) = false := beq_eq_false_iff_ne.mpr (by omega)
  have hne : (n = 0) = False := eq_false (by omega)
  have g1 : decide (i < (n : Int)) = true := decide_eq_true h1
  have g0 : decide (0 ≤ i) = true := decide_eq_true h0
  clear hI hB hn hI1
  generalize tokAt L i = t at k0 k1 k2 ⊢
  go_enter Tryz.func48, Tryz.ntmps48
  go_upto_region 1 with (fail)
  obtain ⟨gb, hgb⟩ : ∃ gb, w.heap.size = gb := ⟨_, rfl⟩
  rw [hgb] at HX
  simp only [hgb]
  generalize w.alloc (.cells #[.int .i64 0, .string ⟨#[]⟩, .int .i64 0] 84) = W at HX HL hc0 hc1 k0 k1 k2 ⊢
  go_upto_region 3 with (fail)
  go_still_tail 10, (by kernel_rfl)
  change wpList _ _ _ _ _ W.drew
  have HX2 := Aside0.mk (blk_drew HX.out)
  have HL2 := Aside0.mk (below_drew1 HL.out)
  generalize W.drew = W2 at HX2 HL2 ⊢
  obtain ⟨d0, d1, d2⟩ := zc3 HX2
  obtain ⟨f0, f1, f2⟩ := zf3 HX2
  have hz2 := blk_lt HX2.out
  go_wp2
  have HG : Aside0 (w.heap.size ≤ gb) := ⟨Nat.le_of_eq hgb⟩
  exact bodyPost_ret (v := tokV t) (by simp [results, Tryz.results48, go_sem, d0, d1, d2, hz2]) rfl ⟨rfl, ((HL2.out.setCell HG.out _).setCell HG.out _).setCell HG.out _⟩
theorem keep_below {w W W1 : World} {g : Nat} (h : KeepBut w W g none) (hb : Below W.heap.size W W1) : KeepBut w W1 g none := h.trans (KeepBut.of_below hb g none) (.inl rfl)
theorem keep_new {w W : World} {g : Nat} {p : Addr} (h : KeepBut w W g none) (hp : w.heap.size ≤ p.block) (v : Value) : KeepBut w (W.setCell p v) g none :=
  ⟨by simpa [World.setCell] using h.1, fun k hk hg hr => (Below.heap_setCell W p v k (by omega)).trans (h.2 k hk hg hr)⟩
def nxt (L : List (S84)) (i : Int) : Int := if i < (L.length : Int) - 1 then i + 1 else i
theorem next_walk (w0 w : World) (g : Nat) (L : List (S84)) (i : Int) (hI : IsCur w0 w g L i) (hB : Below w0.heap.size w0 w) (h0 : 0 ≤ i) (h1 : i < L.length) (hL : L.length ≤ 1000000) :
    Calls Tryz.prog 103 #[.pointer (some ⟨g, 0, none⟩)] w fun e w' => e = .returned (tokV (tokAt L i)) ∧ IsCur w0 w' g L (nxt L i) ∧ Below w0.heap.size w0 w' ∧ KeepBut w w' g none := by
  have hu := Tryz.underlying84
  have HI := Aside0.mk (hI.alloc (.cells #[.int .i64 0, .string ⟨#[]⟩, .int .i64 0] 84))
  have HB := Aside0.mk (hB.alloc hB.size (.cells #[.int .i64 0, .string ⟨#[]⟩, .int .i64 0] 84))
  have HK := Aside0.mk (keep_alloc (KeepBut.refl w g none) (.cells #[.int .i64 0, .string ⟨#[]⟩, .int .i64 0] 84))
  have HX : Aside0 ((w.alloc (.cells #[.int .i64 0, .string ⟨#[]⟩, .int .i64 0] 84)).heap[w.heap.size]? = some (.cells #[.int .i64 0, .string ⟨#[]⟩, .int .i64 0] 84 (0, 0))) := ⟨heap_alloc_new _ _⟩
  have HW0 := Aside0.mk hB.size
  have H0 := Aside0.mk h0
  have H1 := Aside0.mk h1
  have HL := Aside0.mk hL
  clear hI hB h0 h1 hL
  go_enter Tryz.func103, Tryz.ntmps103
  go_upto_region 1 with (fail)
  obtain ⟨gb, hgb⟩ : ∃ gb, w.heap.size = gb := ⟨_, rfl⟩
  rw [hgb] at HX
  simp only [hgb]
  generalize w.alloc (.cells #[.int .i64 0, .string ⟨#[]⟩, .int .i64 0] 84) = W at HX HB HI HK ⊢
  go_wp2_with fail
  refine (peek_walk w0 W g L i HI.out HB.out H0.out H1.out).mono ?_
  rintro e w2 ⟨rfl, hb⟩
  replace HI := Aside0.mk (HI.out.below hb)
  replace HX := Aside0.mk (blk_below HX.out hb)
  replace HB := Aside0.mk (below_then HB.out HB.out.size hb)
  replace HK := Aside0.mk (keep_below HK.out hb)
  clear hb
  obtain ⟨t, ht⟩ : ∃ t, tokAt L i = t := ⟨_, rfl⟩
  rw [ht]
  have HV := Aside0.mk ht
  clear ht
  go_upto_region 2 with (fail)
  obtain ⟨gt, hgt⟩ : ∃ gt, w2.heap.size = gt := ⟨_, rfl⟩
  have HT : Aside0 ((w2.alloc (.cells #[.int .i64 t.f0, .string t.f1, .int .i64 t.f2] 84)).heap[w2.heap.size]? = some (.cells #[.int .i64 t.f0, .string t.f1, .int .i64 t.f2] 84 (0, 0))) := ⟨heap_alloc_new _ _⟩
  rw [hgt] at HT
  simp only [hgt]
  have HG : Aside0 (gt ≠ gb) := ⟨by have := blk_lt HX.out; omega⟩
  have HGg : Aside0 (gt ≠ g) := ⟨by have := HI.out.lt; omega⟩
  have HKb : Aside0 (w.heap.size ≤ gb) := ⟨Nat.le_of_eq hgb⟩
  have HGb : Aside0 (w0.heap.size ≤ gb) := ⟨by have := HW0.out; omega⟩
  have HKg : Aside0 (w.heap.size ≤ gt) := ⟨by have := HK.out.1; omega⟩
  replace HI := Aside0.mk (HI.out.alloc (.cells #[.int .i64 t.f0, .string t.f1, .int .i64 t.f2] 84))
  replace HX := Aside0.mk (blk_alloc HX.out (.cells #[.int .i64 t.f0, .string t.f1, .int .i64 t.f2] 84))
  replace HB := Aside0.mk (HB.out.alloc HB.out.size (.cells #[.int .i64 t.f0, .string t.f1, .int .i64 t.f2] 84))
  replace HK := Aside0.mk (keep_alloc HK.out (.cells #[.int .i64 t.f0, .string t.f1, .int .i64 t.f2] 84))
  clear hgt
  generalize w2.alloc (.cells #[.int .i64 t.f0, .string t.f1, .int .i64 t.f2] 84) = W3 at HI HX HB HK HT ⊢
  obtain ⟨ad, c0, hne0, hc0, hc1, _, _, _⟩ := blk3 HI.out HB.out H0.out H1.out
  obtain ⟨n, hn⟩ : ∃ n, L.length = n := ⟨_, rfl⟩
  rw [hn] at hc0
  by_cases hlt : i < (n : Int) - 1
  · have HN : Aside0 (nxt L i = i + 1) := ⟨by unfold nxt; rw [hn, if_pos hlt]⟩
    have g1 : decide (i < (n : Int) - 1) = true := decide_eq_true hlt
    have HL2 : Aside0 (i + 1 ≤ 1000000) := ⟨by have := HL.out; omega⟩
    have b1 : n ≤ 1000000 := by have := HL.out; omega
    have b2 : 1 ≤ n := by have := H0.out; omega
    clear hlt
    go_quiet (fail)
    replace HI : Aside0 (IsCur w0 (W3.drewN nq) g L i) := ⟨HI.out.blk_ rfl⟩
    replace HX : Aside0 ((W3.drewN nq).heap[gb]? = _) := ⟨HX.out⟩
    replace HT : Aside0 ((W3.drewN nq).heap[gt]? = _) := ⟨HT.out⟩
    replace HB : Aside0 (Below w0.heap.size w0 (W3.drewN nq)) := ⟨pw_below_drewN HB.out nq⟩
    replace HK : Aside0 (KeepBut w (W3.drewN nq) g none) := ⟨HK.out⟩
    replace hc1 : (W3.drewN nq).cell? ⟨g, 1, none⟩ = some (.int .i64 i) := hc1
    clear hc0
    generalize W3.drewN nq = W4 at HI HX HT HB HK hc1 ⊢
    have hfz : W4.frozen? ⟨g, 1, none⟩ = false := by obtain ⟨A1, c1, hb, _, _⟩ := HI.out; exact blk_frozen hb 1
    have h0 : 0 ≤ i := H0.out
    have h2 : i + 1 ≤ 1000000 := HL2.out
    have hg0 : (gb = g) = False := eq_false (by have := HI.out.ge; have h3 := HX.out; intro e; subst e; obtain ⟨A1, c1, hb, _, _⟩ := HI.out; rw [hb] at h3; injection h3 with h3; injection h3 with _ h3 _; exact absurd h3 (by decide))
    have hg1 : (gt = g) = False := eq_false HGg.out
    have hg2 : (gt = gb) = False := eq_false HG.out
    have hg3 : (g = gb) = False := eq_false (fun e => absurd e.symm (of_eq_false hg0))
    have hg4 : (g = gt) = False := eq_false (fun e => HGg.out e.symm)
    have hg5 : (gb = gt) = False := eq_false (fun e => HG.out e.symm)
    obtain ⟨d0, d1, d2⟩ := zc3 HX
    obtain ⟨f0, f1, f2⟩ := zf3 HX
    obtain ⟨e0, e1, e2⟩ := zc3 HT
    have hz2 := blk_lt HX.out
    go_wp2
    refine bodyPost_ret (v := tokV t) (by simp [results, Tryz.results103, go_sem, d0, d1, d2, hz2, hg0, hg3]) rfl ⟨by rw [HV.out], by rw [HN.out]; exact (((HI.out.set _).far (of_eq_false hg0) _).far (of_eq_false hg0) _).far (of_eq_false hg0) _, (((HB.out.setCell HI.out.ge _).setCell HGb.out _).setCell HGb.out _).setCell HGb.out _, keep_new (keep_new (keep_new (KeepBut.set_ HK.out 1 _) HKb.out _) HKb.out _) HKb.out _⟩
  · have HN : Aside0 (nxt L i = i) := ⟨by unfold nxt; rw [hn, if_neg hlt]⟩
    have g1 : decide (i < (n : Int) - 1) = false := decide_eq_false hlt
    have HL2 : Aside0 (i + 1 ≤ 1000000) := ⟨by have := HL.out; have := H1.out; omega⟩
    have b1 : n ≤ 1000000 := by have := HL.out; omega
    have b2 : 1 ≤ n := by have := H0.out; have := H1.out; omega
    clear hlt
    go_quiet (fail)
    replace HI : Aside0 (IsCur w0 (W3.drewN nq) g L i) := ⟨HI.out.blk_ rfl⟩
    replace HX : Aside0 ((W3.drewN nq).heap[gb]? = _) := ⟨HX.out⟩
    replace HT : Aside0 ((W3.drewN nq).heap[gt]? = _) := ⟨HT.out⟩
    replace HB : Aside0 (Below w0.heap.size w0 (W3.drewN nq)) := ⟨pw_below_drewN HB.out nq⟩
    replace HK : Aside0 (KeepBut w (W3.drewN nq) g none) := ⟨HK.out⟩
    replace hc1 : (W3.drewN nq).cell? ⟨g, 1, none⟩ = some (.int .i64 i) := hc1
    clear hc0
    generalize W3.drewN nq = W4 at HI HX HT HB HK hc1 ⊢
    have hfz : W4.frozen? ⟨g, 1, none⟩ = false := by obtain ⟨A1, c1, hb, _, _⟩ := HI.out; exact blk_frozen hb 1
    have h0 : 0 ≤ i := H0.out
    have h2 : i + 1 ≤ 1000000 := HL2.out
    have hg0 : (gb = g) = False := eq_false (by have := HI.out.ge; have h3 := HX.out; intro e; subst e; obtain ⟨A1, c1, hb, _, _⟩ := HI.out; rw [hb] at h3; injection h3 with h3; injection h3 with _ h3 _; exact absurd h3 (by decide))
    have hg1 : (gt = g) = False := eq_false HGg.out
    have hg2 : (gt = gb) = False := eq_false HG.out
    have hg3 : (g = gb) = False := eq_false (fun e => absurd e.symm (of_eq_false hg0))
    have hg4 : (g = gt) = False := eq_false (fun e => HGg.out e.symm)
    have hg5 : (gb = gt) = False := eq_false (fun e => HG.out e.symm)
    obtain ⟨d0, d1, d2⟩ := zc3 HX
    obtain ⟨f0, f1, f2⟩ := zf3 HX
    obtain ⟨e0, e1, e2⟩ := zc3 HT
    have hz2 := blk_lt HX.out
    go_wp2
    refine bodyPost_ret (v := tokV t) (by simp [results, Tryz.results103, go_sem, d0, d1, d2, hz2, hg0, hg3]) rfl ⟨by rw [HV.out], by rw [HN.out]; exact ((HI.out.far (of_eq_false hg0) _).far (of_eq_false hg0) _).far (of_eq_false hg0) _, ((HB.out.setCell HGb.out _).setCell HGb.out _).setCell HGb.out _, keep_new (keep_new (keep_new HK.out HKb.out _) HKb.out _) HKb.out _⟩
def isTok (L : List (S84)) (i k : Int) (s : ByteArray) : Bool := (tokAt L i).f0 == k && (tokAt L i).f1.toList == s.toList
def isNx (L : List (S84)) (i k : Int) (s : ByteArray) : Int := if isTok L i k s then nxt L i else i
theorem is_walk (w0 w : World) (g : Nat) (L : List (S84)) (i k : Int) (s : ByteArray) (hI : IsCur w0 w g L i) (hB : Below w0.heap.size w0 w) (h0 : 0 ≤ i) (h1 : i < L.length) (hL : L.length ≤ 1000000) :
    Calls Tryz.prog 107 #[.pointer (some ⟨g, 0, none⟩), .int .i64 k, .string s] w fun e w' => e = .returned (.bool (isTok L i k s)) ∧ IsCur w0 w' g L (isNx L i k s) ∧ Below w0.heap.size w0 w' ∧ KeepBut w w' g none := by
  have hu := Tryz.underlying84
  have HI := Aside0.mk hI
  have HB := Aside0.mk hB
  have HK := Aside0.mk (KeepBut.refl w g none)
  have HW0 := Aside0.mk hB.size
  have H0 := Aside0.mk h0
  have H1 := Aside0.mk h1
  have HL := Aside0.mk hL
  clear hI hB h0 h1 hL
  go_enter Tryz.func107, Tryz.ntmps107
  go_wp2_with fail
  refine (peek_walk w0 w g L i HI.out HB.out H0.out H1.out).mono ?_
  rintro e w2 ⟨rfl, hb⟩
  replace HI := Aside0.mk (HI.out.below hb)
  replace HB := Aside0.mk (below_then HB.out HB.out.size hb)
  replace HK := Aside0.mk (keep_below HK.out hb)
  clear hb
  obtain ⟨t, ht⟩ : ∃ t, tokAt L i = t := ⟨_, rfl⟩
  rw [ht]
  have HV := Aside0.mk ht
  clear ht
  go_upto_region 2 with (fail)
  obtain ⟨gt, hgt⟩ : ∃ gt, w2.heap.size = gt := ⟨_, rfl⟩
  have HT : Aside0 ((w2.alloc (.cells #[.int .i64 t.f0, .string t.f1, .int .i64 t.f2] 84)).heap[w2.heap.size]? = some (.cells #[.int .i64 t.f0, .string t.f1, .int .i64 t.f2] 84 (0, 0))) := ⟨heap_alloc_new _ _⟩
  rw [hgt] at HT
  simp only [hgt]
  replace HI := Aside0.mk (HI.out.alloc (.cells #[.int .i64 t.f0, .string t.f1, .int .i64 t.f2] 84))
  replace HB := Aside0.mk (HB.out.alloc HB.out.size (.cells #[.int .i64 t.f0, .string t.f1, .int .i64 t.f2] 84))
  replace HK := Aside0.mk (keep_alloc HK.out (.cells #[.int .i64 t.f0, .string t.f1, .int .i64 t.f2] 84))
  clear hgt
  generalize w2.alloc (.cells #[.int .i64 t.f0, .string t.f1, .int .i64 t.f2] 84) = W3 at HI HB HK HT ⊢
  obtain ⟨e0, e1, e2⟩ := zc3 HT
  by_cases hk : t.f0 = k
  · by_cases hs : t.f1.toList = s.toList
    · have HN : Aside0 (isTok L i k s = true) := ⟨by unfold isTok; rw [HV.out, hk, hs]; simp⟩
      have HM : Aside0 (isNx L i k s = nxt L i) := ⟨by unfold isNx; rw [HN.out, if_pos rfl]⟩
      have c1 : (t.f0 != k) = false := by rw [hk]; simp
      have c2 : (t.f1.toList == s.toList) = true := beq_iff_eq.mpr hs
      clear hk hs
      go_wp2_with fail
      refine (next_walk w0 W3 g L i HI.out HB.out H0.out H1.out HL.out).mono ?_
      rintro e w4 ⟨rfl, hi4, hb4, hk4⟩
      have HI4 := Aside0.mk hi4
      have HB4 := Aside0.mk hb4
      have HK4 := Aside0.mk (HK.out.trans hk4 (.inl rfl))
      clear hi4 hb4 hk4
      go_wp2
      go_ret
      exact ⟨by rw [HN.out]; rfl, by rw [HM.out]; exact HI4.out, HB4.out, HK4.out⟩
    · have HN : Aside0 (isTok L i k s = false) := ⟨by unfold isTok; rw [HV.out]; simp [hs]⟩
      have HM : Aside0 (isNx L i k s = i) := ⟨by unfold isNx; rw [HN.out]; rfl⟩
      have c1 : (t.f0 != k) = false := by rw [hk]; simp
      have c2 : (t.f1.toList == s.toList) = false := beq_eq_false_iff_ne.mpr hs
      clear hk hs
      go_wp2
      go_ret
      exact ⟨by rw [HN.out]; rfl, by rw [HM.out]; exact HI.out, HB.out, HK.out⟩
  · have HN : Aside0 (isTok L i k s = false) := ⟨by unfold isTok; rw [HV.out]; simp [hk]⟩
    have HM : Aside0 (isNx L i k s = i) := ⟨by unfold isNx; rw [HN.out]; rfl⟩
    have c1 : (t.f0 != k) = true := bne_iff_ne.mpr hk
    clear hk
    go_wp2
    go_ret
    exact ⟨by rw [HN.out]; rfl, by rw [HM.out]; exact HI.out, HB.out, HK.out⟩
theorem mark_walk (w0 w : World) (g : Nat) (L : List (S84)) (i : Int) (s : ByteArray) (hI : IsCur w0 w g L i) (hB : Below w0.heap.size w0 w) (h0 : 0 ≤ i) (h1 : i < L.length) (hL : L.length ≤ 1000000) :
    Calls Tryz.prog 73 #[.pointer (some ⟨g, 0, none⟩), .string s] w fun e w' => e = .returned (.bool (isTok L i 4 s)) ∧ IsCur w0 w' g L (isNx L i 4 s) ∧ Below w0.heap.size w0 w' ∧ KeepBut w w' g none := by
  have HI := Aside0.mk hI
  have HB := Aside0.mk hB
  have H0 := Aside0.mk h0
  have H1 := Aside0.mk h1
  have HL := Aside0.mk hL
  clear hI hB h0 h1 hL
  go_enter Tryz.func73, Tryz.ntmps73
  go_wp2_with fail
  refine (is_walk w0 w g L i 4 s HI.out HB.out H0.out H1.out HL.out).mono ?_
  rintro e w4 ⟨rfl, hi4, hb4, hk4⟩
  have HI4 := Aside0.mk hi4
  have HB4 := Aside0.mk hb4
  have HK4 := Aside0.mk hk4
  clear hi4 hb4 hk4
  go_wp2
  go_ret
  exact ⟨rfl, HI4.out, HB4.out, HK4.out⟩
end Go.Proofs.YtnphnhkinjppjaaGreatDoor.Q
end

section
set_option maxHeartbeats 8000000
set_option maxRecDepth 100000
namespace Go.Proofs.YtnphnhkinjppjaaGreatDoor.Q
open Go.RowKit Go.Proofs.YtnphnhkinjppjaaGreatDoorW.PrintWords Go.Proofs.YtnphnhkinjppjaaGreatDoorW.PrintLast Go.Proofs.YtnphnhkinjppjaaGreatDoorW.PrintMore
attribute [local go_sem] max2_int min2_int max_two min_two max_three min_three max_four min_four
mutual
def lexer_Number.j0 : Nat → ByteArray → Bool → Option (Int × Bool)
  | 0, _, _ => none
  | k + 1, x0, x21 => if x21 = true then (some (0, false)) else (lexer_Number.l0 k x0 0 (x0.size : Int) 0)
def lexer_Number.l0 : Nat → ByteArray → Int → Int → Int → Option (Int × Bool)
  | 0, _, _, _, _ => none
  | k + 1, x0, x4, x23, x24 => if x24 < x23 then (if 0 ≤ x24 then (if x24 < (x0.size : Int) then ((lexer_class.f k (bt x0 x24)).bind fun t257 => (if t257 = 3 then (lexer_Number.l0 k x0 (wrap64 ((wrap64 (x4 * 10)) + (((bt x0 x24) - 48) % 256))) x23 (wrap64 (x24 + 1))) else (some (0, false)))) else (none)) else (none)) else (if x4 ≥ 1099511627776 then (some (0, false)) else (some (x4, true)))
end
def lexer_Number.f (k : Nat) (a0 : ByteArray) : Option (Int × Bool) := if a0.toList = ([] : List UInt8) then (lexer_Number.j0 k a0 true) else (if (a0.size : Int) > 13 then (lexer_Number.j0 k a0 true) else (if 0 < (a0.size : Int) then (if (bt a0 0) = 48 then (lexer_Number.j0 k a0 (a0.toList != ([48] : List UInt8))) else (lexer_Number.j0 k a0 false)) else (none)))
theorem lexer_Number.mono_l : ∀ k, (∀ y0 y1, LeO (lexer_Number.j0 k y0 y1) (lexer_Number.j0 (k + 1) y0 y1)) ∧ (∀ y0 y1 y2 y3, LeO (lexer_Number.l0 k y0 y1 y2 y3) (lexer_Number.l0 (k + 1) y0 y1 y2 y3))
  | 0 => ⟨fun _ _ r h => by simp [lexer_Number.j0] at h, fun _ _ _ _ r h => by simp [lexer_Number.l0] at h⟩
  | k + 1 => by
    obtain ⟨ih0, ih1⟩ := lexer_Number.mono_l k
    refine ⟨?_, ?_⟩
    · intro y0 y1
      unfold lexer_Number.j0
      repeat' first
      | (with_reducible exact ih0 _ _)
      | (with_reducible exact ih1 _ _ _ _)
      | (with_reducible exact lexer_class.mono _ _)
      | (with_reducible exact LeO.refl _)
      | (with_reducible exact LeO.none _)
      | (with_reducible refine LeO.ite ?_ ?_)
      | (with_reducible refine LeO.bind ?_ (fun _ => ?_))
    · intro y0 y1 y2 y3
      unfold lexer_Number.l0
      repeat' first
      | (with_reducible exact ih0 _ _)
      | (with_reducible exact ih1 _ _ _ _)
      | (with_reducible exact lexer_class.mono _ _)
      | (with_reducible exact LeO.refl _)
      | (with_reducible exact LeO.none _)
      | (with_reducible refine LeO.ite ?_ ?_)
      | (with_reducible refine LeO.bind ?_ (fun _ => ?_))
theorem lexer_Number.mono : ∀ a0 k, LeO (lexer_Number.f k a0) (lexer_Number.f (k + 1) a0) := by
  intro a0 k
  obtain ⟨ih0, ih1⟩ := lexer_Number.mono_l k
  unfold lexer_Number.f
  repeat' first
      | (with_reducible exact ih0 _ _)
      | (with_reducible exact ih1 _ _ _ _)
      | (with_reducible exact lexer_class.mono _ _)
      | (with_reducible exact LeO.refl _)
      | (with_reducible exact LeO.none _)
      | (with_reducible refine LeO.ite ?_ ?_)
      | (with_reducible refine LeO.bind ?_ (fun _ => ?_))
theorem lexer_Number.calls (k : Nat) (a0 : ByteArray) (r1 : Int) (r2 : Bool) (w : World) (h : lexer_Number.f k a0 = some (r1, r2)) :
 Calls Tryz.prog 108 #[.string a0] w fun e w' => e = .returned (.tuple #[.int .i64 r1, .bool r2]) ∧ Drawn0 w w' := by
 unfold lexer_Number.f at h; have H := h
 clear h; have HC2 := Aside0.mk H; clear H
 go_enter Tryz.func108, Tryz.ntmps108
 go_upto_region 1 with (fail)
 go_cut [21] (fun v21 wc => ∃ (kq : Nat) (x21_1 : Bool), v21 = .bool x21_1 ∧ Aside0 (lexer_Number.j0 kq a0 x21_1 = some (r1, r2)) ∧ Aside0 (kq ≤ k) ∧ Drawn0 w wc)
 case first =>
  have H := HC2.out
  clear HC2
  by_cases c3 : a0.toList = ([] : List UInt8)
  · rw [if_pos c3] at H
    have c3b0 : (a0.toList == ([] : List UInt8)) = true := beq_iff_eq.mpr c3; have c3b1 : (a0.toList != ([] : List UInt8)) = false := bne_eq_false_iff_eq.mpr c3; clear c3
    (first | rw [c3b0] | (simp only [i64_w, i32_w]; rw [c3b0]) | skip)
    have H' := Aside0.mk H
    clear H
    go_wp2
    go_meet
    case rel => exact ⟨_, (true), zI, H', ⟨by first | omega | exact Nat.le_refl _⟩, by repeat (first | exact Drawn0.refl _ | apply Drawn0.step)⟩
  rw [if_neg c3] at H
  have c3b0 : (a0.toList == ([] : List UInt8)) = false := beq_eq_false_iff_ne.mpr c3
  have c3b1 : (a0.toList != ([] : List UInt8)) = true := bne_iff_ne.mpr c3
  (first | rw [c3b0] | (simp only [i64_w, i32_w]; rw [c3b0]) | skip)
  by_cases c4 : (a0.size : Int) > 13
  · rw [if_pos c4] at H
    have c4b0 : decide (13 < (a0.size : Int)) = true := decide_eq_true c4
    have c4b1 : decide (13 < a0.size) = true := decide_eq_true (by omega)
    clear c4
    have H' := Aside0.mk H
    clear H
    go_wp2
    go_meet
    case rel => exact ⟨_, (true), zI, H', ⟨by first | omega | exact Nat.le_refl _⟩, by repeat (first | exact Drawn0.refl _ | apply Drawn0.step)⟩
  rw [if_neg c4] at H; have c4b0 : decide (13 < (a0.size : Int)) = false := decide_eq_false c4
  have c4b1 : decide (13 < a0.size) = false := decide_eq_false (by omega)
  clear c4
  by_cases c5 : 0 < (a0.size : Int)
  rotate_left
  · rw [if_neg c5] at H
    exact absurd H (by simp)
  rw [if_pos c5] at H; have c5b0 : decide (0 < (a0.size : Int)) = true := decide_eq_true c5
  have c5b1 : decide (0 < a0.size) = true := decide_eq_true (by omega)
  clear c5
  by_cases c7 : (bt a0 0) = 48
  · rw [if_pos c7] at H
    have c7b0 : ((bt a0 0) == 48) = true := beq_iff_eq.mpr c7; have c7b1 : ((bt a0 0) != 48) = false := bne_eq_false_iff_eq.mpr c7; clear c7
    have H' := Aside0.mk H
    clear H
    have p6 : 0 ≤ (0 : Int) := (by omega)
    have q6 : 0 < a0.size := (by have : (0 : Int) < (a0.size : Int) := za; omega)
    have hx6 : ∀ h : 0 < a0.size, ((a0[0]'h).toNat : Int) = bt a0 0 := bt_at a0 0
    clear p6
    have qi6 : (0 < (a0.size : Int)) = True := eq_true (of_decide_eq_true (by first | (with_reducible assumption) | assumption))
    replace q6 := eq_true q6
    go_wp2
    go_meet
    case rel => exact ⟨_, ((a0.toList != ([48] : List UInt8))), zI, H', ⟨by first | omega | exact Nat.le_refl _⟩, by repeat (first | exact Drawn0.refl _ | apply Drawn0.step)⟩
  rw [if_neg c7] at H
  have c7b0 : ((bt a0 0) == 48) = false := beq_eq_false_iff_ne.mpr c7
  have c7b1 : ((bt a0 0) != 48) = true := bne_iff_ne.mpr c7
  have H' := Aside0.mk H
  clear H
  have p6 : 0 ≤ (0 : Int) := (by omega)
  have q6 : 0 < a0.size := (by have : (0 : Int) < (a0.size : Int) := za; omega)
  have hx6 : ∀ h : 0 < a0.size, ((a0[0]'h).toNat : Int) = bt a0 0 := bt_at a0 0
  clear p6
  have qi6 : (0 < (a0.size : Int)) = True := eq_true (of_decide_eq_true (by first | (with_reducible assumption) | assumption))
  replace q6 := eq_true q6
  go_wp2
  go_meet
  case rel => exact ⟨_, (false), zI, H', ⟨by first | omega | exact Nat.le_refl _⟩, by repeat (first | exact Drawn0.refl _ | apply Drawn0.step)⟩
 case rest =>
  clear HC2
  obtain ⟨kq, x21_1, rfl, HA, HJ1, ⟨mc1, rfl⟩⟩ := hcut
  rcases kq with _ | kj1
  · exact absurd HA.out (by simp [lexer_Number.j0])
  have H := HA.out
  clear HA
  simp only [lexer_Number.j0] at H
  by_cases c8 : x21_1 = true
  · subst c8
    rw [if_pos rfl] at H
    simp only [Option.some.injEq, Prod.mk.injEq] at H
    obtain ⟨rfl, rfl⟩ := H
    go_wp2
    go_ret2
    exact ⟨by first | rfl | (simp; done) | (simp [*]; done), by repeat (first | exact Drawn0.refl _ | apply Drawn0.step)⟩
  replace c8 := Bool.eq_false_iff.mpr c8
  subst c8; rw [if_neg zF] at H
  have H' := Aside0.mk H
  clear H
  go_wp2
  go_loopg [4, 24] kj1 (fun kq v4 v24 w' => ∃ (x4_2 : Int) (x24_2 : Int), v4 = .int .i64 x4_2 ∧ v24 = .int .i64 x24_2 ∧ Aside0 (lexer_Number.l0 kq a0 x4_2 (a0.size : Int) x24_2 = some (r1, r2)) ∧ Aside0 (kq ≤ kj1) ∧ Drawn0 w w')
  case atStart => exact ⟨(0), (0), zI, zI, H', ⟨Nat.le_refl _⟩, by repeat (first | exact Drawn0.refl _ | apply Drawn0.step)⟩
  case round =>
   clear H'
   try clear c8
   obtain ⟨x4_2, x24_2, rfl, rfl, HA, HK2, ⟨m2, rfl⟩⟩ := hrel
   rcases gk with _ | k2
   · exact absurd HA.out (by simp [lexer_Number.l0])
   have H := HA.out
   clear HA
   simp only [lexer_Number.l0] at H
   by_cases c9 : x24_2 < (a0.size : Int)
   rotate_left
   · rw [if_neg c9] at H
     have c9b0 : decide (x24_2 < (a0.size : Int)) = false := decide_eq_false c9; clear c9
     by_cases c16 : x4_2 ≥ 1099511627776
     · rw [if_pos c16] at H
       have c16b0 : decide (1099511627776 ≤ x4_2) = true := decide_eq_true c16; clear c16
       simp only [Option.some.injEq, Prod.mk.injEq] at H
       obtain ⟨rfl, rfl⟩ := H
       go_wp2
       go_ret2
       exact ⟨by first | rfl | (simp; done) | (simp [*]; done), by repeat (first | exact Drawn0.refl _ | apply Drawn0.step)⟩
     rw [if_neg c16] at H
     have c16b0 : decide (1099511627776 ≤ x4_2) = false := decide_eq_false c16; clear c16
     simp only [Option.some.injEq, Prod.mk.injEq] at H
     obtain ⟨rfl, rfl⟩ := H
     go_wp2
     go_ret2
     exact ⟨by first | rfl | (simp; done) | (simp [*]; done), by repeat (first | exact Drawn0.refl _ | apply Drawn0.step)⟩
   rw [if_pos c9] at H
   have c9b0 : decide (x24_2 < (a0.size : Int)) = true := decide_eq_true c9; clear c9
   by_cases c10 : 0 ≤ x24_2
   rotate_left
   · rw [if_neg c10] at H
     exact absurd H (by simp)
   rw [if_pos c10] at H
   have c10b0 : decide (0 ≤ x24_2) = true := decide_eq_true c10; clear c10
   by_cases c11 : x24_2 < (a0.size : Int)
   rotate_left
   · rw [if_neg c11] at H
     exact absurd H (by simp)
   rw [if_pos c11] at H
   have c11b0 : decide (x24_2 < (a0.size : Int)) = true := decide_eq_true c11; clear c11
   replace H := Option.bind_eq_some_iff.mp H
   obtain ⟨t257, A130, H⟩ := H
   replace H : (if t257 = 3 then (lexer_Number.l0 k2 a0 (wrap64 ((wrap64 (x4_2 * 10)) + (((bt a0 x24_2) - 48) % 256))) (a0.size : Int) (wrap64 (x24_2 + 1))) else (some (0, false))) = some (r1, r2) := H
   have A13 := Aside0.mk A130; clear A130
   by_cases c14 : t257 = 3
   · rw [if_pos c14] at H
     have c14b0 : (t257 == 3) = true := beq_iff_eq.mpr c14; have c14b1 : (t257 != 3) = false := bne_eq_false_iff_eq.mpr c14; clear c14
     have H' := Aside0.mk H
     clear H
     have p12 : 0 ≤ (x24_2 : Int) := za
     have q12 : x24_2 < (a0.size : Int) := za
     have hx12 := bt_at a0 x24_2
     replace p12 := eq_true p12
     replace q12 := eq_true q12
     go_wp2_with (first | ((with_reducible refine gate_callee (f := 88) rfl ?_); refine zgl 30 Tryz.func88 #[.int .u8 (bt a0 x24_2)] ?_; (with_reducible refine (lexer_class.calls k2 (bt a0 x24_2) t257 _ A13.out).mono ?_); rintro e w' ⟨rfl, ⟨nd, rfl⟩⟩; refine ⟨_, rfl, ?_⟩; have p15 : 0 ≤ (x24_2 : Int) := za; have q15 : x24_2 < (a0.size : Int) := za; have hx15 := bt_at a0 x24_2; replace p15 := eq_true p15; replace q15 := eq_true q15))
     go_roundg k2
     case measure => have := HJ1.out; have := HK2.out; omega
     case rel => exact ⟨(wrap64 ((wrap64 (x4_2 * 10)) + (((bt a0 x24_2) - 48) % 256))), (wrap64 (x24_2 + 1)), zI, zI, H', ⟨by have := HJ1.out; have := HK2.out; omega⟩, by repeat (first | exact Drawn0.refl _ | apply Drawn0.step)⟩
   rw [if_neg c14] at H
   have c14b0 : (t257 == 3) = false := beq_eq_false_iff_ne.mpr c14
   have c14b1 : (t257 != 3) = true := bne_iff_ne.mpr c14
   simp only [Option.some.injEq, Prod.mk.injEq] at H
   obtain ⟨rfl, rfl⟩ := H
   have p12 : 0 ≤ (x24_2 : Int) := za
   have q12 : x24_2 < (a0.size : Int) := za
   have hx12 := bt_at a0 x24_2
   replace p12 := eq_true p12
   replace q12 := eq_true q12
   go_wp2_with (first | ((with_reducible refine gate_callee (f := 88) rfl ?_); refine zgl 30 Tryz.func88 #[.int .u8 (bt a0 x24_2)] ?_; (with_reducible refine (lexer_class.calls k2 (bt a0 x24_2) t257 _ A13.out).mono ?_); rintro e w' ⟨rfl, ⟨nd, rfl⟩⟩; refine ⟨_, rfl, ?_⟩))
   go_ret2
   exact ⟨by first | rfl | (simp; done) | (simp [*]; done), by repeat (first | exact Drawn0.refl _ | apply Drawn0.step)⟩
def slices_Index_string.l0 : Nat → List ByteArray → ByteArray → Int → Int → Option (Int)
  | 0, _, _, _, _ => none
  | k + 1, x0, x1, x7, x8 => if x8 < x7 then (if 0 ≤ x8 then (if x8 < (x0.length : Int) then (if x1.toList = (rdOf ByteArray.empty x0 x8).toList then (some x8) else (slices_Index_string.l0 k x0 x1 x7 (wrap64 (x8 + 1)))) else (none)) else (none)) else (some (-1))
def slices_Index_string.f (k : Nat) (l0 : List ByteArray) (a1 : ByteArray) : Option (Int) := slices_Index_string.l0 k l0 a1 (l0.length : Int) 0
theorem slices_Index_string.mono_l : ∀ k, (∀ y0 y1 y2 y3, LeO (slices_Index_string.l0 k y0 y1 y2 y3) (slices_Index_string.l0 (k + 1) y0 y1 y2 y3))
  | 0 => fun _ _ _ _ r h => by simp [slices_Index_string.l0] at h
  | k + 1 => by
    have ih0 := slices_Index_string.mono_l k
    · intro y0 y1 y2 y3
      unfold slices_Index_string.l0
      repeat' first
      | (with_reducible exact ih0 _ _ _ _)
      | (with_reducible exact LeO.refl _)
      | (with_reducible exact LeO.none _)
      | (with_reducible refine LeO.ite ?_ ?_)
      | (with_reducible refine LeO.bind ?_ (fun _ => ?_))
theorem slices_Index_string.mono : ∀ a0 a1 k, LeO (slices_Index_string.f k a0 a1) (slices_Index_string.f (k + 1) a0 a1) := by
  intro a0 a1 k
  have ih0 := slices_Index_string.mono_l k
  unfold slices_Index_string.f
  repeat' first
      | (with_reducible exact ih0 _ _ _ _)
      | (with_reducible exact LeO.refl _)
      | (with_reducible exact LeO.none _)
      | (with_reducible refine LeO.ite ?_ ?_)
      | (with_reducible refine LeO.bind ?_ (fun _ => ?_))
theorem slices_Index_string.calls (k : Nat) (A0 : Option Addr) (c0 : Nat) (l0 : List ByteArray) (a1 : ByteArray) (r : Int) (w : World) (hr0 : Kd.C Kd.string w A0 l0.length l0) (hc0 : l0.length ≤ c0) (h : slices_Index_string.f k l0 a1 = some r) :
 Calls Tryz.prog 74 #[.slice A0 l0.length c0, .string a1] w fun e w' => e = .returned (.int .i64 r) ∧ Drawn0 w w' := by
 have HR0 := Aside0.mk hr0; have HC0 := Aside0.mk hc0; clear hr0 hc0
 unfold slices_Index_string.f at h; have H := h
 clear h
 have H' := Aside0.mk H
 clear H
 go_enter Tryz.func74, Tryz.ntmps74
 go_wp2
 go_loopg [8] k (fun kq v8 w' => ∃ (x8_1 : Int), v8 = .int .i64 x8_1 ∧ Aside0 (slices_Index_string.l0 kq l0 a1 (l0.length : Int) x8_1 = some r) ∧ Aside0 (kq ≤ k) ∧ Drawn0 w w')
 case atStart => exact ⟨(0), zI, H', ⟨Nat.le_refl _⟩, by repeat (first | exact Drawn0.refl _ | apply Drawn0.step)⟩
 case round =>
  clear H'
  obtain ⟨x8_1, rfl, HA, HK1, ⟨m1, rfl⟩⟩ := hrel
  rcases gk with _ | k1
  · exact absurd HA.out (by simp [slices_Index_string.l0])
  have H := HA.out
  clear HA
  simp only [slices_Index_string.l0] at H
  by_cases c3 : x8_1 < (l0.length : Int)
  rotate_left
  · rw [if_neg c3] at H
    have c3b0 : decide (x8_1 < (l0.length : Int)) = false := decide_eq_false c3; clear c3
    obtain rfl := Option.some.inj H
    go_wp2
    go_ret
    exact ⟨by first | rfl | (simp; done) | (simp [*]; done), by repeat (first | exact Drawn0.refl _ | apply Drawn0.step)⟩
  rw [if_pos c3] at H
  have c3b0 : decide (x8_1 < (l0.length : Int)) = true := decide_eq_true c3; clear c3
  by_cases c4 : 0 ≤ x8_1
  rotate_left
  · rw [if_neg c4] at H
    exact absurd H (by simp)
  rw [if_pos c4] at H
  have c4b0 : decide (0 ≤ x8_1) = true := decide_eq_true c4; clear c4
  by_cases c5 : x8_1 < (l0.length : Int)
  rotate_left
  · rw [if_neg c5] at H
    exact absurd H (by simp)
  rw [if_pos c5] at H
  have c5b0 : decide (x8_1 < (l0.length : Int)) = true := decide_eq_true c5; clear c5
  by_cases c6 : a1.toList = (rdOf ByteArray.empty l0 x8_1).toList
  · rw [if_pos c6] at H
    have c6b0 : (a1.toList == (rdOf ByteArray.empty l0 x8_1).toList) = true := beq_iff_eq.mpr c6; have c6b1 : (a1.toList != (rdOf ByteArray.empty l0 x8_1).toList) = false := bne_eq_false_iff_eq.mpr c6; clear c6
    obtain rfl := Option.some.inj H
    have p256 : 0 ≤ (x8_1 : Int) := za
    have q256 : x8_1 < (l0.length : Int) := za
    obtain ⟨ad256, e256, hx256_0⟩ := Kd.at_string HR0.out x8_1 p256 q256
    cases e256
    replace p256 := eq_true p256
    replace q256 := eq_true q256
    go_wp2
    go_ret
    exact ⟨by first | rfl | (simp; done) | (simp [*]; done), by repeat (first | exact Drawn0.refl _ | apply Drawn0.step)⟩
  rw [if_neg c6] at H
  have c6b0 : (a1.toList == (rdOf ByteArray.empty l0 x8_1).toList) = false := beq_eq_false_iff_ne.mpr c6
  have c6b1 : (a1.toList != (rdOf ByteArray.empty l0 x8_1).toList) = true := bne_iff_ne.mpr c6
  have H' := Aside0.mk H
  clear H
  have p256 : 0 ≤ (x8_1 : Int) := za
  have q256 : x8_1 < (l0.length : Int) := za
  obtain ⟨ad256, e256, hx256_0⟩ := Kd.at_string HR0.out x8_1 p256 q256
  cases e256
  replace p256 := eq_true p256
  replace q256 := eq_true q256
  go_wp2
  go_roundg k1
  case measure => have := HK1.out; omega
  case rel => exact ⟨(wrap64 (x8_1 + 1)), zI, H', ⟨by have := HK1.out; omega⟩, by repeat (first | exact Drawn0.refl _ | apply Drawn0.step)⟩
end Go.Proofs.YtnphnhkinjppjaaGreatDoor.Q
end

section
set_option maxHeartbeats 8000000
set_option maxRecDepth 100000
namespace Go.Proofs.YtnphnhkinjppjaaGreatDoor.Q
open Go.RowKit Go.Proofs.YtnphnhkinjppjaaGreatDoorW.PrintWords Go.Proofs.YtnphnhkinjppjaaGreatDoorW.PrintLast Go.Proofs.YtnphnhkinjppjaaGreatDoorW.PrintMore
structure IsPar (w0 W : World) (p c : Nat) (L : List (S84)) (i e a : Int) : Prop where
  blk : W.heap[p]? = some (.cells #[.pointer (some ⟨c, 0, none⟩), .int .i64 e, .int .i64 a] 82 (0, 0))
  ge : w0.heap.size ≤ p
  cur : IsCur w0 W c L i
section
variable {w0 W W1 : World} {p c : Nat} {L : List (S84)} {i e a : Int}
theorem IsPar.ne (h : IsPar w0 W p c L i e a) : p ≠ c := by
  obtain ⟨A0, c0, h1, h2, h3⟩ := h.cur
  rintro rfl
  have := h.blk
  rw [h1] at this
  injection this with this
  injection this with _ ht _
  exact absurd ht (by decide)
theorem IsPar.lt (h : IsPar w0 W p c L i e a) : p < W.heap.size := blk_lt h.blk
theorem IsPar.below (h : IsPar w0 W p c L i e a) (hb : Below W.heap.size W W1) : IsPar w0 W1 p c L i e a := ⟨blk_below h.blk hb, h.ge, h.cur.below hb⟩
theorem IsPar.drew (h : IsPar w0 W p c L i e a) : IsPar w0 W.drew p c L i e a := ⟨h.blk, h.ge, h.cur.blk_ rfl⟩
theorem IsPar.alloc (h : IsPar w0 W p c L i e a) (o : Obj) : IsPar w0 (W.alloc o) p c L i e a := h.below (below_alloc (Below.refl _ _) o)
theorem IsPar.keep (h : IsPar w0 W p c L i e a) (hk : KeepBut W W1 c none) {j : Int} (hc : IsCur w0 W1 c L j) : IsPar w0 W1 p c L j e a := ⟨hk.blk h.blk h.ne (by simp), h.ge, hc⟩
theorem IsPar.far (h : IsPar w0 W p c L i e a) {q : Addr} (h1 : q.block ≠ p) (h2 : q.block ≠ c) (v : Value) : IsPar w0 (W.setCell q v) p c L i e a := ⟨(Below.heap_setCell W q v p (Ne.symm h1)).trans h.blk, h.ge, h.cur.far h2 v⟩
theorem IsPar.set (h : IsPar w0 W p c L i e a) (x y : Int) : IsPar w0 ((W.setCell ⟨p, 1, none⟩ (.int .i64 x)).setCell ⟨p, 2, none⟩ (.int .i64 y)) p c L i x y :=
  ⟨by simpa using blk_set (blk_set h.blk 1 (.int .i64 x)) 2 (.int .i64 y), h.ge, (h.cur.far h.ne _).far h.ne _⟩
theorem IsPar.cells (h : IsPar w0 W p c L i e a) : W.cell? ⟨p, 0, none⟩ = some (.pointer (some ⟨c, 0, none⟩)) ∧ W.cell? ⟨p, 1, none⟩ = some (.int .i64 e) ∧ W.cell? ⟨p, 2, none⟩ = some (.int .i64 a) := ⟨(blk_cell h.blk 0).trans rfl, (blk_cell h.blk 1).trans rfl, (blk_cell h.blk 2).trans rfl⟩
end
abbrev KeepPC (w W : World) (p c : Nat) : Prop := Kept w W (fun k => k = p ∨ k = c)
def failE (e ec : Int) : Int := if e = 0 then ec else e
def failA (e a x : Int) : Int := if e = 0 then x else a
theorem fail_walk (w0 w : World) (p c : Nat) (L : List (S84)) (i e a ec : Int) (t : S84) (hI : IsPar w0 w p c L i e a) (hB : Below w0.heap.size w0 w) :
    Calls Tryz.prog 71 #[.pointer (some ⟨p, 0, none⟩), .int .i64 ec, tokV t] w fun r w' => r = .returned (.tuple #[]) ∧ IsPar w0 w' p c L i (failE e ec) (failA e a t.f2) ∧ Below w0.heap.size w0 w' ∧ KeepPC w w' p c := by
  have hu := Tryz.underlying84
  have HI := Aside0.mk (hI.alloc (.cells #[.int .i64 t.f0, .string t.f1, .int .i64 t.f2] 84))
  have HB := Aside0.mk (hB.alloc hB.size (.cells #[.int .i64 t.f0, .string t.f1, .int .i64 t.f2] 84))
  have HK := Aside0.mk ((Kept.refl w (fun k => k = p ∨ k = c)).alloc (.cells #[.int .i64 t.f0, .string t.f1, .int .i64 t.f2] 84))
  have HX : Aside0 ((w.alloc (.cells #[.int .i64 t.f0, .string t.f1, .int .i64 t.f2] 84)).heap[w.heap.size]? = some (.cells #[.int .i64 t.f0, .string t.f1, .int .i64 t.f2] 84 (0, 0))) := ⟨heap_alloc_new _ _⟩
  have HN : Aside0 (p ≠ w.heap.size) := ⟨Nat.ne_of_lt hI.lt⟩
  clear hI hB
  go_enter Tryz.func71, Tryz.ntmps71
  go_upto_region 1 with (fail)
  obtain ⟨gb, hgb⟩ : ∃ gb, w.heap.size = gb := ⟨_, rfl⟩
  rw [hgb] at HX HN
  simp only [hgb]
  generalize w.alloc (.cells #[.int .i64 t.f0, .string t.f1, .int .i64 t.f2] 84) = W at HX HB HI HK ⊢
  obtain ⟨c0, c1, c2⟩ := HI.out.cells
  obtain ⟨f0, f1, f2⟩ := zf3 ⟨HI.out.blk⟩
  obtain ⟨d0, d1, d2⟩ := zc3 HX
  have hg0 : (gb = p) = False := eq_false (fun h => HN.out h.symm)
  have hg1 : (p = gb) = False := eq_false HN.out
  by_cases he : e = 0
  · have b1 : (e == 0) = true := beq_iff_eq.mpr he
    have HE : Aside0 (failE e ec = ec ∧ failA e a t.f2 = t.f2) := ⟨if_pos he, if_pos he⟩
    clear he
    go_wp2
    go_region
    go_end0
    refine ⟨rfl, by rw [HE.out.1, HE.out.2]; exact (HI.out.set _ _).drew, below_drew ((HB.out.setCell (p := ⟨p, 1, none⟩) HI.out.ge _).setCell (p := ⟨p, 2, none⟩) HI.out.ge _), ((HK.out.setCell (p := ⟨p, 1, none⟩) (.inl (.inl rfl)) _).setCell (p := ⟨p, 2, none⟩) (.inl (.inl rfl)) _).drew⟩
  · have b1 : (e == 0) = false := beq_eq_false_iff_ne.mpr he
    have HE : Aside0 (failE e ec = e ∧ failA e a t.f2 = a) := ⟨if_neg he, if_neg he⟩
    clear he
    go_wp2
    go_end0
    exact ⟨rfl, by rw [HE.out.1, HE.out.2]; exact HI.out, HB.out, HK.out⟩
def pword (L : List (S84)) (i e a : Int) : S84 × Int × Int × Int :=
  if e = 0 then (if (tokAt L i).f0 = 1 then (tokAt L i, nxt L i, e, a) else (z84, i, 14, (tokAt L i).f2)) else (z84, i, e, a)
structure PosIn (L : List (S84)) (i : Int) : Prop where
  ge : 0 ≤ i
  lt : i < L.length
  le : L.length ≤ 1000000
theorem PosIn.nxt {L : List (S84)} {i : Int} (h : PosIn L i) : PosIn L (nxt L i) := by
  obtain ⟨h0, h1, h2⟩ := h
  unfold Q.nxt
  split
  · exact ⟨by omega, by omega, h2⟩
  · exact ⟨h0, h1, h2⟩
theorem PosIn.word {L : List (S84)} {i e a : Int} (h : PosIn L i) : PosIn L (pword L i e a).2.1 := by
  unfold pword
  split
  · split
    · exact h.nxt
    · exact h
  · exact h
theorem word_walk (w0 w : World) (p c : Nat) (L : List (S84)) (i e a : Int) (hI : IsPar w0 w p c L i e a) (hB : Below w0.heap.size w0 w) (hP : PosIn L i) :
    Calls Tryz.prog 70 #[.pointer (some ⟨p, 0, none⟩)] w fun r w' => r = .returned (tokV (pword L i e a).1) ∧ IsPar w0 w' p c L (pword L i e a).2.1 (pword L i e a).2.2.1 (pword L i e a).2.2.2 ∧ Below w0.heap.size w0 w' ∧ KeepPC w w' p c := by
  have hu := Tryz.underlying84
  have HI := Aside0.mk (hI.alloc (.cells #[.int .i64 0, .string ⟨#[]⟩, .int .i64 0] 84))
  have HB := Aside0.mk (hB.alloc hB.size (.cells #[.int .i64 0, .string ⟨#[]⟩, .int .i64 0] 84))
  have HK := Aside0.mk ((Kept.refl w (fun k => k = p ∨ k = c)).alloc (.cells #[.int .i64 0, .string ⟨#[]⟩, .int .i64 0] 84))
  have HX : Aside0 ((w.alloc (.cells #[.int .i64 0, .string ⟨#[]⟩, .int .i64 0] 84)).heap[w.heap.size]? = some (.cells #[.int .i64 0, .string ⟨#[]⟩, .int .i64 0] 84 (0, 0))) := ⟨heap_alloc_new _ _⟩
  have HP := Aside0.mk hP
  have HN : Aside0 (p ≠ w.heap.size ∧ c ≠ w.heap.size ∧ w0.heap.size ≤ w.heap.size) := ⟨Nat.ne_of_lt hI.lt, Nat.ne_of_lt hI.cur.lt, hB.size⟩
  clear hI hB hP
  go_enter Tryz.func70, Tryz.ntmps70
  go_upto_region 1 with (fail)
  obtain ⟨gb, hgb⟩ : ∃ gb, w.heap.size = gb := ⟨_, rfl⟩
  rw [hgb] at HX HN
  have HS : Aside0 (w.heap.size ≤ gb) := ⟨Nat.le_of_eq hgb⟩
  simp only [hgb]
  clear hgb
  generalize w.alloc (.cells #[.int .i64 0, .string ⟨#[]⟩, .int .i64 0] 84) = W at HX HB HI HK ⊢
  obtain ⟨c0, c1, c2⟩ := HI.out.cells
  go_wp2_with fail
  refine (peek_walk w0 W c L i HI.out.cur HB.out HP.out.ge HP.out.lt).mono ?_
  rintro r w2 ⟨rfl, hb⟩
  replace HI := Aside0.mk (HI.out.below hb)
  replace HX := Aside0.mk (blk_below HX.out hb)
  replace HB := Aside0.mk (below_then HB.out HB.out.size hb)
  replace HK := Aside0.mk (HK.out.below hb)
  clear hb c0 c1 c2
  obtain ⟨t, ht⟩ : ∃ t, tokAt L i = t := ⟨_, rfl⟩
  rw [ht]
  have HV := Aside0.mk ht
  clear ht
  go_upto_region 2 with (fail)
  obtain ⟨gt, hgt⟩ : ∃ gt, w2.heap.size = gt := ⟨_, rfl⟩
  have HT : Aside0 ((w2.alloc (.cells #[.int .i64 t.f0, .string t.f1, .int .i64 t.f2] 84)).heap[w2.heap.size]? = some (.cells #[.int .i64 t.f0, .string t.f1, .int .i64 t.f2] 84 (0, 0))) := ⟨heap_alloc_new _ _⟩
  rw [hgt] at HT
  simp only [hgt]
  have HG : Aside0 (gt ≠ gb ∧ gt ≠ p ∧ gt ≠ c) := ⟨by have := blk_lt HX.out; omega, by have := HI.out.lt; omega, by have := HI.out.cur.lt; omega⟩
  replace HI := Aside0.mk (HI.out.alloc (.cells #[.int .i64 t.f0, .string t.f1, .int .i64 t.f2] 84))
  replace HX := Aside0.mk (blk_alloc HX.out (.cells #[.int .i64 t.f0, .string t.f1, .int .i64 t.f2] 84))
  replace HB := Aside0.mk (HB.out.alloc HB.out.size (.cells #[.int .i64 t.f0, .string t.f1, .int .i64 t.f2] 84))
  replace HK := Aside0.mk (HK.out.alloc (.cells #[.int .i64 t.f0, .string t.f1, .int .i64 t.f2] 84))
  clear hgt
  generalize w2.alloc (.cells #[.int .i64 t.f0, .string t.f1, .int .i64 t.f2] 84) = W3 at HI HX HB HK HT ⊢
  obtain ⟨c0, c1, c2⟩ := HI.out.cells
  obtain ⟨d0, d1, d2⟩ := zc3 HX
  obtain ⟨f0, f1, f2⟩ := zf3 HX
  obtain ⟨e0, e1, e2⟩ := zc3 HT
  have hz2 := blk_lt HX.out
  by_cases he : e = 0
  · have b1 : (e != 0) = false := by rw [he]; rfl
    by_cases hk : t.f0 = 1
    · have b2 : (t.f0 != 1) = false := by rw [hk]; rfl
      have HE : Aside0 (pword L i e a = (t, nxt L i, e, a)) := ⟨by unfold pword; rw [HV.out, if_pos he, if_pos hk]⟩
      clear he hk
      go_wp2_with fail
      refine (next_walk w0 W3 c L i HI.out.cur HB.out HP.out.ge HP.out.lt HP.out.le).mono ?_
      rintro r w4 ⟨rfl, hi, hb, hk⟩
      rw [HV.out]
      clear c0 c1 c2 d0 d1 d2 f0 f1 f2 e0 e1 e2 hz2
      have HI4 := Aside0.mk (HI.out.keep hk hi)
      have HX4 := Aside0.mk (hk.blk HX.out (Ne.symm HN.out.2.1) (by simp))
      have HB4 := Aside0.mk hb
      have HK4 := Aside0.mk (HK.out.of_keep hk (.inl (.inr rfl)))
      clear hi hb hk
      obtain ⟨d0, d1, d2⟩ := zc3 HX4
      obtain ⟨f0, f1, f2⟩ := zf3 HX4
      have hz2 := blk_lt HX4.out
      go_wp2
      refine bodyPost_ret (v := tokV t) (by simp [results, Tryz.results70, go_sem, d0, d1, d2, hz2]) rfl ⟨by rw [HE.out], ?_, ?_, ?_⟩
      · rw [HE.out]
        exact ((HI4.out.far (Ne.symm HN.out.1) (Ne.symm HN.out.2.1) _).far (Ne.symm HN.out.1) (Ne.symm HN.out.2.1) _).far (Ne.symm HN.out.1) (Ne.symm HN.out.2.1) _
      · exact ((HB4.out.setCell HN.out.2.2 _).setCell HN.out.2.2 _).setCell HN.out.2.2 _
      · exact ((HK4.out.setCell (.inr HS.out) _).setCell (.inr HS.out) _).setCell (.inr HS.out) _
    · have b2 : (t.f0 != 1) = true := bne_iff_ne.mpr hk
      have HE : Aside0 (pword L i e a = (z84, i, 14, t.f2)) := ⟨by unfold pword; rw [HV.out, if_pos he, if_neg hk]⟩
      have HE0 := Aside0.mk he
      clear he hk
      go_wp2_with fail
      refine (fail_walk w0 W3 p c L i e a 14 t HI.out HB.out).mono ?_
      rintro r w4 ⟨rfl, hi, hb, hk⟩
      rw [show failE e 14 = 14 from if_pos HE0.out, show failA e a t.f2 = t.f2 from if_pos HE0.out] at hi
      clear c0 c1 c2 d0 d1 d2 f0 f1 f2 e0 e1 e2 hz2
      have HI4 := Aside0.mk hi
      have HX4 := Aside0.mk (blk_kept HX.out hk (by rintro (h | h); exact HN.out.1 h.symm; exact HN.out.2.1 h.symm))
      have HB4 := Aside0.mk hb
      have HK4 := Aside0.mk (HK.out.then_ hk (fun _ h => .inl h))
      clear hi hb hk
      obtain ⟨d0, d1, d2⟩ := zc3 HX4
      obtain ⟨f0, f1, f2⟩ := zf3 HX4
      have hz2 := blk_lt HX4.out
      go_wp2
      refine bodyPost_ret (v := tokV z84) (by simp [results, Tryz.results70, go_sem, d0, d1, d2, hz2, z84]) rfl ⟨by rw [HE.out], ?_, ?_, ?_⟩
      · rw [HE.out]
        exact ((HI4.out.far (Ne.symm HN.out.1) (Ne.symm HN.out.2.1) _).far (Ne.symm HN.out.1) (Ne.symm HN.out.2.1) _).far (Ne.symm HN.out.1) (Ne.symm HN.out.2.1) _
      · exact ((HB4.out.setCell HN.out.2.2 _).setCell HN.out.2.2 _).setCell HN.out.2.2 _
      · exact ((HK4.out.setCell (.inr HS.out) _).setCell (.inr HS.out) _).setCell (.inr HS.out) _
  · have b1 : (e != 0) = true := bne_iff_ne.mpr he
    have HE : Aside0 (pword L i e a = (z84, i, e, a)) := ⟨by unfold pword; rw [if_neg he]⟩
    clear he
    go_wp2
    refine bodyPost_ret (v := tokV z84) (by simp [results, Tryz.results70, go_sem, d0, d1, d2, hz2, z84]) rfl ⟨by rw [HE.out], ?_, ?_, ?_⟩
    · rw [HE.out]
      exact ((HI.out.far (Ne.symm HN.out.1) (Ne.symm HN.out.2.1) _).far (Ne.symm HN.out.1) (Ne.symm HN.out.2.1) _).far (Ne.symm HN.out.1) (Ne.symm HN.out.2.1) _
    · exact ((HB.out.setCell HN.out.2.2 _).setCell HN.out.2.2 _).setCell HN.out.2.2 _
    · exact ((HK.out.setCell (.inr HS.out) _).setCell (.inr HS.out) _).setCell (.inr HS.out) _
def asset_parser_number.f (k : Nat) (L : List (S84)) (i e a : Int) : Option (Int × Int × Int × Int) :=
  (lexer_Number.f k (pword L i e a).1.f1).bind fun r => if r.2 = true then some (r.1, (pword L i e a).2.1, (pword L i e a).2.2.1, (pword L i e a).2.2.2) else some (r.1, (pword L i e a).2.1, failE (pword L i e a).2.2.1 4, failA (pword L i e a).2.2.1 (pword L i e a).2.2.2 (pword L i e a).1.f2)
theorem number_walk' (k : Nat) (w0 w : World) (p c : Nat) (L : List (S84)) (i e a n i' e' a' : Int) (hI : IsPar w0 w p c L i e a) (hB : Below w0.heap.size w0 w) (hP : PosIn L i) (h : asset_parser_number.f k L i e a = some (n, i', e', a')) :
    Calls Tryz.prog 76 #[.pointer (some ⟨p, 0, none⟩)] w fun r w' => r = .returned (.int .i64 n) ∧ IsPar w0 w' p c L i' e' a' ∧ Below w0.heap.size w0 w' ∧ KeepPC w w' p c := by
  have hu := Tryz.underlying84
  unfold asset_parser_number.f at h
  obtain ⟨⟨n1, ok⟩, h1, h2⟩ := Option.bind_eq_some_iff.1 h
  have H1 := Aside0.mk h1
  have H2 := Aside0.mk h2
  have HI := Aside0.mk hI
  have HB := Aside0.mk hB
  have HP := Aside0.mk hP
  clear hI hB hP h h1 h2
  go_enter Tryz.func76, Tryz.ntmps76
  go_wp2_with fail
  refine (word_walk w0 w p c L i e a HI.out HB.out HP.out).mono ?_
  rintro r w2 ⟨rfl, hi, hb, hk⟩
  replace HI := Aside0.mk hi
  replace HB := Aside0.mk hb
  have HK := Aside0.mk hk
  clear hi hb hk
  obtain ⟨⟨t, i2, e2, a2⟩, hq⟩ : ∃ q, pword L i e a = q := ⟨_, rfl⟩
  rw [hq] at HI H1 H2 ⊢
  have HQ := Aside0.mk hq
  clear hq
  go_upto_region 2 with (fail)
  obtain ⟨gt, hgt⟩ : ∃ gt, w2.heap.size = gt := ⟨_, rfl⟩
  have HT : Aside0 ((w2.alloc (.cells #[.int .i64 t.f0, .string t.f1, .int .i64 t.f2] 84)).heap[w2.heap.size]? = some (.cells #[.int .i64 t.f0, .string t.f1, .int .i64 t.f2] 84 (0, 0))) := ⟨heap_alloc_new _ _⟩
  rw [hgt] at HT
  simp only [hgt]
  have HN : Aside0 (p ≠ gt ∧ c ≠ gt) := ⟨by have := HI.out.lt; omega, by have := HI.out.cur.lt; omega⟩
  replace HI := Aside0.mk (HI.out.alloc (.cells #[.int .i64 t.f0, .string t.f1, .int .i64 t.f2] 84))
  replace HB := Aside0.mk (HB.out.alloc HB.out.size (.cells #[.int .i64 t.f0, .string t.f1, .int .i64 t.f2] 84))
  replace HK := Aside0.mk (HK.out.alloc (.cells #[.int .i64 t.f0, .string t.f1, .int .i64 t.f2] 84))
  clear hgt
  generalize w2.alloc (.cells #[.int .i64 t.f0, .string t.f1, .int .i64 t.f2] 84) = W3 at HI HB HK HT ⊢
  obtain ⟨d0, d1, d2⟩ := zc3 HT
  go_wp2_with fail
  refine (lexer_Number.calls k t.f1 n1 ok W3 H1.out).mono ?_
  rintro r w4 ⟨rfl, hb⟩
  clear d0 d1 d2
  replace hb : Below W3.heap.size W3 w4 := by first | exact hb | exact hb.below
  replace HI := Aside0.mk (HI.out.below hb)
  replace HT := Aside0.mk (blk_below HT.out hb)
  replace HB := Aside0.mk (below_then HB.out HB.out.size hb)
  replace HK := Aside0.mk (HK.out.below hb)
  clear hb
  obtain ⟨d0, d1, d2⟩ := zc3 HT
  cases ok with
  | true =>
    have HR := Aside0.mk (Option.some.inj H2.out)
    go_wp2
    go_ret
    have h := HR.out
    simp only [if_true, Prod.mk.injEq] at h
    obtain ⟨rfl, rfl, rfl, rfl⟩ := h
    exact ⟨rfl, HI.out, HB.out, HK.out⟩
  | false =>
    have HR := Aside0.mk (Option.some.inj H2.out)
    go_wp2_with fail
    refine (fail_walk w0 w4 p c L i2 e2 a2 4 t HI.out HB.out).mono ?_
    rintro r w5 ⟨rfl, hi, hb, hk⟩
    clear d0 d1 d2
    have HI5 := Aside0.mk hi
    have HB5 := Aside0.mk hb
    have HK5 := Aside0.mk (HK.out.then_ hk (fun _ h => .inl h))
    clear hi hb hk
    go_wp2
    go_ret
    have h := HR.out
    simp only [Bool.false_eq_true, if_false, Prod.mk.injEq] at h
    obtain ⟨rfl, rfl, rfl, rfl⟩ := h
    exact ⟨rfl, HI5.out, HB5.out, HK5.out⟩
def asset_parser_choice.f (k : Nat) (L : List (S84)) (i e a : Int) (l : List ByteArray) : Option (Int × Int × Int × Int) :=
  (slices_Index_string.f k l (pword L i e a).1.f1).bind fun n => if n < 0 then some (n, (pword L i e a).2.1, failE (pword L i e a).2.2.1 15, failA (pword L i e a).2.2.1 (pword L i e a).2.2.2 (pword L i e a).1.f2) else some (n, (pword L i e a).2.1, (pword L i e a).2.2.1, (pword L i e a).2.2.2)
theorem choice_walk (k : Nat) (w0 w : World) (p c : Nat) (L : List (S84)) (i e a n i' e' a' : Int) (A : Option Addr) (c0 : Nat) (l : List ByteArray) (hI : IsPar w0 w p c L i e a) (hB : Below w0.heap.size w0 w) (hP : PosIn L i)
    (hl : ∀ W', KeepPC w W' p c → Kd.C Kd.string W' A l.length l) (hc : l.length ≤ c0) (h : asset_parser_choice.f k L i e a l = some (n, i', e', a')) :
    Calls Tryz.prog 75 #[.pointer (some ⟨p, 0, none⟩), .slice A l.length c0] w fun r w' => r = .returned (.int .i64 n) ∧ IsPar w0 w' p c L i' e' a' ∧ Below w0.heap.size w0 w' ∧ KeepPC w w' p c := by
  have hu := Tryz.underlying84
  unfold asset_parser_choice.f at h
  obtain ⟨n1, h1, h2⟩ := Option.bind_eq_some_iff.1 h
  have H1 := Aside0.mk h1
  have H2 := Aside0.mk h2
  have HI := Aside0.mk hI
  have HB := Aside0.mk hB
  have HP := Aside0.mk hP
  have HL := Aside0.mk hl
  have HC := Aside0.mk hc
  clear hI hB hP h h1 h2 hl hc
  go_enter Tryz.func75, Tryz.ntmps75
  go_wp2_with fail
  refine (word_walk w0 w p c L i e a HI.out HB.out HP.out).mono ?_
  rintro r w2 ⟨rfl, hi, hb, hk⟩
  replace HI := Aside0.mk hi
  replace HB := Aside0.mk hb
  have HK := Aside0.mk hk
  clear hi hb hk
  obtain ⟨⟨t, i2, e2, a2⟩, hq⟩ : ∃ q, pword L i e a = q := ⟨_, rfl⟩
  rw [hq] at HI H1 H2 ⊢
  clear hq
  go_upto_region 2 with (fail)
  obtain ⟨gt, hgt⟩ : ∃ gt, w2.heap.size = gt := ⟨_, rfl⟩
  have HT : Aside0 ((w2.alloc (.cells #[.int .i64 t.f0, .string t.f1, .int .i64 t.f2] 84)).heap[w2.heap.size]? = some (.cells #[.int .i64 t.f0, .string t.f1, .int .i64 t.f2] 84 (0, 0))) := ⟨heap_alloc_new _ _⟩
  rw [hgt] at HT
  simp only [hgt]
  replace HI := Aside0.mk (HI.out.alloc (.cells #[.int .i64 t.f0, .string t.f1, .int .i64 t.f2] 84))
  replace HB := Aside0.mk (HB.out.alloc HB.out.size (.cells #[.int .i64 t.f0, .string t.f1, .int .i64 t.f2] 84))
  replace HK := Aside0.mk (HK.out.alloc (.cells #[.int .i64 t.f0, .string t.f1, .int .i64 t.f2] 84))
  clear hgt
  generalize w2.alloc (.cells #[.int .i64 t.f0, .string t.f1, .int .i64 t.f2] 84) = W3 at HI HB HK HT ⊢
  obtain ⟨d0, d1, d2⟩ := zc3 HT
  go_wp2_with fail
  refine (slices_Index_string.calls k A c0 l t.f1 n1 W3 (HL.out _ HK.out) HC.out H1.out).mono ?_
  rintro r w4 ⟨rfl, hb⟩
  clear d0 d1 d2
  replace hb : Below W3.heap.size W3 w4 := by first | exact hb | exact hb.below
  replace HI := Aside0.mk (HI.out.below hb)
  replace HT := Aside0.mk (blk_below HT.out hb)
  replace HB := Aside0.mk (below_then HB.out HB.out.size hb)
  replace HK := Aside0.mk (HK.out.below hb)
  clear hb
  obtain ⟨d0, d1, d2⟩ := zc3 HT
  by_cases hn : n1 < 0
  · have HR := Aside0.mk (Option.some.inj ((if_pos hn).symm.trans H2.out))
    have b1 : decide (n1 < 0) = true := decide_eq_true hn
    clear hn
    go_wp2_with fail
    refine (fail_walk w0 w4 p c L i2 e2 a2 15 t HI.out HB.out).mono ?_
    rintro r w5 ⟨rfl, hi, hb, hk⟩
    clear d0 d1 d2
    have HI5 := Aside0.mk hi
    have HB5 := Aside0.mk hb
    have HK5 := Aside0.mk (HK.out.then_ hk (fun _ h => .inl h))
    clear hi hb hk
    go_wp2
    go_ret
    have h := HR.out
    simp only [Prod.mk.injEq] at h
    obtain ⟨rfl, rfl, rfl, rfl⟩ := h
    exact ⟨rfl, HI5.out, HB5.out, HK5.out⟩
  · have HR := Aside0.mk (Option.some.inj ((if_neg hn).symm.trans H2.out))
    have b1 : decide (n1 < 0) = false := decide_eq_false hn
    clear hn
    go_wp2
    go_ret
    have h := HR.out
    simp only [Prod.mk.injEq] at h
    obtain ⟨rfl, rfl, rfl, rfl⟩ := h
    exact ⟨rfl, HI.out, HB.out, HK.out⟩
end Go.Proofs.YtnphnhkinjppjaaGreatDoor.Q
end

section
set_option maxHeartbeats 8000000
set_option maxRecDepth 100000
namespace Go.Proofs.YtnphnhkinjppjaaGreatDoor.Q
open Go.RowKit Go.Proofs.YtnphnhkinjppjaaGreatDoorW.PrintWords Go.Proofs.YtnphnhkinjppjaaGreatDoorW.PrintLast Go.Proofs.YtnphnhkinjppjaaGreatDoorW.PrintMore
attribute [local go_sem] max2_int min2_int max_two min_two max_three min_three max_four min_four
def asset_Default.f  : Option (ByteArray × Bool × Int × Int × Int × Int × Int × Int × Int × Bool × Int × (List (S74))) := some ((⟨#[100, 101, 102, 97, 117, 108, 116]⟩ : ByteArray), false, 0, 0, 0, 1, 1, 0, 8192, false, 1, ([] : List (S74)))
theorem asset_Default.calls  (r1 : ByteArray) (r2 : Bool) (r3 : Int) (r4 : Int) (r5 : Int) (r6 : Int) (r7 : Int) (r8 : Int) (r9 : Int) (r10 : Bool) (r11 : Int) (r12 : List (S74)) (w : World) (h : asset_Default.f  = some (r1, r2, r3, r4, r5, r6, r7, r8, r9, r10, r11, r12)) :
 Calls Tryz.prog 17 #[] w fun e w' => ∃ v11_ : Value, e = .returned (.agg #[.string r1, .bool r2, .int .u64 r3, .int .u64 r4, .int .i64 r5, .int .i64 r6, .int .i64 r7, .int .i64 r8, .int .i64 r9, .bool r10, .int .i64 r11, v11_]) ∧ Kd.R k74 74 w' w.heap.size (fun _ => True) v11_ r12 ∧ Below w.heap.size w w' := by
 have hu36 := Tryz.underlying36
 have HB := Aside0.mk (Below.refl w.heap.size w)
 unfold asset_Default.f at h; have H := h
 clear h
 simp only [Option.some.injEq, Prod.mk.injEq] at H
 obtain ⟨rfl, rfl, rfl, rfl, rfl, rfl, rfl, rfl, rfl, rfl, rfl, rfl⟩ := H
 go_enter Tryz.func17, Tryz.ntmps17
 go_wp2_with (first | ((with_reducible refine gate_dst (N := 0) rfl ?_); refine zx 0 #[.string (⟨#[]⟩ : ByteArray), .bool false, .int .u64 0, .int .u64 0, .int .i64 0, .int .i64 0, .int .i64 0, .int .i64 0, .int .i64 0, .bool false, .int .i64 0, .slice none 0 0] 36 ?_; intro gb190 hg w1 hbox hb; have BK190 := Aside0.mk (hbox); have GW190 := zG HB hg; have GE190 := zG HB hg; replace HB := Aside0.mk (below_step (zB HB) hb); clear hb hbox hg; obtain ⟨hcz2_0, hcz2_1, hcz2_2, hcz2_3, hcz2_4, hcz2_5, hcz2_6, hcz2_7, hcz2_8, hcz2_9, hcz2_10, hcz2_11⟩ := zc12 BK190; obtain ⟨hfz2_0, hfz2_1, hfz2_2, hfz2_3, hfz2_4, hfz2_5, hfz2_6, hfz2_7, hfz2_8, hfz2_9, hfz2_10, hfz2_11⟩ := zf12 BK190))
 refine bodyPost_ret (results_cell_row rfl _ _ gb190 36 #[.string (⟨#[100, 101, 102, 97, 117, 108, 116]⟩ : ByteArray), .bool false, .int .u64 0, .int .u64 0, .int .i64 0, .int .i64 1, .int .i64 1, .int .i64 0, .int .i64 8192, .bool false, .int .i64 1, .slice none 0 0] (0, 0) _ rfl (by refine zL ?_; refine blk_put (cs := #[.string (⟨#[100, 101, 102, 97, 117, 108, 116]⟩ : ByteArray), .bool false, .int .u64 0, .int .u64 0, .int .i64 0, .int .i64 1, .int .i64 1, .int .i64 0, .int .i64 8192, .bool false, .int .i64 1, .slice none 0 0]) ?_ 11 _ rfl; refine zL ?_; refine blk_put (cs := #[.string (⟨#[100, 101, 102, 97, 117, 108, 116]⟩ : ByteArray), .bool false, .int .u64 0, .int .u64 0, .int .i64 0, .int .i64 1, .int .i64 1, .int .i64 0, .int .i64 8192, .bool false, .int .i64 0, .slice none 0 0]) ?_ 10 _ rfl; refine zL ?_; refine blk_put (cs := #[.string (⟨#[100, 101, 102, 97, 117, 108, 116]⟩ : ByteArray), .bool false, .int .u64 0, .int .u64 0, .int .i64 0, .int .i64 1, .int .i64 1, .int .i64 0, .int .i64 8192, .bool false, .int .i64 0, .slice none 0 0]) ?_ 9 _ rfl; refine zL ?_; refine blk_put (cs := #[.string (⟨#[100, 101, 102, 97, 117, 108, 116]⟩ : ByteArray), .bool false, .int .u64 0, .int .u64 0, .int .i64 0, .int .i64 1, .int .i64 1, .int .i64 0, .int .i64 0, .bool false, .int .i64 0, .slice none 0 0]) ?_ 8 _ rfl; refine zL ?_; refine blk_put (cs := #[.string (⟨#[100, 101, 102, 97, 117, 108, 116]⟩ : ByteArray), .bool false, .int .u64 0, .int .u64 0, .int .i64 0, .int .i64 1, .int .i64 1, .int .i64 0, .int .i64 0, .bool false, .int .i64 0, .slice none 0 0]) ?_ 7 _ rfl; refine zL ?_; refine blk_put (cs := #[.string (⟨#[100, 101, 102, 97, 117, 108, 116]⟩ : ByteArray), .bool false, .int .u64 0, .int .u64 0, .int .i64 0, .int .i64 1, .int .i64 0, .int .i64 0, .int .i64 0, .bool false, .int .i64 0, .slice none 0 0]) ?_ 6 _ rfl; refine zL ?_; refine blk_put (cs := #[.string (⟨#[100, 101, 102, 97, 117, 108, 116]⟩ : ByteArray), .bool false, .int .u64 0, .int .u64 0, .int .i64 0, .int .i64 0, .int .i64 0, .int .i64 0, .int .i64 0, .bool false, .int .i64 0, .slice none 0 0]) ?_ 5 _ rfl; refine zL ?_; refine blk_put (cs := #[.string (⟨#[100, 101, 102, 97, 117, 108, 116]⟩ : ByteArray), .bool false, .int .u64 0, .int .u64 0, .int .i64 0, .int .i64 0, .int .i64 0, .int .i64 0, .int .i64 0, .bool false, .int .i64 0, .slice none 0 0]) ?_ 4 _ rfl; refine zL ?_; refine blk_put (cs := #[.string (⟨#[100, 101, 102, 97, 117, 108, 116]⟩ : ByteArray), .bool false, .int .u64 0, .int .u64 0, .int .i64 0, .int .i64 0, .int .i64 0, .int .i64 0, .int .i64 0, .bool false, .int .i64 0, .slice none 0 0]) ?_ 3 _ rfl; refine zL ?_; refine blk_put (cs := #[.string (⟨#[100, 101, 102, 97, 117, 108, 116]⟩ : ByteArray), .bool false, .int .u64 0, .int .u64 0, .int .i64 0, .int .i64 0, .int .i64 0, .int .i64 0, .int .i64 0, .bool false, .int .i64 0, .slice none 0 0]) ?_ 2 _ rfl; refine zL ?_; refine blk_put (cs := #[.string (⟨#[100, 101, 102, 97, 117, 108, 116]⟩ : ByteArray), .bool false, .int .u64 0, .int .u64 0, .int .i64 0, .int .i64 0, .int .i64 0, .int .i64 0, .int .i64 0, .bool false, .int .i64 0, .slice none 0 0]) ?_ 1 _ rfl; refine zL ?_; refine blk_put (cs := #[.string (⟨#[]⟩ : ByteArray), .bool false, .int .u64 0, .int .u64 0, .int .i64 0, .int .i64 0, .int .i64 0, .int .i64 0, .int .i64 0, .bool false, .int .i64 0, .slice none 0 0]) ?_ 0 _ rfl; refine zL ?_; exact BK190.out) Tryz.underlying36 rfl (by kernel_rfl)) rfl ?_
 exact ⟨_, by first | rfl | (simp [errW_none, errW_some] <;> rfl) | (simp [*, errW_none, errW_some] <;> rfl), by first | exact Kd.R_nil _ _ _ _ _ | exact Kd.N_nil _ _ _ _ _ | exact Kd.V_nil _ _ _ _ _ | exact Kd.Q_nil _ _ _ _ _ | exact Kd.S_nil _ _ _ _ _, by repeat (first | (with_reducible first | exact HB.out | apply below_alloc | apply pw_below_drewN | apply below_drew1 | refine below_set ?_ GE190.out) | exact HB.out)⟩
end Go.Proofs.YtnphnhkinjppjaaGreatDoor.Q
end

section
set_option maxHeartbeats 8000000
set_option maxRecDepth 100000
namespace Go.Proofs.YtnphnhkinjppjaaGreatDoor.Q
open Go.RowKit Go.Proofs.YtnphnhkinjppjaaGreatDoorW.PrintWords Go.Proofs.YtnphnhkinjppjaaGreatDoorW.PrintLast Go.Proofs.YtnphnhkinjppjaaGreatDoorW.PrintMore
attribute [local go_sem] max2_int min2_int max_two min_two max_three min_three max_four min_four
mutual
def address_number.j0 : Nat → ByteArray → Int → Bool → Option (Int × Bool)
  | 0, _, _, _ => none
  | k + 1, x0, x1, x24 => if x24 = true then (some (0, false)) else (address_number.l0 k x0 x1 0 (x0.size : Int) 0)
def address_number.l0 : Nat → ByteArray → Int → Int → Int → Int → Option (Int × Bool)
  | 0, _, _, _, _, _ => none
  | k + 1, x0, x1, x6, x26, x27 => if x27 < x26 then (if 0 ≤ x27 then (if x27 < (x0.size : Int) then (if (bt x0 x27) < 48 then (some (0, false)) else (if (bt x0 x27) > 57 then (some (0, false)) else (address_number.l0 k x0 x1 (wrap64 ((wrap64 (x6 * 10)) + (((bt x0 x27) - 48) % 256))) x26 (wrap64 (x27 + 1))))) else (none)) else (none)) else (some (x6, decide (x6 ≤ x1)))
end
def address_number.f (k : Nat) (a0 : ByteArray) (a1 : Int) : Option (Int × Bool) := if a0.toList = ([] : List UInt8) then (address_number.j0 k a0 a1 true) else (if (a0.size : Int) > 9 then (address_number.j0 k a0 a1 true) else (if 0 < (a0.size : Int) then (if (bt a0 0) = 48 then (address_number.j0 k a0 a1 (decide ((a0.size : Int) > 1))) else (address_number.j0 k a0 a1 false)) else (none)))
theorem address_number.mono_l : ∀ k, (∀ y0 y1 y2, LeO (address_number.j0 k y0 y1 y2) (address_number.j0 (k + 1) y0 y1 y2)) ∧ (∀ y0 y1 y2 y3 y4, LeO (address_number.l0 k y0 y1 y2 y3 y4) (address_number.l0 (k + 1) y0 y1 y2 y3 y4))
  | 0 => ⟨fun _ _ _ r h => by simp [address_number.j0] at h, fun _ _ _ _ _ r h => by simp [address_number.l0] at h⟩
  | k + 1 => by
    obtain ⟨ih0, ih1⟩ := address_number.mono_l k
    refine ⟨?_, ?_⟩
    · intro y0 y1 y2
      unfold address_number.j0
      repeat' first
      | (with_reducible exact ih0 _ _ _)
      | (with_reducible exact ih1 _ _ _ _ _)
      | (with_reducible exact LeO.refl _)
      | (with_reducible exact LeO.none _)
      | (with_reducible refine LeO.ite ?_ ?_)
      | (with_reducible refine LeO.bind ?_ (fun _ => ?_))
    · intro y0 y1 y2 y3 y4
      unfold address_number.l0
      repeat' first
      | (with_reducible exact ih0 _ _ _)
      | (with_reducible exact ih1 _ _ _ _ _)
      | (with_reducible exact LeO.refl _)
      | (with_reducible exact LeO.none _)
      | (with_reducible refine LeO.ite ?_ ?_)
      | (with_reducible refine LeO.bind ?_ (fun _ => ?_))
theorem address_number.mono : ∀ a0 a1 k, LeO (address_number.f k a0 a1) (address_number.f (k + 1) a0 a1) := by
  intro a0 a1 k
  obtain ⟨ih0, ih1⟩ := address_number.mono_l k
  unfold address_number.f
  repeat' first
      | (with_reducible exact ih0 _ _ _)
      | (with_reducible exact ih1 _ _ _ _ _)
      | (with_reducible exact LeO.refl _)
      | (with_reducible exact LeO.none _)
      | (with_reducible refine LeO.ite ?_ ?_)
      | (with_reducible refine LeO.bind ?_ (fun _ => ?_))
theorem address_number.calls (k : Nat) (a0 : ByteArray) (a1 : Int) (r1 : Int) (r2 : Bool) (w : World) (h : address_number.f k a0 a1 = some (r1, r2)) :
 Calls Tryz.prog 152 #[.string a0, .int .i64 a1] w fun e w' => e = .returned (.tuple #[.int .i64 r1, .bool r2]) ∧ Drawn0 w w' := by
 unfold address_number.f at h; have H := h
 clear h; have HC3 := Aside0.mk H; clear H
 go_enter Tryz.func152, Tryz.ntmps152
 go_upto_region 1 with (fail)
 go_cut [24] (fun v24 wc => ∃ (kq : Nat) (x24_2 : Bool), v24 = .bool x24_2 ∧ Aside0 (address_number.j0 kq a0 a1 x24_2 = some (r1, r2)) ∧ Aside0 (kq ≤ k) ∧ Drawn0 w wc)
 case first =>
  have H := HC3.out
  clear HC3
  by_cases c4 : a0.toList = ([] : List UInt8)
  · rw [if_pos c4] at H
    have c4b0 : (a0.toList == ([] : List UInt8)) = true := beq_iff_eq.mpr c4; have c4b1 : (a0.toList != ([] : List UInt8)) = false := bne_eq_false_iff_eq.mpr c4; clear c4
    (first | rw [c4b0] | (simp only [i64_w, i32_w]; rw [c4b0]) | skip)
    have H' := Aside0.mk H
    clear H
    go_wp2
    go_meet
    case rel => exact ⟨_, (true), zI, H', ⟨by first | omega | exact Nat.le_refl _⟩, by repeat (first | exact Drawn0.refl _ | apply Drawn0.step)⟩
  rw [if_neg c4] at H
  have c4b0 : (a0.toList == ([] : List UInt8)) = false := beq_eq_false_iff_ne.mpr c4
  have c4b1 : (a0.toList != ([] : List UInt8)) = true := bne_iff_ne.mpr c4
  (first | rw [c4b0] | (simp only [i64_w, i32_w]; rw [c4b0]) | skip)
  by_cases c5 : (a0.size : Int) > 9
  · rw [if_pos c5] at H
    have c5b0 : decide (9 < (a0.size : Int)) = true := decide_eq_true c5
    have c5b1 : decide (9 < a0.size) = true := decide_eq_true (by omega)
    clear c5
    have H' := Aside0.mk H
    clear H
    go_wp2
    go_meet
    case rel => exact ⟨_, (true), zI, H', ⟨by first | omega | exact Nat.le_refl _⟩, by repeat (first | exact Drawn0.refl _ | apply Drawn0.step)⟩
  rw [if_neg c5] at H; have c5b0 : decide (9 < (a0.size : Int)) = false := decide_eq_false c5
  have c5b1 : decide (9 < a0.size) = false := decide_eq_false (by omega)
  clear c5
  by_cases c6 : 0 < (a0.size : Int)
  rotate_left
  · rw [if_neg c6] at H
    exact absurd H (by simp)
  rw [if_pos c6] at H; have c6b0 : decide (0 < (a0.size : Int)) = true := decide_eq_true c6
  have c6b1 : decide (0 < a0.size) = true := decide_eq_true (by omega)
  clear c6
  by_cases c8 : (bt a0 0) = 48
  · rw [if_pos c8] at H
    have c8b0 : ((bt a0 0) == 48) = true := beq_iff_eq.mpr c8; have c8b1 : ((bt a0 0) != 48) = false := bne_eq_false_iff_eq.mpr c8; clear c8
    have H' := Aside0.mk H
    clear H
    have p7 : 0 ≤ (0 : Int) := (by omega)
    have q7 : 0 < a0.size := (by have : (0 : Int) < (a0.size : Int) := za; omega)
    have hx7 : ∀ h : 0 < a0.size, ((a0[0]'h).toNat : Int) = bt a0 0 := bt_at a0 0
    clear p7
    have qi7 : (0 < (a0.size : Int)) = True := eq_true (of_decide_eq_true (by first | (with_reducible assumption) | assumption))
    replace q7 := eq_true q7
    go_wp2
    go_meet
    case rel => exact ⟨_, (decide ((a0.size : Int) > 1)), zI, H', ⟨by first | omega | exact Nat.le_refl _⟩, by repeat (first | exact Drawn0.refl _ | apply Drawn0.step)⟩
  rw [if_neg c8] at H
  have c8b0 : ((bt a0 0) == 48) = false := beq_eq_false_iff_ne.mpr c8
  have c8b1 : ((bt a0 0) != 48) = true := bne_iff_ne.mpr c8
  have H' := Aside0.mk H
  clear H
  have p7 : 0 ≤ (0 : Int) := (by omega)
  have q7 : 0 < a0.size := (by have : (0 : Int) < (a0.size : Int) := za; omega)
  have hx7 : ∀ h : 0 < a0.size, ((a0[0]'h).toNat : Int) = bt a0 0 := bt_at a0 0
  clear p7
  have qi7 : (0 < (a0.size : Int)) = True := eq_true (of_decide_eq_true (by first | (with_reducible assumption) | assumption))
  replace q7 := eq_true q7
  go_wp2
  go_meet
  case rel => exact ⟨_, (false), zI, H', ⟨by first | omega | exact Nat.le_refl _⟩, by repeat (first | exact Drawn0.refl _ | apply Drawn0.step)⟩
 case rest =>
  clear HC3
  obtain ⟨kq, x24_2, rfl, HA, HJ2, ⟨mc2, rfl⟩⟩ := hcut
  rcases kq with _ | kj2
  · exact absurd HA.out (by simp [address_number.j0])
  have H := HA.out
  clear HA
  simp only [address_number.j0] at H
  by_cases c9 : x24_2 = true
  · subst c9
    rw [if_pos rfl] at H
    simp only [Option.some.injEq, Prod.mk.injEq] at H
    obtain ⟨rfl, rfl⟩ := H
    go_wp2
    go_ret2
    exact ⟨by first | rfl | (simp; done) | (simp [*]; done), by repeat (first | exact Drawn0.refl _ | apply Drawn0.step)⟩
  replace c9 := Bool.eq_false_iff.mpr c9
  subst c9; rw [if_neg zF] at H
  have H' := Aside0.mk H
  clear H
  go_wp2
  go_loopg [6, 27] kj2 (fun kq v6 v27 w' => ∃ (x6_2 : Int) (x27_2 : Int), v6 = .int .i64 x6_2 ∧ v27 = .int .i64 x27_2 ∧ Aside0 (address_number.l0 kq a0 a1 x6_2 (a0.size : Int) x27_2 = some (r1, r2)) ∧ Aside0 (kq ≤ kj2) ∧ Drawn0 w w')
  case atStart => exact ⟨(0), (0), zI, zI, H', ⟨Nat.le_refl _⟩, by repeat (first | exact Drawn0.refl _ | apply Drawn0.step)⟩
  case round =>
   clear H'
   try clear c9
   obtain ⟨x6_2, x27_2, rfl, rfl, HA, HK2, ⟨m2, rfl⟩⟩ := hrel
   rcases gk with _ | k2
   · exact absurd HA.out (by simp [address_number.l0])
   have H := HA.out
   clear HA
   simp only [address_number.l0] at H
   by_cases c10 : x27_2 < (a0.size : Int)
   rotate_left
   · rw [if_neg c10] at H
     have c10b0 : decide (x27_2 < (a0.size : Int)) = false := decide_eq_false c10; clear c10
     simp only [Option.some.injEq, Prod.mk.injEq] at H
     obtain ⟨rfl, rfl⟩ := H
     go_wp2
     go_ret2
     exact ⟨by first | rfl | (simp; done) | (simp [*]; done), by repeat (first | exact Drawn0.refl _ | apply Drawn0.step)⟩
   rw [if_pos c10] at H
   have c10b0 : decide (x27_2 < (a0.size : Int)) = true := decide_eq_true c10; clear c10
   by_cases c11 : 0 ≤ x27_2
   rotate_left
   · rw [if_neg c11] at H
     exact absurd H (by simp)
   rw [if_pos c11] at H
   have c11b0 : decide (0 ≤ x27_2) = true := decide_eq_true c11; clear c11
   by_cases c12 : x27_2 < (a0.size : Int)
   rotate_left
   · rw [if_neg c12] at H
     exact absurd H (by simp)
   rw [if_pos c12] at H
   have c12b0 : decide (x27_2 < (a0.size : Int)) = true := decide_eq_true c12; clear c12
   by_cases c14 : (bt a0 x27_2) < 48
   · rw [if_pos c14] at H
     have c14b0 : decide ((bt a0 x27_2) < 48) = true := decide_eq_true c14; clear c14
     simp only [Option.some.injEq, Prod.mk.injEq] at H
     obtain ⟨rfl, rfl⟩ := H
     have p13 : 0 ≤ (x27_2 : Int) := za
     have q13 : x27_2 < (a0.size : Int) := za
     have hx13 := bt_at a0 x27_2
     replace p13 := eq_true p13
     replace q13 := eq_true q13
     go_wp2
     go_ret2
     exact ⟨by first | rfl | (simp; done) | (simp [*]; done), by repeat (first | exact Drawn0.refl _ | apply Drawn0.step)⟩
   rw [if_neg c14] at H
   have c14b0 : decide ((bt a0 x27_2) < 48) = false := decide_eq_false c14; clear c14
   by_cases c16 : (bt a0 x27_2) > 57
   · rw [if_pos c16] at H
     have c16b0 : decide (57 < (bt a0 x27_2)) = true := decide_eq_true c16; clear c16
     simp only [Option.some.injEq, Prod.mk.injEq] at H
     obtain ⟨rfl, rfl⟩ := H
     have p13 : 0 ≤ (x27_2 : Int) := za
     have q13 : x27_2 < (a0.size : Int) := za
     have hx13 := bt_at a0 x27_2
     replace p13 := eq_true p13
     replace q13 := eq_true q13
     have p15 : 0 ≤ (x27_2 : Int) := za
     have q15 : x27_2 < (a0.size : Int) := za
     have hx15 := bt_at a0 x27_2
     replace p15 := eq_true p15
     replace q15 := eq_true q15
     go_wp2
     go_ret2
     exact ⟨by first | rfl | (simp; done) | (simp [*]; done), by repeat (first | exact Drawn0.refl _ | apply Drawn0.step)⟩
   rw [if_neg c16] at H
   have c16b0 : decide (57 < (bt a0 x27_2)) = false := decide_eq_false c16; clear c16
   have H' := Aside0.mk H
   clear H
   have p13 : 0 ≤ (x27_2 : Int) := za
   have q13 : x27_2 < (a0.size : Int) := za
   have hx13 := bt_at a0 x27_2
   replace p13 := eq_true p13
   replace q13 := eq_true q13
   have p15 : 0 ≤ (x27_2 : Int) := za
   have q15 : x27_2 < (a0.size : Int) := za
   have hx15 := bt_at a0 x27_2
   replace p15 := eq_true p15
   replace q15 := eq_true q15
   have p17 : 0 ≤ (x27_2 : Int) := za
   have q17 : x27_2 < (a0.size : Int) := za
   have hx17 := bt_at a0 x27_2
   replace p17 := eq_true p17
   replace q17 := eq_true q17
   go_wp2
   go_roundg k2
   case measure => have := HJ2.out; have := HK2.out; omega
   case rel => exact ⟨(wrap64 ((wrap64 (x6_2 * 10)) + (((bt a0 x27_2) - 48) % 256))), (wrap64 (x27_2 + 1)), zI, zI, H', ⟨by have := HJ2.out; have := HK2.out; omega⟩, by repeat (first | exact Drawn0.refl _ | apply Drawn0.step)⟩
def address_parse4.l0 : Nat → List ByteArray → Int → Int → Bool → Int → Int → Option (Bool × Int × Int × Bool)
  | 0, _, _, _, _, _, _ => none
  | k + 1, x16, x17, x18, x197000, x197001, x197002 => if x18 < x17 then (if 0 ≤ x18 then (if x18 < (x16.length : Int) then ((address_number.f k (rdOf ByteArray.empty x16 x18) 255).bind fun bt198 => (if bt198.2 = true then (address_parse4.l0 k x16 x17 (wrap64 (x18 + 1)) x197000 x197001 (Go.bits .or .u64 (IntKind.u64.wrap (x197002 * 256)) (IntKind.u64.wrap (bt198.1)))) else (some (false, 0, 0, false)))) else (none)) else (none)) else (some (x197000, x197001, x197002, true))
def address_parse4.f (k : Nat) (a0 : ByteArray) : Option (Bool × Int × Int × Bool) := (strings_Split.f a0 (⟨#[46]⟩ : ByteArray)).bind fun t193 => (if (t193.length : Int) = 4 then (address_parse4.l0 k t193 (t193.length : Int) 0 false 0 0) else (some (false, 0, 0, false)))
theorem address_parse4.mono_l : ∀ k, (∀ y0 y1 y2 y3 y4 y5, LeO (address_parse4.l0 k y0 y1 y2 y3 y4 y5) (address_parse4.l0 (k + 1) y0 y1 y2 y3 y4 y5))
  | 0 => fun _ _ _ _ _ _ r h => by simp [address_parse4.l0] at h
  | k + 1 => by
    have ih0 := address_parse4.mono_l k
    · intro y0 y1 y2 y3 y4 y5
      unfold address_parse4.l0
      repeat' first
      | (with_reducible exact ih0 _ _ _ _ _ _)
      | (with_reducible exact address_number.mono _ _ _)
      | (with_reducible exact LeO.refl _)
      | (with_reducible exact LeO.none _)
      | (with_reducible refine LeO.ite ?_ ?_)
      | (with_reducible refine LeO.bind ?_ (fun _ => ?_))
theorem address_parse4.mono : ∀ a0 k, LeO (address_parse4.f k a0) (address_parse4.f (k + 1) a0) := by
  intro a0 k
  have ih0 := address_parse4.mono_l k
  unfold address_parse4.f
  repeat' first
      | (with_reducible exact ih0 _ _ _ _ _ _)
      | (with_reducible exact address_number.mono _ _ _)
      | (with_reducible exact LeO.refl _)
      | (with_reducible exact LeO.none _)
      | (with_reducible refine LeO.ite ?_ ?_)
      | (with_reducible refine LeO.bind ?_ (fun _ => ?_))
theorem address_parse4.calls (k : Nat) (a0 : ByteArray) (r1 : Bool) (r2 : Int) (r3 : Int) (r4 : Bool) (w : World) (h : address_parse4.f k a0 = some (r1, r2, r3, r4)) (hW_ : WOK w) :
 Calls Tryz.prog 133 #[.string a0] w fun e w' => e = .returned (.tuple #[.agg #[.bool r1, .int .u64 r2, .int .u64 r3], .bool r4]) ∧ Below w.heap.size w w' := by
 have hu31 := Tryz.underlying31
 have HB := Aside0.mk (Below.refl w.heap.size w)
 unfold address_parse4.f at h; have H := h
 clear h
 replace H := Option.bind_eq_some_iff.mp H
 obtain ⟨t193, A20, H⟩ := H
 replace H : (if (t193.length : Int) = 4 then (address_parse4.l0 k t193 (t193.length : Int) 0 false 0 0) else (some (false, 0, 0, false))) = some (r1, r2, r3, r4) := H
 have A2 := Aside0.mk A20; clear A20
 by_cases c3 : (t193.length : Int) = 4
 rotate_left
 · rw [if_neg c3] at H
   have c3b0 : ((t193.length : Int) == 4) = false := beq_eq_false_iff_ne.mpr c3
   have c3b1 : ((t193.length : Int) != 4) = true := bne_iff_ne.mpr c3
   simp only [Option.some.injEq, Prod.mk.injEq] at H
   obtain ⟨rfl, rfl, rfl, rfl⟩ := H
   go_enter Tryz.func133, Tryz.ntmps133
   go_wp2_with (first | ((with_reducible refine gate_dst (N := 2) rfl ?_); refine zx 2 #[.bool false, .int .u64 0, .int .u64 0] 31 ?_; intro gb192 hg w20 hbox hb; have BK192 := Aside0.mk (hbox); have GW192 := zG HB hg; have GE192 := zG HB hg; replace HB := Aside0.mk (below_step (zB HB) hb); clear hb hbox hg) | ((with_reducible refine gate_callee (f := 151) rfl ?_); refine zgl 11 Tryz.func151 #[.string a0, .string (⟨#[46]⟩ : ByteArray)] ?_; (with_reducible refine (strings_Split.calls a0 (⟨#[46]⟩ : ByteArray) t193 _ A2.out (WOK.below hW_ (zB HB))).mono ?_); rintro e w21 ⟨v194, rfl, ho0, hb⟩; refine ⟨_, rfl, ?_⟩; have HO195 := Aside0.mk (Kd.R_lower ho0 (below_size (zB HB))); replace BK192 := zkb BK192 hb; replace HB := Aside0.mk (below_step (zB HB) hb); (try clear hb); (try clear ho0); obtain ⟨Ao22, co22, eo22⟩ := Kd.R_slice HO195.out; subst eo22; obtain ⟨hcz23_0, hcz23_1, hcz23_2⟩ := zc3 BK192; obtain ⟨hfz23_0, hfz23_1, hfz23_2⟩ := zf3 BK192))
   refine bodyPost_ret (results_ct rfl _ _ gb192 31 #[.bool false, .int .u64 0, .int .u64 0] (0, 0) _ rfl (by refine zL ?_; refine blk_put (cs := #[.bool false, .int .u64 0, .int .u64 0]) ?_ 2 _ rfl; refine zL ?_; refine blk_put (cs := #[.bool false, .int .u64 0, .int .u64 0]) ?_ 1 _ rfl; refine zL ?_; refine blk_put (cs := #[.bool false, .int .u64 0, .int .u64 0]) ?_ 0 _ rfl; refine zL ?_; exact BK192.out) Tryz.underlying31 rfl (by kernel_rfl)) rfl ?_
   exact ⟨zr, zB HB⟩
 rw [if_pos c3] at H
 have c3b0 : ((t193.length : Int) == 4) = true := beq_iff_eq.mpr c3; have c3b1 : ((t193.length : Int) != 4) = false := bne_eq_false_iff_eq.mpr c3; clear c3
 have H' := Aside0.mk H
 clear H
 go_enter Tryz.func133, Tryz.ntmps133
 go_wp2_with (first | ((with_reducible refine gate_dst (N := 2) rfl ?_); refine zx 2 #[.bool false, .int .u64 0, .int .u64 0] 31 ?_; intro gb192 hg w4 hbox hb; have BK192 := Aside0.mk (hbox); have GW192 := zG HB hg; have GE192 := zG HB hg; replace HB := Aside0.mk (below_step (zB HB) hb); clear hb hbox hg) | ((with_reducible refine gate_callee (f := 151) rfl ?_); refine zgl 11 Tryz.func151 #[.string a0, .string (⟨#[46]⟩ : ByteArray)] ?_; (with_reducible refine (strings_Split.calls a0 (⟨#[46]⟩ : ByteArray) t193 _ A2.out (WOK.below hW_ (zB HB))).mono ?_); rintro e w5 ⟨v194, rfl, ho0, hb⟩; refine ⟨_, rfl, ?_⟩; have HO195 := Aside0.mk (Kd.R_lower ho0 (below_size (zB HB))); replace BK192 := zkb BK192 hb; replace HB := Aside0.mk (below_step (zB HB) hb); (try clear hb); (try clear ho0); obtain ⟨Ao6, co6, eo6⟩ := Kd.R_slice HO195.out; subst eo6) | ((with_reducible refine gate_dst (N := 5) rfl ?_); refine zx 5 #[.bool false, .int .u64 0, .int .u64 0] 31 ?_; intro gb196 hg w7 hbox hb; replace HO195 := Aside0.mk (Kd.R_below (zR HO195) hb); have BK196 := Aside0.mk (hbox); have GW196 := zG HB hg; have GE196 := zG HB hg; replace HB := Aside0.mk (below_step (zB HB) hb); have NB192_196 := Aside0.mk ((by rw [hg]; exact Nat.ne_of_lt (blk_lt (g := gb192) (o := .cells #[.bool false, .int .u64 0, .int .u64 0] 31 (0, 0)) (zK BK192)) : gb192 ≠ gb196)); have NB196_192 := Aside0.mk ((by rw [hg]; exact Nat.ne_of_gt (blk_lt (g := gb192) (o := .cells #[.bool false, .int .u64 0, .int .u64 0] 31 (0, 0)) (zK BK192)) : gb196 ≠ gb192)); replace BK192 := zkb BK192 hb; clear hb hbox hg))
 go_loopg [18] k (fun kq v18 w' => ∃ (x18_1 : Int) (x193000_1 : Bool) (x193001_1 : Int) (x193002_1 : Int) (x197002_1 : Int), v18 = .int .i64 x18_1 ∧ Aside0 (address_parse4.l0 kq t193 (t193.length : Int) x18_1 false 0 x197002_1 = some (r1, r2, r3, r4)) ∧ Aside0 (kq ≤ k) ∧ Aside0 (Kd.R Kd.string 9 w' w.heap.size (fun _ => True) (.slice Ao6 t193.length co6) t193) ∧ Aside0 (w'.heap[gb192]? = some (.cells #[.bool x193000_1, .int .u64 x193001_1, .int .u64 x193002_1] 31 (0, 0))) ∧ Aside0 (w'.heap[gb196]? = some (.cells #[.bool false, .int .u64 0, .int .u64 x197002_1] 31 (0, 0))) ∧ Aside0 (Below w.heap.size w w'))
 case atStart => exact ⟨(0), (false), (0), (0), (0), zI, H', ⟨Nat.le_refl _⟩, ⟨zR HO195⟩, ⟨zK BK192⟩, ⟨zK BK196⟩, ⟨zB HB⟩⟩
 case round =>
  clear H'
  (try clear c3); (try clear c3b0); (try clear c3b1)
  obtain ⟨x18_1, x193000_1, x193001_1, x193002_1, x197002_1, rfl, HA, HK1, HO_16, BK192, BK196, HB⟩ := hrel
  rcases gk with _ | k1
  · exact absurd HA.out (by simp [address_parse4.l0])
  have H := HA.out
  clear HA
  simp only [address_parse4.l0] at H
  by_cases c8 : x18_1 < (t193.length : Int)
  rotate_left
  · rw [if_neg c8] at H
    have c8b0 : decide (x18_1 < (t193.length : Int)) = false := decide_eq_false c8; clear c8
    simp only [Option.some.injEq, Prod.mk.injEq] at H
    obtain ⟨rfl, rfl, rfl, rfl⟩ := H
    have hnb17 := NB196_192.out
    have hnc17 := NB192_196.out
    obtain ⟨hcz18_0, hcz18_1, hcz18_2⟩ := zc3 BK196; obtain ⟨hfz18_0, hfz18_1, hfz18_2⟩ := zf3 BK196; obtain ⟨hcz19_0, hcz19_1, hcz19_2⟩ := zc3 BK192; obtain ⟨hfz19_0, hfz19_1, hfz19_2⟩ := zf3 BK192
    go_wp2
    refine bodyPost_ret (results_ct rfl _ _ gb192 31 #[.bool false, .int .u64 0, .int .u64 x197002_1] (0, 0) _ rfl (by refine zL ?_; refine blk_put (cs := #[.bool false, .int .u64 0, .int .u64 x193002_1]) ?_ 2 _ rfl; refine zL ?_; refine blk_put (cs := #[.bool false, .int .u64 x193001_1, .int .u64 x193002_1]) ?_ 1 _ rfl; refine zL ?_; refine blk_put (cs := #[.bool x193000_1, .int .u64 x193001_1, .int .u64 x193002_1]) ?_ 0 _ rfl; refine zL ?_; exact BK192.out) Tryz.underlying31 rfl (by kernel_rfl)) rfl ?_
    exact ⟨zr, zB HB⟩
  rw [if_pos c8] at H
  have c8b0 : decide (x18_1 < (t193.length : Int)) = true := decide_eq_true c8; clear c8
  by_cases c9 : 0 ≤ x18_1
  rotate_left
  · rw [if_neg c9] at H
    exact absurd H (by simp)
  rw [if_pos c9] at H
  have c9b0 : decide (0 ≤ x18_1) = true := decide_eq_true c9; clear c9
  by_cases c10 : x18_1 < (t193.length : Int)
  rotate_left
  · rw [if_neg c10] at H
    exact absurd H (by simp)
  rw [if_pos c10] at H
  have c10b0 : decide (x18_1 < (t193.length : Int)) = true := decide_eq_true c10; clear c10
  replace H := Option.bind_eq_some_iff.mp H
  obtain ⟨⟨t198, t199⟩, A110, H⟩ := H
  replace H : (if t199 = true then (address_parse4.l0 k1 t193 (t193.length : Int) (wrap64 (x18_1 + 1)) false 0 (Go.bits .or .u64 (IntKind.u64.wrap (x197002_1 * 256)) (IntKind.u64.wrap (t198)))) else (some (false, 0, 0, false))) = some (r1, r2, r3, r4) := H
  have A11 := Aside0.mk A110; clear A110
  by_cases c12 : t199 = true
  · subst c12
    rw [if_pos rfl] at H
    have H' := Aside0.mk H
    clear H
    have p197 : 0 ≤ (x18_1 : Int) := za
    have q197 : x18_1 < (t193.length : Int) := za
    obtain ⟨ad197, e197, hx197_0⟩ := Kd.at_string (Kd.R_reads' HO_16.out).2.2 x18_1 p197 q197
    cases e197
    replace p197 := eq_true p197
    replace q197 := eq_true q197
    go_wp2_with (first | ((with_reducible refine gate_callee (f := 152) rfl ?_); refine zgl 24 Tryz.func152 #[.string (rdOf ByteArray.empty t193 x18_1), .int .i64 255] ?_; (with_reducible refine (address_number.calls k1 (rdOf ByteArray.empty t193 x18_1) 255 t198 true _ A11.out).mono ?_); rintro e w' ⟨rfl, ⟨nd, rfl⟩⟩; refine ⟨_, rfl, ?_⟩; (try (rw [drewN_self wr]; generalize hq_ : World.drewN wr _ = wr; have n0_ : Aside0 (Kd.R Kd.string 9 wr w.heap.size (fun _ => True) (.slice (some ad197) t193.length co6) t193) := ⟨by rw [← hq_]; exact (zR HO_16)⟩; have n1_ : Aside0 (wr.heap[gb192]? = some (.cells #[.bool x193000_1, .int .u64 x193001_1, .int .u64 x193002_1] 31 (0, 0))) := ⟨by rw [← hq_]; exact (zK BK192)⟩; have n2_ : Aside0 (wr.heap[gb196]? = some (.cells #[.bool false, .int .u64 0, .int .u64 x197002_1] 31 (0, 0))) := ⟨by rw [← hq_]; exact (zK BK196)⟩; have n3_ : Aside0 (Below w.heap.size w wr) := ⟨by rw [← hq_]; exact (zB HB)⟩; clear HO_16 BK192 BK196 HB hq_; have HO_16 := n0_; have BK192 := n1_; have BK196 := n2_; have HB := n3_; clear n0_ n1_ n2_ n3_)); have hnb13 := NB196_192.out; have hnc13 := NB192_196.out; obtain ⟨hcz14_0, hcz14_1, hcz14_2⟩ := zc3 BK196; obtain ⟨hfz14_0, hfz14_1, hfz14_2⟩ := zf3 BK196))
    go_roundg k1
    case measure => have := HK1.out; omega
    case rel => exact ⟨(wrap64 (x18_1 + 1)), (x193000_1), (x193001_1), (x193002_1), (Go.bits .or .u64 (IntKind.u64.wrap (x197002_1 * 256)) (IntKind.u64.wrap (t198))), zI, H', ⟨by have := HK1.out; omega⟩, ⟨by (with_reducible repeat (first | apply Kd.R_alloc | apply Kd.R_drewN | apply Kd.R_drew)); exact Kd.R_mono (Kd.R_far (p := ⟨gb196, 2, none⟩) (Kd.R_types HO_16.out BK196.out (by decide)) (fun _ hk => hk.2) (.int .u64 (Go.bits .or .u64 (IntKind.u64.wrap (x197002_1 * 256)) (IntKind.u64.wrap (t198))))) (fun _ hk => trivial)⟩, ⟨by refine zL ?_; refine blk_far ?_ NB192_196.out _; refine zL ?_; exact BK192.out⟩, ⟨by refine zL ?_; refine blk_put (cs := #[.bool false, .int .u64 0, .int .u64 x197002_1]) ?_ 2 _ rfl; refine zL ?_; exact BK196.out⟩, ⟨zB HB⟩⟩
  replace c12 := Bool.eq_false_iff.mpr c12
  subst c12; rw [if_neg zF] at H
  simp only [Option.some.injEq, Prod.mk.injEq] at H
  obtain ⟨rfl, rfl, rfl, rfl⟩ := H
  have p197 : 0 ≤ (x18_1 : Int) := za
  have q197 : x18_1 < (t193.length : Int) := za
  obtain ⟨ad197, e197, hx197_0⟩ := Kd.at_string (Kd.R_reads' HO_16.out).2.2 x18_1 p197 q197
  cases e197
  replace p197 := eq_true p197
  replace q197 := eq_true q197
  go_wp2_with (first | ((with_reducible refine gate_callee (f := 152) rfl ?_); refine zgl 24 Tryz.func152 #[.string (rdOf ByteArray.empty t193 x18_1), .int .i64 255] ?_; (with_reducible refine (address_number.calls k1 (rdOf ByteArray.empty t193 x18_1) 255 t198 false _ A11.out).mono ?_); rintro e w' ⟨rfl, ⟨nd, rfl⟩⟩; refine ⟨_, rfl, ?_⟩; (try (rw [drewN_self wr]; generalize hq_ : World.drewN wr _ = wr; have n0_ : Aside0 (Kd.R Kd.string 9 wr w.heap.size (fun _ => True) (.slice (some ad197) t193.length co6) t193) := ⟨by rw [← hq_]; exact (zR HO_16)⟩; have n1_ : Aside0 (wr.heap[gb192]? = some (.cells #[.bool x193000_1, .int .u64 x193001_1, .int .u64 x193002_1] 31 (0, 0))) := ⟨by rw [← hq_]; exact (zK BK192)⟩; have n2_ : Aside0 (wr.heap[gb196]? = some (.cells #[.bool false, .int .u64 0, .int .u64 x197002_1] 31 (0, 0))) := ⟨by rw [← hq_]; exact (zK BK196)⟩; have n3_ : Aside0 (Below w.heap.size w wr) := ⟨by rw [← hq_]; exact (zB HB)⟩; clear HO_16 BK192 BK196 HB hq_; have HO_16 := n0_; have BK192 := n1_; have BK196 := n2_; have HB := n3_; clear n0_ n1_ n2_ n3_)); have hnb15 := NB192_196.out; have hnc15 := NB196_192.out; obtain ⟨hcz16_0, hcz16_1, hcz16_2⟩ := zc3 BK192; obtain ⟨hfz16_0, hfz16_1, hfz16_2⟩ := zf3 BK192))
  refine bodyPost_ret (results_ct rfl _ _ gb192 31 #[.bool false, .int .u64 0, .int .u64 0] (0, 0) _ rfl (by refine zL ?_; refine blk_put (cs := #[.bool false, .int .u64 0, .int .u64 x193002_1]) ?_ 2 _ rfl; refine zL ?_; refine blk_put (cs := #[.bool false, .int .u64 x193001_1, .int .u64 x193002_1]) ?_ 1 _ rfl; refine zL ?_; refine blk_put (cs := #[.bool x193000_1, .int .u64 x193001_1, .int .u64 x193002_1]) ?_ 0 _ rfl; refine zL ?_; exact BK192.out) Tryz.underlying31 rfl (by kernel_rfl)) rfl ?_
  exact ⟨zr, zB HB⟩
end Go.Proofs.YtnphnhkinjppjaaGreatDoor.Q
end
