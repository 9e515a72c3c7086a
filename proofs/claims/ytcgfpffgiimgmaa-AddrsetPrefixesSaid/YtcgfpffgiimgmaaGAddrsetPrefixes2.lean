/- The law AddrsetPrefixes answers true for every input and leaves its arguments as they were. No condition. (Part 2 of 5: the kit's printed words and walks, hand-made contracts and plain laws, joined in build order, without what the theorem does not reach.) -/
import Derived.Shelf.SlSortCmp.NoneTotal
import Derived.Laws.EntriesVeiled
import Derived.Test.YtcgfpffgiimgmaaGAddrsetPrefixes1
section
set_option linter.unusedVariables false
set_option linter.unusedSimpArgs false
namespace Go.Proofs.Ytcgfpffgiimgmaa.Q
open Go.RowKit Go.Sort Go.Lib Go.Proofs.YtcgfpffgiimgmaaW.PrintWords Go.Proofs.YtcgfpffgiimgmaaW.PrintLast Go.Proofs.YtcgfpffgiimgmaaW.PrintMore
instance inhRange : Inhabited S66 := ⟨z66⟩
def encRange (x : S66) : List Value := [.bool x.f0.f0, .int .u64 x.f0.f1, .int .u64 x.f0.f2, .bool x.f1.f0, .int .u64 x.f1.f1, .int .u64 x.f1.f2]
def cmpRange (x y : S66) : Int := cmpA x.f0 y.f0
def ltA (a b : S36) : Prop := (a.f0 = false ∧ b.f0 = true) ∨ (a.f0 = b.f0 ∧ (a.f1 < b.f1 ∨ (a.f1 = b.f1 ∧ a.f2 < b.f2)))
theorem cmp_lt (a b : S36) : cmpA a b < 0 ↔ ltA a b := by
  obtain ⟨a0, a1, a2⟩ := a
  obtain ⟨b0, b1, b2⟩ := b
  unfold cmpA ltA
  by_cases h0 : a0 = b0
  · subst h0
    by_cases h1 : a1 = b1
    · by_cases h2 : a2 = b2
      · simp [h1, h2]
      · by_cases h3 : a2 < b2 <;> simp [h1, h2, h3]
    · by_cases h3 : a1 < b1
      · simp [h1, h3]
      · simp [h1, h3]
  · cases a0 <;> cases b0 <;> simp_all
theorem ltRange (x y : S66) : ltOf cmpRange x y = true ↔ ltA x.f0 y.f0 := by
  unfold ltOf cmpRange
  rw [decide_eq_true_iff]
  exact cmp_lt _ _
theorem swoRange : SWO (ltOf cmpRange) where
  irrefl x := by
    rw [← Bool.not_eq_true, ltRange]
    unfold ltA
    simp
  trans x y z h1 h2 := by
    rw [ltRange] at *
    unfold ltA at *
    cases hx : x.f0.f0 <;> cases hy : y.f0.f0 <;> cases hz : z.f0.f0 <;> simp_all <;> omega
  ntrans x y z h1 h2 := by
    rw [← Bool.not_eq_true, ltRange] at *
    unfold ltA at *
    cases hx : x.f0.f0 <;> cases hy : y.f0.f0 <;> cases hz : z.f0.f0 <;> simp_all <;> omega
set_option maxHeartbeats 1000000 in
theorem closureRange (x y : S66) (W : World) : Calls Try.prog 74 #[.agg #[.bool x.f0.f0, .int .u64 x.f0.f1, .int .u64 x.f0.f2, .bool x.f1.f0, .int .u64 x.f1.f1, .int .u64 x.f1.f2], .agg #[.bool y.f0.f0, .int .u64 y.f0.f1, .int .u64 y.f0.f2, .bool y.f1.f0, .int .u64 y.f1.f1, .int .u64 y.f1.f2]] W fun e w' => e = .returned (.int .i64 (cmpRange x y)) ∧ ∃ q os', w' = grow (W.drewN q) os' := by
  have hcon := fun W' => compareX x.f0 y.f0 W'
  have hu := Try.underlying66
  rw [show cmpRange x y = cmpA x.f0 y.f0 from rfl]
  generalize cmpA x.f0 y.f0 = r at hcon ⊢
  go_enter Try.func74, Try.ntmps74
  go_wp2_with (go_at_call 75; refine (hcon _).mono ?_; rintro e w' ⟨rfl, q, os, rfl⟩)
  go_ret
  exact ⟨rfl, q, _, (by show grow (((W.drewN q).alloc _).alloc _) os = _; rw [alloc_eq_grow, alloc_eq_grow, grow_grow, grow_grow])⟩
def sortRanges (l : List S66) : List S66 := (pdq (ltOf cmpRange) l.toArray 0 l.length (Lib.bitLen l.length) true true).toList
theorem sortRanges_spec (l : List S66) : (sortRanges l).length = l.length ∧ (sortRanges l).Perm l ∧ (sortRanges l).Pairwise (fun x y => ¬ ltA y.f0 x.f0) := by
  have h := pdq_sorts (ltOf cmpRange) swoRange l.toArray 0 l.toArray.size (Lib.bitLen l.toArray.size) true true (Nat.zero_le _) (Nat.le_refl _) (Or.inl rfl)
  obtain ⟨⟨hs, _, hp⟩, hso⟩ := h
  have e : sortRanges l = (pdq (ltOf cmpRange) l.toArray 0 l.toArray.size (Lib.bitLen l.toArray.size) true true).toList := rfl
  generalize pdq (ltOf cmpRange) l.toArray 0 l.toArray.size (Lib.bitLen l.toArray.size) true true = d at *
  have hd : d.size = l.length := by simpa using hs
  refine ⟨by rw [e]; simpa using hs, ?_, ?_⟩
  · rw [e]
    rw [show d.extract 0 l.toArray.size = d from by rw [← hs]; simp, show l.toArray.extract 0 l.toArray.size = l.toArray from by simp] at hp
    simpa using hp
  · rw [e, List.pairwise_iff_getElem]
    intro i j hi hj hij
    have hi' : i < d.size := by simpa using hi
    have hj' : j < d.size := by simpa using hj
    have h2 := hso i j (Nat.zero_le _) hij (by simpa [hd] using hj')
    rw [← Bool.not_eq_true, ltRange, getElem!_pos d i hi', getElem!_pos d j hj'] at h2
    simpa using h2
def sort_Range.f (l : List S66) : Option (List S66) := if l.length < 4611686018427387904 then some (sortRanges l) else none
theorem sort_Range.calls (P0_ : Nat → Prop) (u : Value) (l0 : List S66) (r : List S66) (w0 w : World) (hB : Below w0.heap.size w0 w) (ho : Kd.R k66 66 w w0.heap.size P0_ u l0) (h : sort_Range.f l0 = some r) :
    Calls Try.prog 73 #[u, (.func (.func 74) #[] #[])] w fun e w' => e = .returned (.tuple #[]) ∧ Kd.R k66 66 w' w0.heap.size (fun k_ => (P0_ k_ ∨ w.heap.size ≤ k_)) u r ∧ Below w0.heap.size w0 w' ∧ Kept w w' (fun k_ => P0_ k_) := by
  have hl : l0.length < 4611686018427387904 := by
    unfold sort_Range.f at h
    split at h
    · assumption
    · cases h
  have hr : r = sortRanges l0 := by
    unfold sort_Range.f at h
    rw [if_pos hl] at h
    injection h with h
    exact h.symm
  subst hr
  refine Bridge.sort_bridge k66 66 encRange 6 (by decide) (fun _ => rfl) rfl ?_ sortRanges (fun l => (sortRanges_spec l).1) ?_ ?_ P0_ u l0 hl w0 w hB ho
  · intro w base ok x cs
    exact ⟨fun h => k66_openM h, fun h => by rw [h]; exact k66_mkM _ _ _ _⟩
  · intro blk cap l w hH hblk hl
    have eg : ∀ args w, (callFunc 74 args).run Try.prog w = .ok (.enter 74 args) w := enters_of Try.func74 (by kernel_rfl) rfl
    have hcon := AnyQ.slices_SortFunc_eq Try.sortRange 6 Try.isAgg66 Try.sizeOf66 encRange (fun _ => rfl) (fun x v hv => by simp [encRange] at hv; rcases hv with rfl | rfl | rfl | rfl | rfl | rfl <;> rfl) cmpRange swoRange 74 #[] blk 0 cap l.toArray w eg
      (fun _ _ _ _ x y => closureRange x y _) hH hblk (by simpa using hl)
    change Calls Try.prog 73 _ _ _ at hcon
    exact hcon.mono fun e w' ⟨he, n, os, hw⟩ => ⟨he, n, os, hw⟩
  · intro w
    have hcon := AnyF.slices_SortFunc_none Try.sortRange none 0 (.func (.func 74) #[] #[]) w
    change Calls Try.prog 73 _ _ _ at hcon
    exact hcon.mono fun e w' ⟨he, hw⟩ => ⟨he, by rw [hw]; exact Below.refl _ _⟩
end Go.Proofs.Ytcgfpffgiimgmaa.Q
end

section
set_option linter.unusedVariables false
set_option linter.unusedSimpArgs false
namespace Go.Proofs.Ytcgfpffgiimgmaa.Q
open Go.RowKit Go.Proofs.YtcgfpffgiimgmaaW.PrintWords Go.Proofs.YtcgfpffgiimgmaaW.PrintLast Go.Proofs.YtcgfpffgiimgmaaW.PrintMore
def addrset_kept.f (l : List S66) : Option (List S66) := if l.length < 2932031007402 then some (sortRanges (l.filter someB)) else none
theorem kept_some {l t : List S66} (h : addrset_kept.f l = some t) : l.length < 2932031007402 ∧ t = sortRanges (l.filter someB) := by
  unfold addrset_kept.f at h
  split at h
  · rename_i h1
    injection h with h
    exact ⟨h1, h.symm⟩
  · cases h
theorem addIf_fold : ∀ (l xs : List S66), l.foldl addIf xs = xs ++ l.filter someB
  | [], xs => by simp
  | x :: t, xs => by
    rw [List.foldl_cons, addIf_fold t]
    unfold addIf
    cases h : someB x <;> simp [h]
theorem addIf_take (l : List S66) (k : Nat) (hk : k < l.length) : (l.take (k + 1)).foldl addIf [] = addIf ((l.take k).foldl addIf []) l[k] := by
  rw [List.take_succ_eq_append_getElem hk, List.foldl_append]
  rfl
theorem addIf_len (l : List S66) (k : Nat) : ((l.take k).foldl addIf []).length ≤ l.length := by
  rw [addIf_fold]
  simp only [List.nil_append]
  exact Nat.le_trans (List.length_filter_le _ _) (by rw [List.length_take]; omega)
structure KeptAt (w wr : World) (B : Nat) (v : Value) (xs : List S66) : Prop where
  cell : wr.heap[B]? = some (.cells #[v, .func (.func 71) #[] #[]] 69 (0, 0))
  row : Kd.R k66 66 wr w.heap.size (fun _ => True) v xs
  bel : Below w.heap.size w wr
theorem KeptAt.below {w wr W : World} {B : Nat} {v : Value} {xs : List S66} (h : KeptAt w wr B v xs) (hb : Below wr.heap.size wr W) : KeptAt w W B v xs where
  cell := (hb.block B (lt_of_block h.cell)).trans h.cell
  row := Kd.R_below h.row hb
  bel := h.bel.trans (hb.mono h.bel.size)
end Go.Proofs.Ytcgfpffgiimgmaa.Q
end

section
namespace Go.Proofs.Ytcgfpffgiimgmaa.Q
open Go.RowKit Go.Proofs.YtcgfpffgiimgmaaW.PrintWords Go.Proofs.YtcgfpffgiimgmaaW.PrintLast Go.Proofs.YtcgfpffgiimgmaaW.PrintMore
attribute [local go_sem] max2_int min2_int max_two min_two max_three min_three max_four min_four
set_option linter.unusedVariables false
set_option linter.unusedSimpArgs false
def addrset_Normal.l0 : Nat → List (S66) → List (S66) → Int → Int → Option ((List (S66)))
  | 0, _, _, _, _ => none
  | k + 1, x6, x24, x25, x26 => if x26 < x25 then (if 0 ≤ x26 then (if x26 < (x24.length : Int) then (if (wrap64 ((x6.length : Int) - 1)) ≥ 0 then (if 0 ≤ (wrap64 ((x6.length : Int) - 1)) then (if (wrap64 ((x6.length : Int) - 1)) < (x6.length : Int) then ((addrset_near.f ((rd_T66 x6 (wrap64 ((x6.length : Int) - 1))).f0.f0) ((rd_T66 x6 (wrap64 ((x6.length : Int) - 1))).f0.f1) ((rd_T66 x6 (wrap64 ((x6.length : Int) - 1))).f0.f2) ((rd_T66 x6 (wrap64 ((x6.length : Int) - 1))).f1.f0) ((rd_T66 x6 (wrap64 ((x6.length : Int) - 1))).f1.f1) ((rd_T66 x6 (wrap64 ((x6.length : Int) - 1))).f1.f2) ((rd_T66 x24 x26).f0.f0) ((rd_T66 x24 x26).f0.f1) ((rd_T66 x24 x26).f0.f2) ((rd_T66 x24 x26).f1.f0) ((rd_T66 x24 x26).f1.f1) ((rd_T66 x24 x26).f1.f2)).bind fun t489 => (if t489 = true then ((addrset_greater.f ((rd_T66 x6 (wrap64 ((x6.length : Int) - 1))).f1.f0) ((rd_T66 x6 (wrap64 ((x6.length : Int) - 1))).f1.f1) ((rd_T66 x6 (wrap64 ((x6.length : Int) - 1))).f1.f2) ((rd_T66 x24 x26).f1.f0) ((rd_T66 x24 x26).f1.f1) ((rd_T66 x24 x26).f1.f2)).bind fun bt491 => (addrset_Normal.l0 k (x6.set ((wrap64 ((x6.length : Int) - 1)) : Int).toNat (⟨(⟨(rd_T66 x6 (wrap64 ((x6.length : Int) - 1))).f0.f0, (rd_T66 x6 (wrap64 ((x6.length : Int) - 1))).f0.f1, (rd_T66 x6 (wrap64 ((x6.length : Int) - 1))).f0.f2⟩ : S36), (⟨bt491.1, bt491.2.1, bt491.2.2⟩ : S36)⟩ : S66)) x24 x25 (wrap64 (x26 + 1)))) else (if x6.length < 2932031007402 then (addrset_Normal.l0 k (x6 ++ [(⟨(⟨(rd_T66 x24 x26).f0.f0, (rd_T66 x24 x26).f0.f1, (rd_T66 x24 x26).f0.f2⟩ : S36), (⟨(rd_T66 x24 x26).f1.f0, (rd_T66 x24 x26).f1.f1, (rd_T66 x24 x26).f1.f2⟩ : S36)⟩ : S66)]) x24 x25 (wrap64 (x26 + 1))) else (none)))) else (none)) else (none)) else (if x6.length < 2932031007402 then (addrset_Normal.l0 k (x6 ++ [(⟨(⟨(rd_T66 x24 x26).f0.f0, (rd_T66 x24 x26).f0.f1, (rd_T66 x24 x26).f0.f2⟩ : S36), (⟨(rd_T66 x24 x26).f1.f0, (rd_T66 x24 x26).f1.f1, (rd_T66 x24 x26).f1.f2⟩ : S36)⟩ : S66)]) x24 x25 (wrap64 (x26 + 1))) else (none))) else (none)) else (none)) else (some x6)
def addrset_Normal.f (k : Nat) (l0 : List (S66)) : Option ((List (S66))) := (addrset_kept.f l0).bind fun t483 => (addrset_Normal.l0 k ([] : List (S66)) t483 (t483.length : Int) 0)
theorem addrset_Normal.mono_l : ∀ k, (∀ y0 y1 y2 y3, LeO (addrset_Normal.l0 k y0 y1 y2 y3) (addrset_Normal.l0 (k + 1) y0 y1 y2 y3))
  | 0 => fun _ _ _ _ r h => by simp [addrset_Normal.l0] at h
  | k + 1 => by
    have ih0 := addrset_Normal.mono_l k
    · intro y0 y1 y2 y3
      unfold addrset_Normal.l0
      repeat' first
      | (with_reducible exact ih0 _ _ _ _)
      | (with_reducible exact LeO.refl _)
      | (with_reducible exact LeO.none _)
      | (with_reducible refine LeO.ite ?_ ?_)
      | (with_reducible refine LeO.bind ?_ (fun _ => ?_))
      | exact ih0 _ _ _ _
      | exact LeO.none _
      | refine LeO.ite ?_ ?_
      | refine LeO.bind ?_ (fun _ => ?_)
theorem addrset_Normal.mono : ∀ a0 k, LeO (addrset_Normal.f k a0) (addrset_Normal.f (k + 1) a0) := by
  intro a0 k
  have ih0 := addrset_Normal.mono_l k
  unfold addrset_Normal.f
  repeat' first
      | (with_reducible exact ih0 _ _ _ _)
      | (with_reducible exact LeO.refl _)
      | (with_reducible exact LeO.none _)
      | (with_reducible refine LeO.ite ?_ ?_)
      | (with_reducible refine LeO.bind ?_ (fun _ => ?_))
      | exact ih0 _ _ _ _
      | exact LeO.none _
      | refine LeO.ite ?_ ?_
      | refine LeO.bind ?_ (fun _ => ?_)
def addrset_Normal.T13 : Bool × List (List Nat × List Nat) := (true, [([], []), ([0], [0]), ([1], [1]), ([2], [2]), ([2], [2]), ([3, 4, 2], [2, 3, 4]), ([5, 2], [2, 5]), ([2], [2]), ([6, 7, 2, 2], [2, 6, 7]), ([2, 8], [2, 8])])
def addrset_Normal.B13 : List Nat := [0, 1, 3, 7, 7, 31, 63, 7, 255, 511]
theorem addrset_Normal.tab13 : rtab .any (opsOf Try.f38 13) = addrset_Normal.T13 := by kernel_rfl
theorem addrset_Normal.bits13 : waitsOk addrset_Normal.T13.2 addrset_Normal.B13 = true := by kernel_rfl
def addrset_Normal.T14 : Bool × List (List Nat × List Nat) := (true, [([], []), ([], []), ([], []), ([], []), ([2, 3], [2, 3]), ([4], [4]), ([5], [5]), ([], []), ([7], [7]), ([6, 8], [6, 8]), ([0, 1, 0, 1, 2, 3, 4, 5, 6, 7, 8, 9], [0, 1]), ([10, 0, 1, 2, 3, 4, 5, 6, 7, 8, 9], [10]), ([11, 9, 9, 0, 1, 2, 3, 4, 5, 6, 7, 8, 9], [9, 11])])
def addrset_Normal.B14 : List Nat := [0, 0, 0, 0, 12, 28, 60, 0, 128, 508, 1023, 2047, 4095]
theorem addrset_Normal.tab14 : rtab .any (opsOf Try.f38 14) = addrset_Normal.T14 := by kernel_rfl
theorem addrset_Normal.bits14 : waitsOk addrset_Normal.T14.2 addrset_Normal.B14 = true := by kernel_rfl
set_option maxHeartbeats 8000000 in
set_option maxRecDepth 100000 in
theorem addrset_Normal.calls (k : Nat) (A0 : Option Addr) (c0 : Nat) (l0 : List (S66)) (r : List (S66)) (w : World) (hr0 : Kd.C k66 w A0 l0.length l0) (hc0 : l0.length ≤ c0) (h : addrset_Normal.f k l0 = some r) :
 Calls Try.prog 38 #[.slice A0 l0.length c0] w fun e w' => ∃ v0_ : Value, e = .returned (v0_) ∧ Kd.R k66 66 w' w.heap.size (fun _ => True) v0_ r ∧ Below w.heap.size w w' := by
 have hu66 := Try.underlying66
 have hu36 := Try.underlying36
 have HR0 := Aside0.mk hr0
 have HC0 := Aside0.mk hc0
 clear hr0 hc0
 have HB := Aside0.mk (Below.refl w.heap.size w)
 unfold addrset_Normal.f at h; have H := h
 clear h
 replace H := Option.bind_eq_some_iff.mp H
 obtain ⟨t483, A20, H⟩ := H
 try dsimp only at H
 have A2 := Aside0.mk A20
 clear A20
 have H' := Aside0.mk H
 clear H
 go_enter Try.func38, Try.ntmps38
 obtain ⟨hlim, ht⟩ := kept_some A2.out
 have HLIM := Aside0.mk hlim
 have HT := Aside0.mk ht
 have hm : l0.length ≤ 9223372036854775807 := by omega
 clear hlim ht HB
 go_wp2
 have H00 : Aside0 (KeptAt w (w.alloc (.cells #[.slice none 0 0, .func (.func 71) #[] #[]] 69)) w.heap.size (.slice none 0 0) []) := ⟨heap_alloc_new _ _, Kd.R_nil _ _ _ _ _, (Below.refl _ _).alloc (Nat.le_refl _) _⟩
 go_loopg [13] l0.length (fun gg v13 wr => ∃ kk : Nat, kk ≤ l0.length ∧ l0.length - kk ≤ gg ∧ v13 = .int .i64 kk ∧ Aside0 (∃ v, KeptAt w wr w.heap.size v ((l0.take kk).foldl addIf [])))
 case atStart => exact ⟨0, Nat.zero_le _, by omega, rfl, ⟨_, H00.out⟩⟩
 case round =>
  obtain ⟨kk, hkk, hg, rfl, HA⟩ := hrel
  obtain ⟨v, HAv⟩ := HA.out
  have HV := Aside0.mk HAv
  clear HA HAv H00
  by_cases hlt : kk < l0.length
  · have hltz : (kk : Int) < (l0.length : Int) := by omega
    obtain ⟨ad, e, hx0, hx1, hx2, hx3, hx4, hx5⟩ := at_T66 HR0.out kk (by omega) hltz
    cases e
    replace hx0 := (HV.out.bel.cell (World.block_lt_of_cell? w _ hx0)).trans hx0
    replace hx1 := (HV.out.bel.cell (World.block_lt_of_cell? w _ hx1)).trans hx1
    replace hx2 := (HV.out.bel.cell (World.block_lt_of_cell? w _ hx2)).trans hx2
    replace hx3 := (HV.out.bel.cell (World.block_lt_of_cell? w _ hx3)).trans hx3
    replace hx4 := (HV.out.bel.cell (World.block_lt_of_cell? w _ hx4)).trans hx4
    replace hx5 := (HV.out.bel.cell (World.block_lt_of_cell? w _ hx5)).trans hx5
    have hrd : rd_T66 l0 (kk : Int) = l0[kk] := by simp [rd_T66, List.getD_eq_getElem?_getD, List.getElem?_eq_getElem hlt]
    rw [hrd] at hx0 hx1 hx2 hx3 hx4 hx5
    simp only [Int.toNat_natCast] at hx0 hx1 hx2 hx3 hx4 hx5
    have hfold := addIf_take l0 kk hlt
    clear hrd
    generalize l0[kk] = y at hx0 hx1 hx2 hx3 hx4 hx5 hfold
    have HFO := Aside0.mk hfold
    have HLE : Aside0 (((l0.take kk).foldl addIf []).length < 2932031007402) := ⟨Nat.lt_of_le_of_lt (addIf_len _ _) HLIM.out⟩
    clear hfold
    go_wp2_with (go_at_call 72; refine (addRange y w.heap.size v _ w _ ?h1 ?h2 ?h3 (Nat.le_refl _) HLE.out).mono ?_; (case h1 => exact (HV.out.below ((Below.refl _ _).alloc (Nat.le_refl _) _)).cell); (case h2 => exact (HV.out.below ((Below.refl _ _).alloc (Nat.le_refl _) _)).row); (case h3 => exact (HV.out.below ((Below.refl _ _).alloc (Nat.le_refl _) _)).bel); rintro e w5 ⟨rfl, v', hadd⟩; have HAD := Aside0.mk hadd; clear hadd)
    go_roundg (l0.length - (kk + 1))
    case measure => omega
    case rel => exact ⟨kk + 1, by omega, by omega, by go_num, ⟨v', by rw [HFO.out]; exact ⟨HAD.out.cell, HAD.out.row, HAD.out.bel⟩⟩⟩
  · have hltz : ¬ (kk : Int) < (l0.length : Int) := by omega
    have hkl : kk = l0.length := by omega
    have hfull : (l0.take kk).foldl addIf [] = l0.filter someB := by rw [hkl, List.take_length, addIf_fold]; rfl
    rw [hfull] at HV
    have hlen : (l0.filter someB).length = t483.length := by rw [HT.out]; exact (sortRanges_spec _).1.symm
    have hsf : sort_Range.f (l0.filter someB) = some t483 := by
     have := List.length_filter_le someB l0
     have := HLIM.out
     unfold sort_Range.f
     rw [if_pos (by omega), HT.out]
    obtain ⟨Ao4, co4, hv4⟩ := Kd.R_slice HV.out.row
    rw [hlen] at hv4
    subst hv4
    have HSF := Aside0.mk hsf
    have hc1 : wr.cell? ⟨w.heap.size, 0, none⟩ = some (.slice Ao4 t483.length co4) := (blk_cell HV.out.cell 0).trans rfl
    clear hkl hfull hlen hsf
    go_wp2_with (go_at_call 73; refine (sort_Range.calls (fun k_ => k_ ≠ w.heap.size) (.slice Ao4 t483.length co4) _ t483 w _ HV.out.bel (Kd.R_mono (Kd.R_tight rfl HV.out.row) (fun k_ hk_ e_ => Kd.R_ne HV.out.row HV.out.cell (by decide) (by rw [← e_]; exact hk_))) HSF.out).mono ?_; rintro e w3 ⟨rfl, ho, hb, hk⟩; have HO485 := Aside0.mk (Kd.R_mono ho (fun _ _ => trivial)); have HB := Aside0.mk hb; have hc3 : w3.cell? ⟨w.heap.size, 0, none⟩ = some (.slice Ao4 t483.length co4) := (by have h1 := hk.2 w.heap.size (lt_of_block HV.out.cell) (by simp); have h2 := h1.trans HV.out.cell; exact (blk_cell h2 0).trans rfl); clear ho hb hk hc1)
    go_loopg [6, 26] k (fun kq v6 v26 w' => ∃ (x6_1 : List (S66)) (x24_1 : List (S66)) (x26_1 : Int), v26 = .int .i64 x26_1 ∧ Aside0 (addrset_Normal.l0 kq x6_1 x24_1 (t483.length : Int) x26_1 = some r) ∧ Aside0 (kq ≤ k) ∧ Aside0 (Kd.R k66 66 w' w.heap.size (fun k_ => some k_ ≠ ((.slice Ao4 t483.length co4) : Value).ownBlock) v6 x6_1) ∧ Aside0 (Kd.R k66 66 w' w.heap.size (fun k_ => some k_ ≠ (v6 : Value).ownBlock) (.slice Ao4 t483.length co4) x24_1) ∧ Aside0 (Below w.heap.size w w'))
    case atStart => exact ⟨(([] : List (S66))), (t483), (0), (by first | rfl | (simp; done) | (simp [*]; done)), H', ⟨Nat.le_refl _⟩, ⟨by first | exact Kd.R_nil _ _ _ _ _ | exact Kd.N_nil _ _ _ _ _ | exact Kd.V_nil _ _ _ _ _ | exact Kd.Q_nil _ _ _ _ _ | exact Kd.S_nil _ _ _ _ _⟩, ⟨by (with_reducible repeat (first | apply Kd.R_alloc | apply Kd.R_drewN | apply Kd.R_drew)); exact Kd.R_mono HO485.out (fun _ hk => (by simp [Value.ownBlock]))⟩, ⟨zB HB⟩⟩
    case round =>
     clear H'
     try clear p2
     try clear c3
     obtain ⟨x6_1, x24_1, x26_1, rfl, HA, HK1, HO_6, HO_24, HB⟩ := hrel
     have hl24_1 := (Kd.R_reads' HO_24.out).1
     rw [hl24_1] at HO_24
     (try simp only [hl24_1])
     (try simp only [hl24_1] at HO_6)
     cases gk with
     | zero => exact absurd HA.out (by simp [addrset_Normal.l0])
     | succ k1 =>
      have H := HA.out
      clear HA
      simp only [addrset_Normal.l0] at H
      by_cases c5 : x26_1 < (t483.length : Int)
      · rw [if_pos c5] at H
        have c5b0 : decide (x26_1 < (t483.length : Int)) = true := decide_eq_true c5
        clear c5
        by_cases c6 : 0 ≤ x26_1
        · rw [if_pos c6] at H
          have c6b0 : decide (0 ≤ x26_1) = true := decide_eq_true c6
          clear c6
          by_cases c7 : x26_1 < (x24_1.length : Int)
          · rw [if_pos c7] at H
            have c7b0 : decide (x26_1 < (x24_1.length : Int)) = true := decide_eq_true c7
            clear c7
            by_cases c8 : (wrap64 ((x6_1.length : Int) - 1)) ≥ 0
            · rw [if_pos c8] at H
              have c8b0 : decide (0 ≤ (wrap64 ((x6_1.length : Int) - 1))) = true := decide_eq_true c8
              clear c8
              obtain ⟨ji9, hji9⟩ : ∃ j_ : Int, (wrap64 ((x6_1.length : Int) - 1)) = j_ := ⟨_, rfl⟩
              replace H : (if 0 ≤ (ji9) then (if (ji9) < (x6_1.length : Int) then ((addrset_near.f ((rd_T66 x6_1 (ji9)).f0.f0) ((rd_T66 x6_1 (ji9)).f0.f1) ((rd_T66 x6_1 (ji9)).f0.f2) ((rd_T66 x6_1 (ji9)).f1.f0) ((rd_T66 x6_1 (ji9)).f1.f1) ((rd_T66 x6_1 (ji9)).f1.f2) ((rd_T66 x24_1 x26_1).f0.f0) ((rd_T66 x24_1 x26_1).f0.f1) ((rd_T66 x24_1 x26_1).f0.f2) ((rd_T66 x24_1 x26_1).f1.f0) ((rd_T66 x24_1 x26_1).f1.f1) ((rd_T66 x24_1 x26_1).f1.f2)).bind fun t489 => (if t489 = true then ((addrset_greater.f ((rd_T66 x6_1 (ji9)).f1.f0) ((rd_T66 x6_1 (ji9)).f1.f1) ((rd_T66 x6_1 (ji9)).f1.f2) ((rd_T66 x24_1 x26_1).f1.f0) ((rd_T66 x24_1 x26_1).f1.f1) ((rd_T66 x24_1 x26_1).f1.f2)).bind fun bt491 => (addrset_Normal.l0 k1 (x6_1.set ((ji9) : Int).toNat (⟨(⟨(rd_T66 x6_1 (ji9)).f0.f0, (rd_T66 x6_1 (ji9)).f0.f1, (rd_T66 x6_1 (ji9)).f0.f2⟩ : S36), (⟨bt491.1, bt491.2.1, bt491.2.2⟩ : S36)⟩ : S66)) x24_1 (t483.length : Int) (wrap64 (x26_1 + 1)))) else (if x6_1.length < 2932031007402 then (addrset_Normal.l0 k1 (x6_1 ++ [(⟨(⟨(rd_T66 x24_1 x26_1).f0.f0, (rd_T66 x24_1 x26_1).f0.f1, (rd_T66 x24_1 x26_1).f0.f2⟩ : S36), (⟨(rd_T66 x24_1 x26_1).f1.f0, (rd_T66 x24_1 x26_1).f1.f1, (rd_T66 x24_1 x26_1).f1.f2⟩ : S36)⟩ : S66)]) x24_1 (t483.length : Int) (wrap64 (x26_1 + 1))) else (none)))) else (none)) else (none)) = some r := by first | (rw [hji9] at H; exact H) | (simp only [hji9] at H ⊢; exact H)
              (try rw [hji9] at c8b0)
              have hji9w : (IntKind.i64.wrap ((x6_1.length : Int) - 1)) = ji9 := (i64_w _).trans hji9
              by_cases c10 : 0 ≤ (ji9)
              · rw [if_pos c10] at H
                have c10b0 : decide (0 ≤ (ji9)) = true := decide_eq_true c10
                clear c10
                by_cases c11 : (ji9) < (x6_1.length : Int)
                · rw [if_pos c11] at H
                  have c11b0 : decide ((ji9) < (x6_1.length : Int)) = true := decide_eq_true c11
                  clear c11
                  replace H := Option.bind_eq_some_iff.mp H
                  obtain ⟨t489, A120, H⟩ := H
                  try dsimp only at H
                  have A12 := Aside0.mk A120
                  clear A120
                  by_cases c13 : t489 = true
                  · subst c13
                    rw [if_pos rfl] at H
                    replace H := Option.bind_eq_some_iff.mp H
                    obtain ⟨⟨t491, t492, t493⟩, A140, H⟩ := H
                    try dsimp only at H
                    have A14 := Aside0.mk A140
                    clear A140
                    obtain ⟨y494, hy494⟩ : ∃ y_ : List (S66), y_ = (x6_1.set ((ji9) : Int).toNat (⟨(⟨(rd_T66 x6_1 (ji9)).f0.f0, (rd_T66 x6_1 (ji9)).f0.f1, (rd_T66 x6_1 (ji9)).f0.f2⟩ : S36), (⟨t491, t492, t493⟩ : S36)⟩ : S66)) := ⟨_, rfl⟩
                    rw [← hy494] at H; try dsimp only [Option.bind_some] at H
                    have Ny494 := Aside0.mk hy494
                    clear hy494
                    have H' := Aside0.mk H
                    clear H
                    have p486 : 0 ≤ (x26_1 : Int) := za
                    have q486 : x26_1 < (x24_1.length : Int) := za
                    (try (obtain ⟨Ax_, cx_, ex_⟩ := Kd.R_slice HO_24.out; subst ex_))
                    obtain ⟨ad486, e486, hx486_0, hx486_1, hx486_2, hx486_3, hx486_4, hx486_5⟩ := at_T66 (Kd.R_reads' HO_24.out).2.2 x26_1 p486 q486
                    cases e486
                    replace p486 := eq_true p486
                    replace q486 := eq_true q486
                    try go_wp2_with (first | ((with_reducible refine gate_dst (N := 8) rfl ?_); refine zx 8 #[.bool false, .int .u64 0, .int .u64 0, .bool false, .int .u64 0, .int .u64 0] 66 ?_; intro gb487 hg w16 hbox hb; replace HO_6 := Aside0.mk (Kd.R_below (Kd.R_elderB (zR HO_6) gb487 (Nat.le_of_eq hg.symm)) hb); replace HO_24 := Aside0.mk (Kd.R_below (Kd.R_elderB (zR HO_24) gb487 (Nat.le_of_eq hg.symm)) hb); have BK487 := Aside0.mk (hbox); have GW487 := Aside0.mk ((by rw [hg]; exact (below_size (zB HB)) : w.heap.size ≤ gb487)); have GE487 := Aside0.mk ((by rw [hg]; exact (below_size (zB HB)) : w.heap.size ≤ gb487)); replace HB := Aside0.mk (below_step (zB HB) hb); clear hb hbox hg; obtain ⟨hcz17_0, hcz17_1, hcz17_2, hcz17_3, hcz17_4, hcz17_5⟩ := zc6 BK487; obtain ⟨hfz17_0, hfz17_1, hfz17_2, hfz17_3, hfz17_4, hfz17_5⟩ := zf6 BK487; obtain ⟨Ao18, co18, eo18⟩ := Kd.R_slice HO_6.out; subst eo18))
                    have n0_ : Aside0 (Kd.R k66 66 ((((((w16.setCell ⟨gb487, 0, none⟩ (.bool ((rd_T66 x24_1 x26_1).f0.f0))).setCell ⟨gb487, 1, none⟩ (.int .u64 ((rd_T66 x24_1 x26_1).f0.f1))).setCell ⟨gb487, 2, none⟩ (.int .u64 ((rd_T66 x24_1 x26_1).f0.f2))).setCell ⟨gb487, 3, none⟩ (.bool ((rd_T66 x24_1 x26_1).f1.f0))).setCell ⟨gb487, 4, none⟩ (.int .u64 ((rd_T66 x24_1 x26_1).f1.f1))).setCell ⟨gb487, 5, none⟩ (.int .u64 ((rd_T66 x24_1 x26_1).f1.f2))) w.heap.size (fun k_ => some k_ ≠ (.slice (some ad486) x24_1.length co4 : Value).ownBlock ∧ k_ ≠ gb487) (.slice Ao18 x6_1.length co18) x6_1) := ⟨by (with_reducible repeat (first | apply Kd.R_alloc | apply Kd.R_drewN | apply Kd.R_drew)); exact Kd.R_mono (Kd.R_far (p := ⟨gb487, 5, none⟩) (Kd.R_far (p := ⟨gb487, 4, none⟩) (Kd.R_far (p := ⟨gb487, 3, none⟩) (Kd.R_far (p := ⟨gb487, 2, none⟩) (Kd.R_far (p := ⟨gb487, 1, none⟩) (Kd.R_far (p := ⟨gb487, 0, none⟩) (Kd.R_mono HO_6.out (fun k_ hk => (⟨hk, hk.2⟩ : _ ∧ k_ ≠ gb487))) (fun _ hk => hk.2) (.bool ((rd_T66 x24_1 x26_1).f0.f0))) (fun _ hk => hk.2) (.int .u64 ((rd_T66 x24_1 x26_1).f0.f1))) (fun _ hk => hk.2) (.int .u64 ((rd_T66 x24_1 x26_1).f0.f2))) (fun _ hk => hk.2) (.bool ((rd_T66 x24_1 x26_1).f1.f0))) (fun _ hk => hk.2) (.int .u64 ((rd_T66 x24_1 x26_1).f1.f1))) (fun _ hk => hk.2) (.int .u64 ((rd_T66 x24_1 x26_1).f1.f2))) (fun _ hk => ⟨hk.1.1, hk.1.2⟩)⟩
                    have n1_ : Aside0 (Kd.R k66 66 ((((((w16.setCell ⟨gb487, 0, none⟩ (.bool ((rd_T66 x24_1 x26_1).f0.f0))).setCell ⟨gb487, 1, none⟩ (.int .u64 ((rd_T66 x24_1 x26_1).f0.f1))).setCell ⟨gb487, 2, none⟩ (.int .u64 ((rd_T66 x24_1 x26_1).f0.f2))).setCell ⟨gb487, 3, none⟩ (.bool ((rd_T66 x24_1 x26_1).f1.f0))).setCell ⟨gb487, 4, none⟩ (.int .u64 ((rd_T66 x24_1 x26_1).f1.f1))).setCell ⟨gb487, 5, none⟩ (.int .u64 ((rd_T66 x24_1 x26_1).f1.f2))) w.heap.size (fun k_ => some k_ ≠ (.slice Ao18 x6_1.length co18 : Value).ownBlock ∧ k_ ≠ gb487) (.slice (some ad486) x24_1.length co4) x24_1) := ⟨by (with_reducible repeat (first | apply Kd.R_alloc | apply Kd.R_drewN | apply Kd.R_drew)); exact Kd.R_mono (Kd.R_far (p := ⟨gb487, 5, none⟩) (Kd.R_far (p := ⟨gb487, 4, none⟩) (Kd.R_far (p := ⟨gb487, 3, none⟩) (Kd.R_far (p := ⟨gb487, 2, none⟩) (Kd.R_far (p := ⟨gb487, 1, none⟩) (Kd.R_far (p := ⟨gb487, 0, none⟩) (Kd.R_mono HO_24.out (fun k_ hk => (⟨hk, hk.2⟩ : _ ∧ k_ ≠ gb487))) (fun _ hk => hk.2) (.bool ((rd_T66 x24_1 x26_1).f0.f0))) (fun _ hk => hk.2) (.int .u64 ((rd_T66 x24_1 x26_1).f0.f1))) (fun _ hk => hk.2) (.int .u64 ((rd_T66 x24_1 x26_1).f0.f2))) (fun _ hk => hk.2) (.bool ((rd_T66 x24_1 x26_1).f1.f0))) (fun _ hk => hk.2) (.int .u64 ((rd_T66 x24_1 x26_1).f1.f1))) (fun _ hk => hk.2) (.int .u64 ((rd_T66 x24_1 x26_1).f1.f2))) (fun _ hk => ⟨hk.1.1, hk.1.2⟩)⟩
                    have n2_ : Aside0 (((((((w16.setCell ⟨gb487, 0, none⟩ (.bool ((rd_T66 x24_1 x26_1).f0.f0))).setCell ⟨gb487, 1, none⟩ (.int .u64 ((rd_T66 x24_1 x26_1).f0.f1))).setCell ⟨gb487, 2, none⟩ (.int .u64 ((rd_T66 x24_1 x26_1).f0.f2))).setCell ⟨gb487, 3, none⟩ (.bool ((rd_T66 x24_1 x26_1).f1.f0))).setCell ⟨gb487, 4, none⟩ (.int .u64 ((rd_T66 x24_1 x26_1).f1.f1))).setCell ⟨gb487, 5, none⟩ (.int .u64 ((rd_T66 x24_1 x26_1).f1.f2))).heap[gb487]? = some (.cells #[.bool ((rd_T66 x24_1 x26_1).f0.f0), .int .u64 ((rd_T66 x24_1 x26_1).f0.f1), .int .u64 ((rd_T66 x24_1 x26_1).f0.f2), .bool ((rd_T66 x24_1 x26_1).f1.f0), .int .u64 ((rd_T66 x24_1 x26_1).f1.f1), .int .u64 ((rd_T66 x24_1 x26_1).f1.f2)] 66 (0, 0))) := ⟨by refine zL ?_; refine blk_put (cs := #[.bool ((rd_T66 x24_1 x26_1).f0.f0), .int .u64 ((rd_T66 x24_1 x26_1).f0.f1), .int .u64 ((rd_T66 x24_1 x26_1).f0.f2), .bool ((rd_T66 x24_1 x26_1).f1.f0), .int .u64 ((rd_T66 x24_1 x26_1).f1.f1), .int .u64 0]) ?_ 5 _ rfl; refine zL ?_; refine blk_put (cs := #[.bool ((rd_T66 x24_1 x26_1).f0.f0), .int .u64 ((rd_T66 x24_1 x26_1).f0.f1), .int .u64 ((rd_T66 x24_1 x26_1).f0.f2), .bool ((rd_T66 x24_1 x26_1).f1.f0), .int .u64 0, .int .u64 0]) ?_ 4 _ rfl; refine zL ?_; refine blk_put (cs := #[.bool ((rd_T66 x24_1 x26_1).f0.f0), .int .u64 ((rd_T66 x24_1 x26_1).f0.f1), .int .u64 ((rd_T66 x24_1 x26_1).f0.f2), .bool false, .int .u64 0, .int .u64 0]) ?_ 3 _ rfl; refine zL ?_; refine blk_put (cs := #[.bool ((rd_T66 x24_1 x26_1).f0.f0), .int .u64 ((rd_T66 x24_1 x26_1).f0.f1), .int .u64 0, .bool false, .int .u64 0, .int .u64 0]) ?_ 2 _ rfl; refine zL ?_; refine blk_put (cs := #[.bool ((rd_T66 x24_1 x26_1).f0.f0), .int .u64 0, .int .u64 0, .bool false, .int .u64 0, .int .u64 0]) ?_ 1 _ rfl; refine zL ?_; refine blk_put (cs := #[.bool false, .int .u64 0, .int .u64 0, .bool false, .int .u64 0, .int .u64 0]) ?_ 0 _ rfl; refine zL ?_; exact BK487.out⟩
                    have n3_ : Aside0 (Below w.heap.size w ((((((w16.setCell ⟨gb487, 0, none⟩ (.bool ((rd_T66 x24_1 x26_1).f0.f0))).setCell ⟨gb487, 1, none⟩ (.int .u64 ((rd_T66 x24_1 x26_1).f0.f1))).setCell ⟨gb487, 2, none⟩ (.int .u64 ((rd_T66 x24_1 x26_1).f0.f2))).setCell ⟨gb487, 3, none⟩ (.bool ((rd_T66 x24_1 x26_1).f1.f0))).setCell ⟨gb487, 4, none⟩ (.int .u64 ((rd_T66 x24_1 x26_1).f1.f1))).setCell ⟨gb487, 5, none⟩ (.int .u64 ((rd_T66 x24_1 x26_1).f1.f2)))) := ⟨zB HB⟩
                    (try clear HO_6)
                    (try clear HO_24)
                    (try clear BK487)
                    (try clear HB)
                    generalize ((((((w16.setCell ⟨gb487, 0, none⟩ (.bool ((rd_T66 x24_1 x26_1).f0.f0))).setCell ⟨gb487, 1, none⟩ (.int .u64 ((rd_T66 x24_1 x26_1).f0.f1))).setCell ⟨gb487, 2, none⟩ (.int .u64 ((rd_T66 x24_1 x26_1).f0.f2))).setCell ⟨gb487, 3, none⟩ (.bool ((rd_T66 x24_1 x26_1).f1.f0))).setCell ⟨gb487, 4, none⟩ (.int .u64 ((rd_T66 x24_1 x26_1).f1.f1))).setCell ⟨gb487, 5, none⟩ (.int .u64 ((rd_T66 x24_1 x26_1).f1.f2))) = w19 at n0_ n1_ n2_ n3_ ⊢
                    have HO_6 := n0_
                    have HO_24 := n1_
                    have BK487 := n2_
                    have HB := n3_
                    clear n0_ n1_ n2_ n3_
                    replace HO_6 := Aside0.mk (Kd.R_drew HO_6.out)
                    replace HO_24 := Aside0.mk (Kd.R_drew HO_24.out)
                    replace BK487 := Aside0.mk (blk_drew BK487.out)
                    replace HB := Aside0.mk (below_drew1 HB.out)
                    have p488 : 0 ≤ ((ji9) : Int) := za
                    have q488 : (ji9) < (x6_1.length : Int) := za
                    obtain ⟨ad488, e488, hx488_0, hx488_1, hx488_2, hx488_3, hx488_4, hx488_5⟩ := at_T66 (Kd.R_reads' HO_6.out).2.2 (ji9) p488 q488
                    cases e488
                    replace p488 := eq_true p488
                    replace q488 := eq_true q488
                    refine start_ (n := 10) (S := fun w' => w'.cell? ⟨gb487, 0, none⟩ = some (.bool ((rd_T66 x24_1 x26_1).f0.f0)) ∧ w'.cell? ⟨gb487, 1, none⟩ = some (.int .u64 ((rd_T66 x24_1 x26_1).f0.f1)) ∧ w'.cell? ⟨gb487, 2, none⟩ = some (.int .u64 ((rd_T66 x24_1 x26_1).f0.f2)) ∧ w'.cell? ⟨gb487, 3, none⟩ = some (.bool ((rd_T66 x24_1 x26_1).f1.f0)) ∧ w'.cell? ⟨gb487, 4, none⟩ = some (.int .u64 ((rd_T66 x24_1 x26_1).f1.f1)) ∧ w'.cell? ⟨gb487, 5, none⟩ = some (.int .u64 ((rd_T66 x24_1 x26_1).f1.f2)) ∧ w'.cell? (ad488.add (((ji9)).toNat * 6)) = some (.bool ((rd_T66 x6_1 (ji9)).f0.f0)) ∧ w'.cell? ⟨(ad488.add (((ji9)).toNat * 6)).block, (ad488.add (((ji9)).toNat * 6)).off + 1, none⟩ = some (.int .u64 ((rd_T66 x6_1 (ji9)).f0.f1)) ∧ w'.cell? ⟨(ad488.add (((ji9)).toNat * 6)).block, (ad488.add (((ji9)).toNat * 6)).off + 2, none⟩ = some (.int .u64 ((rd_T66 x6_1 (ji9)).f0.f2)) ∧ w'.cell? ⟨(ad488.add (((ji9)).toNat * 6)).block, (ad488.add (((ji9)).toNat * 6)).off + 3, none⟩ = some (.bool ((rd_T66 x6_1 (ji9)).f1.f0)) ∧ w'.cell? ⟨(ad488.add (((ji9)).toNat * 6)).block, (ad488.add (((ji9)).toNat * 6)).off + 4, none⟩ = some (.int .u64 ((rd_T66 x6_1 (ji9)).f1.f1)) ∧ w'.cell? ⟨(ad488.add (((ji9)).toNat * 6)).block, (ad488.add (((ji9)).toNat * 6)).off + 5, none⟩ = some (.int .u64 ((rd_T66 x6_1 (ji9)).f1.f2))) (ds := []) #[false, false, false, false, false, false, false, false, false, false] (by kernel_rfl) rfl rfl ⟨zc BK487 0, zc BK487 1, zc BK487 2, zc BK487 3, zc BK487 4, zc BK487 5, hx488_0, hx488_1, hx488_2, hx488_3, hx488_4, hx488_5⟩ (fun hHeld => ?_); refine with_tabW addrset_Normal.tab13 addrset_Normal.bits13 (fun HT_ HW_ => ?_)
                    generalize w19.drew = w20 at HO_6 HO_24 BK487 HB hx488_0 hx488_1 hx488_2 hx488_3 hx488_4 hx488_5 hHeld ⊢
                    refine zp 0 33 HT_ ?_; refine zp 1 34 HT_ ?_; refine zp 2 35 HT_ ?_; refine zp 3 36 HT_ ?_; refine zp 4 37 HT_ ?_; refine zp 5 38 HT_ ?_; refine zt 6 39 HT_ HW_ hHeld ?_; refine zt 7 40 HT_ HW_ hHeld ?_; refine zo 8 41 HT_ (fun K hK => ?_)
                    refine goes_ Try.func76 (by kernel_rfl) rfl #[.agg #[.bool ((rd_T66 x6_1 (ji9)).f0.f0), .int .u64 ((rd_T66 x6_1 (ji9)).f0.f1), .int .u64 ((rd_T66 x6_1 (ji9)).f0.f2), .bool ((rd_T66 x6_1 (ji9)).f1.f0), .int .u64 ((rd_T66 x6_1 (ji9)).f1.f1), .int .u64 ((rd_T66 x6_1 (ji9)).f1.f2)], .agg #[.bool ((rd_T66 x24_1 x26_1).f0.f0), .int .u64 ((rd_T66 x24_1 x26_1).f0.f1), .int .u64 ((rd_T66 x24_1 x26_1).f0.f2), .bool ((rd_T66 x24_1 x26_1).f1.f0), .int .u64 ((rd_T66 x24_1 x26_1).f1.f1), .int .u64 ((rd_T66 x24_1 x26_1).f1.f2)]] (by rfl) rfl rfl (by (try simp only [List.map_toArray, List.map_cons, List.map_nil]); first | done | (simp only [hji9]; rfl) | rfl | (simp only [List.length_drop, List.length_take]; rfl)) ?_
                    with_reducible refine (addrset_near.calls ((rd_T66 x6_1 (ji9)).f0.f0) ((rd_T66 x6_1 (ji9)).f0.f1) ((rd_T66 x6_1 (ji9)).f0.f2) ((rd_T66 x6_1 (ji9)).f1.f0) ((rd_T66 x6_1 (ji9)).f1.f1) ((rd_T66 x6_1 (ji9)).f1.f2) ((rd_T66 x24_1 x26_1).f0.f0) ((rd_T66 x24_1 x26_1).f0.f1) ((rd_T66 x24_1 x26_1).f0.f2) ((rd_T66 x24_1 x26_1).f1.f0) ((rd_T66 x24_1 x26_1).f1.f1) ((rd_T66 x24_1 x26_1).f1.f2) true _ A12.out).mono ?_
                    rintro e w21 ⟨rfl, hb⟩
                    have HS6_ := (hb.cell (World.block_lt_of_cell? _ _ (hHeld.2.2.2.2.2.2.1))).trans (hHeld.2.2.2.2.2.2.1)
                    have HS7_ := (hb.cell (World.block_lt_of_cell? _ _ (hHeld.2.2.2.2.2.2.2.1))).trans (hHeld.2.2.2.2.2.2.2.1)
                    have HS8_ := (hb.cell (World.block_lt_of_cell? _ _ (hHeld.2.2.2.2.2.2.2.2.1))).trans (hHeld.2.2.2.2.2.2.2.2.1)
                    have HS9_ := (hb.cell (World.block_lt_of_cell? _ _ (hHeld.2.2.2.2.2.2.2.2.2.1))).trans (hHeld.2.2.2.2.2.2.2.2.2.1)
                    have HS10_ := (hb.cell (World.block_lt_of_cell? _ _ (hHeld.2.2.2.2.2.2.2.2.2.2.1))).trans (hHeld.2.2.2.2.2.2.2.2.2.2.1)
                    have HS11_ := (hb.cell (World.block_lt_of_cell? _ _ (hHeld.2.2.2.2.2.2.2.2.2.2.2))).trans (hHeld.2.2.2.2.2.2.2.2.2.2.2)
                    refine ⟨_, rfl, ?_⟩
                    replace HO_6 := Aside0.mk (Kd.R_below (zR HO_6) hb)
                    replace HO_24 := Aside0.mk (Kd.R_below (zR HO_24) hb)
                    replace BK487 := Aside0.mk (blk_below (g := gb487) (o := .cells #[.bool ((rd_T66 x24_1 x26_1).f0.f0), .int .u64 ((rd_T66 x24_1 x26_1).f0.f1), .int .u64 ((rd_T66 x24_1 x26_1).f0.f2), .bool ((rd_T66 x24_1 x26_1).f1.f0), .int .u64 ((rd_T66 x24_1 x26_1).f1.f1), .int .u64 ((rd_T66 x24_1 x26_1).f1.f2)] 66 (0, 0)) (zK BK487) hb)
                    replace HB := Aside0.mk (below_step (zB HB) hb)
                    (try clear hb)
                    refine hK.out _ _ ⟨zc BK487 0, zc BK487 1, zc BK487 2, zc BK487 3, zc BK487 4, zc BK487 5, HS6_, HS7_, HS8_, HS9_, HS10_, HS11_⟩ (fun hHeld => ?_)
                    clear hK K
                    refine zn 41 ?_; refine zp 9 42 HT_ ?_; refine zd HT_ ?_
                    try go_wp2
                    replace HO_6 := Aside0.mk (Kd.R_drew HO_6.out)
                    replace HO_24 := Aside0.mk (Kd.R_drew HO_24.out)
                    replace BK487 := Aside0.mk (blk_drew BK487.out)
                    replace HB := Aside0.mk (below_drew1 HB.out)
                    have p490 : 0 ≤ ((ji9) : Int) := za
                    have q490 : (ji9) < (x6_1.length : Int) := za
                    obtain ⟨ad490, e490, hx490_0, hx490_1, hx490_2, hx490_3, hx490_4, hx490_5⟩ := at_T66 (Kd.R_reads' HO_6.out).2.2 (ji9) p490 q490
                    obtain rfl : ad488 = ad490 := (by injection e490)
                    replace p490 := eq_true p490
                    replace q490 := eq_true q490
                    refine start_ (n := 13) (S := fun w' => w'.cell? ⟨gb487, 0, none⟩ = some (.bool ((rd_T66 x24_1 x26_1).f0.f0)) ∧ w'.cell? ⟨gb487, 1, none⟩ = some (.int .u64 ((rd_T66 x24_1 x26_1).f0.f1)) ∧ w'.cell? ⟨gb487, 2, none⟩ = some (.int .u64 ((rd_T66 x24_1 x26_1).f0.f2)) ∧ w'.cell? ⟨gb487, 3, none⟩ = some (.bool ((rd_T66 x24_1 x26_1).f1.f0)) ∧ w'.cell? ⟨gb487, 4, none⟩ = some (.int .u64 ((rd_T66 x24_1 x26_1).f1.f1)) ∧ w'.cell? ⟨gb487, 5, none⟩ = some (.int .u64 ((rd_T66 x24_1 x26_1).f1.f2)) ∧ w'.cell? (ad488.add (((ji9)).toNat * 6)) = some (.bool ((rd_T66 x6_1 (ji9)).f0.f0)) ∧ w'.cell? ⟨(ad488.add (((ji9)).toNat * 6)).block, (ad488.add (((ji9)).toNat * 6)).off + 1, none⟩ = some (.int .u64 ((rd_T66 x6_1 (ji9)).f0.f1)) ∧ w'.cell? ⟨(ad488.add (((ji9)).toNat * 6)).block, (ad488.add (((ji9)).toNat * 6)).off + 2, none⟩ = some (.int .u64 ((rd_T66 x6_1 (ji9)).f0.f2)) ∧ w'.cell? ⟨(ad488.add (((ji9)).toNat * 6)).block, (ad488.add (((ji9)).toNat * 6)).off + 3, none⟩ = some (.bool ((rd_T66 x6_1 (ji9)).f1.f0)) ∧ w'.cell? ⟨(ad488.add (((ji9)).toNat * 6)).block, (ad488.add (((ji9)).toNat * 6)).off + 4, none⟩ = some (.int .u64 ((rd_T66 x6_1 (ji9)).f1.f1)) ∧ w'.cell? ⟨(ad488.add (((ji9)).toNat * 6)).block, (ad488.add (((ji9)).toNat * 6)).off + 5, none⟩ = some (.int .u64 ((rd_T66 x6_1 (ji9)).f1.f2))) (ds := [12]) #[false, false, false, false, false, false, false, false, false, false, false, false, false] (by kernel_rfl) rfl rfl ⟨zc BK487 0, zc BK487 1, zc BK487 2, zc BK487 3, zc BK487 4, zc BK487 5, hx490_0, hx490_1, hx490_2, hx490_3, hx490_4, hx490_5⟩ (fun hHeld => ?_); refine with_tabW addrset_Normal.tab14 addrset_Normal.bits14 (fun HT_ HW_ => ?_)
                    generalize w21.drew = w22 at HO_6 HO_24 BK487 HB hx490_0 hx490_1 hx490_2 hx490_3 hx490_4 hx490_5 hHeld ⊢
                    refine zp 0 43 HT_ ?_; refine zp 1 44 HT_ ?_; refine zp 2 45 HT_ ?_; refine zp 3 46 HT_ ?_; refine zp 4 47 HT_ ?_; refine zp 5 48 HT_ ?_; refine zp 7 50 HT_ ?_; refine zt 6 49 HT_ HW_ hHeld ?_; refine zt 8 51 HT_ HW_ hHeld ?_; refine zo 9 52 HT_ (fun K hK => ?_)
                    refine goes_ Try.func77 (by kernel_rfl) rfl #[.agg #[.bool ((rd_T66 x6_1 (ji9)).f1.f0), .int .u64 ((rd_T66 x6_1 (ji9)).f1.f1), .int .u64 ((rd_T66 x6_1 (ji9)).f1.f2)], .agg #[.bool ((rd_T66 x24_1 x26_1).f1.f0), .int .u64 ((rd_T66 x24_1 x26_1).f1.f1), .int .u64 ((rd_T66 x24_1 x26_1).f1.f2)]] (by rfl) rfl rfl (by (try simp only [List.map_toArray, List.map_cons, List.map_nil]); first | done | (simp only [hji9]; rfl) | rfl | (simp only [List.length_drop, List.length_take]; rfl)) ?_
                    with_reducible refine (addrset_greater.calls ((rd_T66 x6_1 (ji9)).f1.f0) ((rd_T66 x6_1 (ji9)).f1.f1) ((rd_T66 x6_1 (ji9)).f1.f2) ((rd_T66 x24_1 x26_1).f1.f0) ((rd_T66 x24_1 x26_1).f1.f1) ((rd_T66 x24_1 x26_1).f1.f2) t491 t492 t493 _ A14.out).mono ?_
                    rintro e w23 ⟨rfl, hb⟩
                    have HS6_ := (hb.cell (World.block_lt_of_cell? _ _ (hHeld.2.2.2.2.2.2.1))).trans (hHeld.2.2.2.2.2.2.1)
                    have HS7_ := (hb.cell (World.block_lt_of_cell? _ _ (hHeld.2.2.2.2.2.2.2.1))).trans (hHeld.2.2.2.2.2.2.2.1)
                    have HS8_ := (hb.cell (World.block_lt_of_cell? _ _ (hHeld.2.2.2.2.2.2.2.2.1))).trans (hHeld.2.2.2.2.2.2.2.2.1)
                    have HS9_ := (hb.cell (World.block_lt_of_cell? _ _ (hHeld.2.2.2.2.2.2.2.2.2.1))).trans (hHeld.2.2.2.2.2.2.2.2.2.1)
                    have HS10_ := (hb.cell (World.block_lt_of_cell? _ _ (hHeld.2.2.2.2.2.2.2.2.2.2.1))).trans (hHeld.2.2.2.2.2.2.2.2.2.2.1)
                    have HS11_ := (hb.cell (World.block_lt_of_cell? _ _ (hHeld.2.2.2.2.2.2.2.2.2.2.2))).trans (hHeld.2.2.2.2.2.2.2.2.2.2.2)
                    refine ⟨_, rfl, ?_⟩
                    replace HO_6 := Aside0.mk (Kd.R_below (zR HO_6) hb)
                    replace HO_24 := Aside0.mk (Kd.R_below (zR HO_24) hb)
                    replace BK487 := Aside0.mk (blk_below (g := gb487) (o := .cells #[.bool ((rd_T66 x24_1 x26_1).f0.f0), .int .u64 ((rd_T66 x24_1 x26_1).f0.f1), .int .u64 ((rd_T66 x24_1 x26_1).f0.f2), .bool ((rd_T66 x24_1 x26_1).f1.f0), .int .u64 ((rd_T66 x24_1 x26_1).f1.f1), .int .u64 ((rd_T66 x24_1 x26_1).f1.f2)] 66 (0, 0)) (zK BK487) hb)
                    replace HB := Aside0.mk (below_step (zB HB) hb)
                    (try clear hb)
                    have p15 : 0 ≤ ((ji9) : Int) := za
                    have q15 : ((ji9) : Int) < ((x6_1.length : Int) : Int) := za
                    obtain ⟨go15, co15, eo15, gb15, gl15, cl15, HG15⟩ := Kd.R_form HO_6.out (by omega)
                    (first | cases eo15 | (injection eo15 with ea_ en_ ec_; (first | subst ea_ | (injection ea_ with ea_; subst ea_)); subst ec_; clear en_))
                    have GB15 := Aside0.mk gb15
                    have GG15 := Aside0.mk HG15
                    clear gb15 gl15 HG15
                    (first | simp only [add_plain] at hx488_0 | skip)
                    (first | simp only [add_plain] at hx488_1 | skip)
                    (first | simp only [add_plain] at hx488_2 | skip)
                    (first | simp only [add_plain] at hx488_3 | skip)
                    (first | simp only [add_plain] at hx488_4 | skip)
                    (first | simp only [add_plain] at hx488_5 | skip)
                    (first | simp only [add_plain] at hx490_0 | skip)
                    (first | simp only [add_plain] at hx490_1 | skip)
                    (first | simp only [add_plain] at hx490_2 | skip)
                    (first | simp only [add_plain] at hx490_3 | skip)
                    (first | simp only [add_plain] at hx490_4 | skip)
                    (first | simp only [add_plain] at hx490_5 | skip)
                    obtain ⟨ce15, hcl15, hM15, hcc15, hfr15⟩ := Kd.R_elem HO_6.out z66 ((ji9) : Int) p15 q15
                    obtain rfl := k66_openM hM15
                    have hx15_0 : World.cell? _ ⟨go15, ((ji9) : Int).toNat * 6, none⟩ = some (.bool ((rd_T66 x6_1 (ji9)).f0.f0)) := hcc15 0 _ rfl
                    have hx15_1 : World.cell? _ ⟨go15, ((ji9) : Int).toNat * 6 + 1, none⟩ = some (.int .u64 ((rd_T66 x6_1 (ji9)).f0.f1)) := hcc15 1 _ rfl
                    have hx15_2 : World.cell? _ ⟨go15, ((ji9) : Int).toNat * 6 + 2, none⟩ = some (.int .u64 ((rd_T66 x6_1 (ji9)).f0.f2)) := hcc15 2 _ rfl
                    have hx15_3 : World.cell? _ ⟨go15, ((ji9) : Int).toNat * 6 + 3, none⟩ = some (.bool ((rd_T66 x6_1 (ji9)).f1.f0)) := hcc15 3 _ rfl
                    have hx15_4 : World.cell? _ ⟨go15, ((ji9) : Int).toNat * 6 + 4, none⟩ = some (.int .u64 ((rd_T66 x6_1 (ji9)).f1.f1)) := hcc15 4 _ rfl
                    have hx15_5 : World.cell? _ ⟨go15, ((ji9) : Int).toNat * 6 + 5, none⟩ = some (.int .u64 ((rd_T66 x6_1 (ji9)).f1.f2)) := hcc15 5 _ rfl
                    have hf15_0 : World.frozen? _ ⟨go15, ((ji9) : Int).toNat * 6, none⟩ = false := hfr15 0
                    have hf15_1 : World.frozen? _ ⟨go15, ((ji9) : Int).toNat * 6 + 1, none⟩ = false := hfr15 1
                    have hf15_2 : World.frozen? _ ⟨go15, ((ji9) : Int).toNat * 6 + 2, none⟩ = false := hfr15 2
                    have hf15_3 : World.frozen? _ ⟨go15, ((ji9) : Int).toNat * 6 + 3, none⟩ = false := hfr15 3
                    have hf15_4 : World.frozen? _ ⟨go15, ((ji9) : Int).toNat * 6 + 4, none⟩ = false := hfr15 4
                    have hf15_5 : World.frozen? _ ⟨go15, ((ji9) : Int).toNat * 6 + 5, none⟩ = false := hfr15 5
                    clear hcl15 hcc15 hfr15 hM15
                    replace p15 := eq_true p15
                    replace q15 := eq_true q15
                    obtain ⟨ce24, hcl24, hM24, hcc24, hfr24⟩ := Kd.R_elem HO_6.out z66 ((ji9) : Int) (of_decide_eq_true (by first | (with_reducible assumption) | assumption)) (by have h_ : ((ji9) : Int) < ((x6_1.length : Int) : Int) := za; first | exact h_ | (have e_ := (Kd.R_reads' HO_6.out).1; omega) | simpa using h_)
                    obtain rfl := k66_openM hM24
                    have HP24 := (Kd.R_seg HO_6.out ((ji9) : Int) (of_decide_eq_true (by first | (with_reducible assumption) | assumption)) (by have h_ : ((ji9) : Int) < ((x6_1.length : Int) : Int) := za; first | exact h_ | (have e_ := (Kd.R_reads' HO_6.out).1; omega) | simpa using h_) (seg := [.bool t491, .int .u64 t492, .int .u64 t493]) (j := 3) hcl24 hcc24 (show 6 ≤ 6 from by decide) (x' := (⟨(⟨(rd_T66 x6_1 (ji9)).f0.f0, (rd_T66 x6_1 (ji9)).f0.f1, (rd_T66 x6_1 (ji9)).f0.f2⟩ : S36), (⟨t491, t492, t493⟩ : S36)⟩ : S66)) (k66_mkM _ _ _ (⟨(⟨(rd_T66 x6_1 (ji9)).f0.f0, (rd_T66 x6_1 (ji9)).f0.f1, (rd_T66 x6_1 (ji9)).f0.f2⟩ : S36), (⟨t491, t492, t493⟩ : S36)⟩ : S66) ) (fun _ hk => hk)).1
                    rw [← Ny494.out] at HP24
                    have HQ24 := Aside0.mk HP24
                    clear hcl24 hcc24 hfr24 hM24 HP24
                    refine hK.out _ _ ⟨zc BK487 0, zc BK487 1, zc BK487 2, zc BK487 3, zc BK487 4, zc BK487 5, HS6_, HS7_, HS8_, HS9_, HS10_, HS11_⟩ (fun hHeld => ?_)
                    clear hK K
                    refine zn 52 ?_; refine zp 10 53 HT_ ?_; refine zp 11 54 HT_ ?_
                    refine last_ (i := 12) (N := none) #[true, true, true, true, true, true, true, true, true, true, true, true, true] rfl rfl (one_of HT_.out (by kernel_rfl)) (by decide) (fun K hK => ?_)
                    refine skip_ (w1 := ?_) (by rfl) rfl ?_ ?_
                    rotate_left
                    · go_simp
                      rfl
                    refine hK.out _ _ ?_
                    clear hK K
                    refine zd HT_ ?_
                    try go_wp2
                    (try simp only [← hl24_1])
                    go_roundg k1
                    case measure => have := HK1.out; omega
                    case rel => exact ⟨(y494), (x24_1), (wrap64 (x26_1 + 1)), (by first | rfl | (simp; done) | (simp [*]; done)), H', ⟨by have := HK1.out; omega⟩, ⟨by (try simp only [hl24_1]); (with_reducible repeat (first | apply Kd.R_alloc | apply Kd.R_drewN | apply Kd.R_drew)); exact Kd.R_mono HQ24.out (fun _ hk => hk.1)⟩, ⟨by (try simp only [hl24_1]); (with_reducible repeat (first | apply Kd.R_alloc | apply Kd.R_drewN | apply Kd.R_drew)); exact Kd.R_mono (Kd.R_far (p := ⟨go15, ((ji9) : Int).toNat * 6 + 5, none⟩) (Kd.R_far (p := ⟨go15, ((ji9) : Int).toNat * 6 + 4, none⟩) (Kd.R_far (p := ⟨go15, ((ji9) : Int).toNat * 6 + 3, none⟩) (Kd.R_mono HO_24.out (fun k_ hk => (⟨hk, fun e_ => hk.1 (by rw [e_]; rfl)⟩ : _ ∧ k_ ≠ go15))) (fun _ hk => hk.2) (.bool t491)) (fun _ hk => hk.2) (.int .u64 t492)) (fun _ hk => hk.2) (.int .u64 t493)) (fun _ hk => hk.1.1)⟩, ⟨zB HB⟩⟩
                  · replace c13 := Bool.eq_false_iff.mpr c13
                    subst c13
                    rw [if_neg zF] at H
                    by_cases c25 : x6_1.length < 2932031007402
                    · rw [if_pos c25] at H
                      have LMc25 := Aside0.mk c25
                      clear c25
                      obtain ⟨y495, hy495⟩ : ∃ y_ : List (S66), y_ = (x6_1 ++ [(⟨(⟨(rd_T66 x24_1 x26_1).f0.f0, (rd_T66 x24_1 x26_1).f0.f1, (rd_T66 x24_1 x26_1).f0.f2⟩ : S36), (⟨(rd_T66 x24_1 x26_1).f1.f0, (rd_T66 x24_1 x26_1).f1.f1, (rd_T66 x24_1 x26_1).f1.f2⟩ : S36)⟩ : S66)]) := ⟨_, rfl⟩
                      rw [← hy495] at H; try dsimp only [Option.bind_some] at H
                      have Ny495 := Aside0.mk hy495
                      clear hy495
                      have H' := Aside0.mk H
                      clear H
                      have p486 : 0 ≤ (x26_1 : Int) := za
                      have q486 : x26_1 < (x24_1.length : Int) := za
                      (try (obtain ⟨Ax_, cx_, ex_⟩ := Kd.R_slice HO_24.out; subst ex_))
                      obtain ⟨ad486, e486, hx486_0, hx486_1, hx486_2, hx486_3, hx486_4, hx486_5⟩ := at_T66 (Kd.R_reads' HO_24.out).2.2 x26_1 p486 q486
                      cases e486
                      replace p486 := eq_true p486
                      replace q486 := eq_true q486
                      try go_wp2_with (first | ((with_reducible refine gate_dst (N := 8) rfl ?_); refine zx 8 #[.bool false, .int .u64 0, .int .u64 0, .bool false, .int .u64 0, .int .u64 0] 66 ?_; intro gb487 hg w26 hbox hb; replace HO_6 := Aside0.mk (Kd.R_below (Kd.R_elderB (zR HO_6) gb487 (Nat.le_of_eq hg.symm)) hb); replace HO_24 := Aside0.mk (Kd.R_below (Kd.R_elderB (zR HO_24) gb487 (Nat.le_of_eq hg.symm)) hb); have BK487 := Aside0.mk (hbox); have GW487 := Aside0.mk ((by rw [hg]; exact (below_size (zB HB)) : w.heap.size ≤ gb487)); have GE487 := Aside0.mk ((by rw [hg]; exact (below_size (zB HB)) : w.heap.size ≤ gb487)); replace HB := Aside0.mk (below_step (zB HB) hb); clear hb hbox hg; obtain ⟨hcz27_0, hcz27_1, hcz27_2, hcz27_3, hcz27_4, hcz27_5⟩ := zc6 BK487; obtain ⟨hfz27_0, hfz27_1, hfz27_2, hfz27_3, hfz27_4, hfz27_5⟩ := zf6 BK487; obtain ⟨Ao28, co28, eo28⟩ := Kd.R_slice HO_6.out; subst eo28))
                      have n0_ : Aside0 (Kd.R k66 66 ((((((w26.setCell ⟨gb487, 0, none⟩ (.bool ((rd_T66 x24_1 x26_1).f0.f0))).setCell ⟨gb487, 1, none⟩ (.int .u64 ((rd_T66 x24_1 x26_1).f0.f1))).setCell ⟨gb487, 2, none⟩ (.int .u64 ((rd_T66 x24_1 x26_1).f0.f2))).setCell ⟨gb487, 3, none⟩ (.bool ((rd_T66 x24_1 x26_1).f1.f0))).setCell ⟨gb487, 4, none⟩ (.int .u64 ((rd_T66 x24_1 x26_1).f1.f1))).setCell ⟨gb487, 5, none⟩ (.int .u64 ((rd_T66 x24_1 x26_1).f1.f2))) w.heap.size (fun k_ => some k_ ≠ (.slice (some ad486) x24_1.length co4 : Value).ownBlock ∧ k_ ≠ gb487) (.slice Ao28 x6_1.length co28) x6_1) := ⟨by (with_reducible repeat (first | apply Kd.R_alloc | apply Kd.R_drewN | apply Kd.R_drew)); exact Kd.R_mono (Kd.R_far (p := ⟨gb487, 5, none⟩) (Kd.R_far (p := ⟨gb487, 4, none⟩) (Kd.R_far (p := ⟨gb487, 3, none⟩) (Kd.R_far (p := ⟨gb487, 2, none⟩) (Kd.R_far (p := ⟨gb487, 1, none⟩) (Kd.R_far (p := ⟨gb487, 0, none⟩) (Kd.R_mono HO_6.out (fun k_ hk => (⟨hk, hk.2⟩ : _ ∧ k_ ≠ gb487))) (fun _ hk => hk.2) (.bool ((rd_T66 x24_1 x26_1).f0.f0))) (fun _ hk => hk.2) (.int .u64 ((rd_T66 x24_1 x26_1).f0.f1))) (fun _ hk => hk.2) (.int .u64 ((rd_T66 x24_1 x26_1).f0.f2))) (fun _ hk => hk.2) (.bool ((rd_T66 x24_1 x26_1).f1.f0))) (fun _ hk => hk.2) (.int .u64 ((rd_T66 x24_1 x26_1).f1.f1))) (fun _ hk => hk.2) (.int .u64 ((rd_T66 x24_1 x26_1).f1.f2))) (fun _ hk => ⟨hk.1.1, hk.1.2⟩)⟩
                      have n1_ : Aside0 (Kd.R k66 66 ((((((w26.setCell ⟨gb487, 0, none⟩ (.bool ((rd_T66 x24_1 x26_1).f0.f0))).setCell ⟨gb487, 1, none⟩ (.int .u64 ((rd_T66 x24_1 x26_1).f0.f1))).setCell ⟨gb487, 2, none⟩ (.int .u64 ((rd_T66 x24_1 x26_1).f0.f2))).setCell ⟨gb487, 3, none⟩ (.bool ((rd_T66 x24_1 x26_1).f1.f0))).setCell ⟨gb487, 4, none⟩ (.int .u64 ((rd_T66 x24_1 x26_1).f1.f1))).setCell ⟨gb487, 5, none⟩ (.int .u64 ((rd_T66 x24_1 x26_1).f1.f2))) w.heap.size (fun k_ => some k_ ≠ (.slice Ao28 x6_1.length co28 : Value).ownBlock ∧ k_ ≠ gb487) (.slice (some ad486) x24_1.length co4) x24_1) := ⟨by (with_reducible repeat (first | apply Kd.R_alloc | apply Kd.R_drewN | apply Kd.R_drew)); exact Kd.R_mono (Kd.R_far (p := ⟨gb487, 5, none⟩) (Kd.R_far (p := ⟨gb487, 4, none⟩) (Kd.R_far (p := ⟨gb487, 3, none⟩) (Kd.R_far (p := ⟨gb487, 2, none⟩) (Kd.R_far (p := ⟨gb487, 1, none⟩) (Kd.R_far (p := ⟨gb487, 0, none⟩) (Kd.R_mono HO_24.out (fun k_ hk => (⟨hk, hk.2⟩ : _ ∧ k_ ≠ gb487))) (fun _ hk => hk.2) (.bool ((rd_T66 x24_1 x26_1).f0.f0))) (fun _ hk => hk.2) (.int .u64 ((rd_T66 x24_1 x26_1).f0.f1))) (fun _ hk => hk.2) (.int .u64 ((rd_T66 x24_1 x26_1).f0.f2))) (fun _ hk => hk.2) (.bool ((rd_T66 x24_1 x26_1).f1.f0))) (fun _ hk => hk.2) (.int .u64 ((rd_T66 x24_1 x26_1).f1.f1))) (fun _ hk => hk.2) (.int .u64 ((rd_T66 x24_1 x26_1).f1.f2))) (fun _ hk => ⟨hk.1.1, hk.1.2⟩)⟩
                      have n2_ : Aside0 (((((((w26.setCell ⟨gb487, 0, none⟩ (.bool ((rd_T66 x24_1 x26_1).f0.f0))).setCell ⟨gb487, 1, none⟩ (.int .u64 ((rd_T66 x24_1 x26_1).f0.f1))).setCell ⟨gb487, 2, none⟩ (.int .u64 ((rd_T66 x24_1 x26_1).f0.f2))).setCell ⟨gb487, 3, none⟩ (.bool ((rd_T66 x24_1 x26_1).f1.f0))).setCell ⟨gb487, 4, none⟩ (.int .u64 ((rd_T66 x24_1 x26_1).f1.f1))).setCell ⟨gb487, 5, none⟩ (.int .u64 ((rd_T66 x24_1 x26_1).f1.f2))).heap[gb487]? = some (.cells #[.bool ((rd_T66 x24_1 x26_1).f0.f0), .int .u64 ((rd_T66 x24_1 x26_1).f0.f1), .int .u64 ((rd_T66 x24_1 x26_1).f0.f2), .bool ((rd_T66 x24_1 x26_1).f1.f0), .int .u64 ((rd_T66 x24_1 x26_1).f1.f1), .int .u64 ((rd_T66 x24_1 x26_1).f1.f2)] 66 (0, 0))) := ⟨by refine zL ?_; refine blk_put (cs := #[.bool ((rd_T66 x24_1 x26_1).f0.f0), .int .u64 ((rd_T66 x24_1 x26_1).f0.f1), .int .u64 ((rd_T66 x24_1 x26_1).f0.f2), .bool ((rd_T66 x24_1 x26_1).f1.f0), .int .u64 ((rd_T66 x24_1 x26_1).f1.f1), .int .u64 0]) ?_ 5 _ rfl; refine zL ?_; refine blk_put (cs := #[.bool ((rd_T66 x24_1 x26_1).f0.f0), .int .u64 ((rd_T66 x24_1 x26_1).f0.f1), .int .u64 ((rd_T66 x24_1 x26_1).f0.f2), .bool ((rd_T66 x24_1 x26_1).f1.f0), .int .u64 0, .int .u64 0]) ?_ 4 _ rfl; refine zL ?_; refine blk_put (cs := #[.bool ((rd_T66 x24_1 x26_1).f0.f0), .int .u64 ((rd_T66 x24_1 x26_1).f0.f1), .int .u64 ((rd_T66 x24_1 x26_1).f0.f2), .bool false, .int .u64 0, .int .u64 0]) ?_ 3 _ rfl; refine zL ?_; refine blk_put (cs := #[.bool ((rd_T66 x24_1 x26_1).f0.f0), .int .u64 ((rd_T66 x24_1 x26_1).f0.f1), .int .u64 0, .bool false, .int .u64 0, .int .u64 0]) ?_ 2 _ rfl; refine zL ?_; refine blk_put (cs := #[.bool ((rd_T66 x24_1 x26_1).f0.f0), .int .u64 0, .int .u64 0, .bool false, .int .u64 0, .int .u64 0]) ?_ 1 _ rfl; refine zL ?_; refine blk_put (cs := #[.bool false, .int .u64 0, .int .u64 0, .bool false, .int .u64 0, .int .u64 0]) ?_ 0 _ rfl; refine zL ?_; exact BK487.out⟩
                      have n3_ : Aside0 (Below w.heap.size w ((((((w26.setCell ⟨gb487, 0, none⟩ (.bool ((rd_T66 x24_1 x26_1).f0.f0))).setCell ⟨gb487, 1, none⟩ (.int .u64 ((rd_T66 x24_1 x26_1).f0.f1))).setCell ⟨gb487, 2, none⟩ (.int .u64 ((rd_T66 x24_1 x26_1).f0.f2))).setCell ⟨gb487, 3, none⟩ (.bool ((rd_T66 x24_1 x26_1).f1.f0))).setCell ⟨gb487, 4, none⟩ (.int .u64 ((rd_T66 x24_1 x26_1).f1.f1))).setCell ⟨gb487, 5, none⟩ (.int .u64 ((rd_T66 x24_1 x26_1).f1.f2)))) := ⟨zB HB⟩
                      (try clear HO_6)
                      (try clear HO_24)
                      (try clear BK487)
                      (try clear HB)
                      generalize ((((((w26.setCell ⟨gb487, 0, none⟩ (.bool ((rd_T66 x24_1 x26_1).f0.f0))).setCell ⟨gb487, 1, none⟩ (.int .u64 ((rd_T66 x24_1 x26_1).f0.f1))).setCell ⟨gb487, 2, none⟩ (.int .u64 ((rd_T66 x24_1 x26_1).f0.f2))).setCell ⟨gb487, 3, none⟩ (.bool ((rd_T66 x24_1 x26_1).f1.f0))).setCell ⟨gb487, 4, none⟩ (.int .u64 ((rd_T66 x24_1 x26_1).f1.f1))).setCell ⟨gb487, 5, none⟩ (.int .u64 ((rd_T66 x24_1 x26_1).f1.f2))) = w29 at n0_ n1_ n2_ n3_ ⊢
                      have HO_6 := n0_
                      have HO_24 := n1_
                      have BK487 := n2_
                      have HB := n3_
                      clear n0_ n1_ n2_ n3_
                      replace HO_6 := Aside0.mk (Kd.R_drew HO_6.out)
                      replace HO_24 := Aside0.mk (Kd.R_drew HO_24.out)
                      replace BK487 := Aside0.mk (blk_drew BK487.out)
                      replace HB := Aside0.mk (below_drew1 HB.out)
                      have p488 : 0 ≤ ((ji9) : Int) := za
                      have q488 : (ji9) < (x6_1.length : Int) := za
                      obtain ⟨ad488, e488, hx488_0, hx488_1, hx488_2, hx488_3, hx488_4, hx488_5⟩ := at_T66 (Kd.R_reads' HO_6.out).2.2 (ji9) p488 q488
                      cases e488
                      replace p488 := eq_true p488
                      replace q488 := eq_true q488
                      refine start_ (n := 10) (S := fun w' => w'.cell? ⟨gb487, 0, none⟩ = some (.bool ((rd_T66 x24_1 x26_1).f0.f0)) ∧ w'.cell? ⟨gb487, 1, none⟩ = some (.int .u64 ((rd_T66 x24_1 x26_1).f0.f1)) ∧ w'.cell? ⟨gb487, 2, none⟩ = some (.int .u64 ((rd_T66 x24_1 x26_1).f0.f2)) ∧ w'.cell? ⟨gb487, 3, none⟩ = some (.bool ((rd_T66 x24_1 x26_1).f1.f0)) ∧ w'.cell? ⟨gb487, 4, none⟩ = some (.int .u64 ((rd_T66 x24_1 x26_1).f1.f1)) ∧ w'.cell? ⟨gb487, 5, none⟩ = some (.int .u64 ((rd_T66 x24_1 x26_1).f1.f2)) ∧ w'.cell? (ad488.add (((ji9)).toNat * 6)) = some (.bool ((rd_T66 x6_1 (ji9)).f0.f0)) ∧ w'.cell? ⟨(ad488.add (((ji9)).toNat * 6)).block, (ad488.add (((ji9)).toNat * 6)).off + 1, none⟩ = some (.int .u64 ((rd_T66 x6_1 (ji9)).f0.f1)) ∧ w'.cell? ⟨(ad488.add (((ji9)).toNat * 6)).block, (ad488.add (((ji9)).toNat * 6)).off + 2, none⟩ = some (.int .u64 ((rd_T66 x6_1 (ji9)).f0.f2)) ∧ w'.cell? ⟨(ad488.add (((ji9)).toNat * 6)).block, (ad488.add (((ji9)).toNat * 6)).off + 3, none⟩ = some (.bool ((rd_T66 x6_1 (ji9)).f1.f0)) ∧ w'.cell? ⟨(ad488.add (((ji9)).toNat * 6)).block, (ad488.add (((ji9)).toNat * 6)).off + 4, none⟩ = some (.int .u64 ((rd_T66 x6_1 (ji9)).f1.f1)) ∧ w'.cell? ⟨(ad488.add (((ji9)).toNat * 6)).block, (ad488.add (((ji9)).toNat * 6)).off + 5, none⟩ = some (.int .u64 ((rd_T66 x6_1 (ji9)).f1.f2))) (ds := []) #[false, false, false, false, false, false, false, false, false, false] (by kernel_rfl) rfl rfl ⟨zc BK487 0, zc BK487 1, zc BK487 2, zc BK487 3, zc BK487 4, zc BK487 5, hx488_0, hx488_1, hx488_2, hx488_3, hx488_4, hx488_5⟩ (fun hHeld => ?_); refine with_tabW addrset_Normal.tab13 addrset_Normal.bits13 (fun HT_ HW_ => ?_)
                      generalize w29.drew = w30 at HO_6 HO_24 BK487 HB hx488_0 hx488_1 hx488_2 hx488_3 hx488_4 hx488_5 hHeld ⊢
                      refine zp 0 33 HT_ ?_; refine zp 1 34 HT_ ?_; refine zp 2 35 HT_ ?_; refine zp 3 36 HT_ ?_; refine zp 4 37 HT_ ?_; refine zp 5 38 HT_ ?_; refine zt 6 39 HT_ HW_ hHeld ?_; refine zt 7 40 HT_ HW_ hHeld ?_; refine zo 8 41 HT_ (fun K hK => ?_)
                      refine goes_ Try.func76 (by kernel_rfl) rfl #[.agg #[.bool ((rd_T66 x6_1 (ji9)).f0.f0), .int .u64 ((rd_T66 x6_1 (ji9)).f0.f1), .int .u64 ((rd_T66 x6_1 (ji9)).f0.f2), .bool ((rd_T66 x6_1 (ji9)).f1.f0), .int .u64 ((rd_T66 x6_1 (ji9)).f1.f1), .int .u64 ((rd_T66 x6_1 (ji9)).f1.f2)], .agg #[.bool ((rd_T66 x24_1 x26_1).f0.f0), .int .u64 ((rd_T66 x24_1 x26_1).f0.f1), .int .u64 ((rd_T66 x24_1 x26_1).f0.f2), .bool ((rd_T66 x24_1 x26_1).f1.f0), .int .u64 ((rd_T66 x24_1 x26_1).f1.f1), .int .u64 ((rd_T66 x24_1 x26_1).f1.f2)]] (by rfl) rfl rfl (by (try simp only [List.map_toArray, List.map_cons, List.map_nil]); first | done | (simp only [hji9]; rfl) | rfl | (simp only [List.length_drop, List.length_take]; rfl)) ?_
                      with_reducible refine (addrset_near.calls ((rd_T66 x6_1 (ji9)).f0.f0) ((rd_T66 x6_1 (ji9)).f0.f1) ((rd_T66 x6_1 (ji9)).f0.f2) ((rd_T66 x6_1 (ji9)).f1.f0) ((rd_T66 x6_1 (ji9)).f1.f1) ((rd_T66 x6_1 (ji9)).f1.f2) ((rd_T66 x24_1 x26_1).f0.f0) ((rd_T66 x24_1 x26_1).f0.f1) ((rd_T66 x24_1 x26_1).f0.f2) ((rd_T66 x24_1 x26_1).f1.f0) ((rd_T66 x24_1 x26_1).f1.f1) ((rd_T66 x24_1 x26_1).f1.f2) false _ A12.out).mono ?_
                      rintro e w31 ⟨rfl, hb⟩
                      have HS6_ := (hb.cell (World.block_lt_of_cell? _ _ (hHeld.2.2.2.2.2.2.1))).trans (hHeld.2.2.2.2.2.2.1)
                      have HS7_ := (hb.cell (World.block_lt_of_cell? _ _ (hHeld.2.2.2.2.2.2.2.1))).trans (hHeld.2.2.2.2.2.2.2.1)
                      have HS8_ := (hb.cell (World.block_lt_of_cell? _ _ (hHeld.2.2.2.2.2.2.2.2.1))).trans (hHeld.2.2.2.2.2.2.2.2.1)
                      have HS9_ := (hb.cell (World.block_lt_of_cell? _ _ (hHeld.2.2.2.2.2.2.2.2.2.1))).trans (hHeld.2.2.2.2.2.2.2.2.2.1)
                      have HS10_ := (hb.cell (World.block_lt_of_cell? _ _ (hHeld.2.2.2.2.2.2.2.2.2.2.1))).trans (hHeld.2.2.2.2.2.2.2.2.2.2.1)
                      have HS11_ := (hb.cell (World.block_lt_of_cell? _ _ (hHeld.2.2.2.2.2.2.2.2.2.2.2))).trans (hHeld.2.2.2.2.2.2.2.2.2.2.2)
                      refine ⟨_, rfl, ?_⟩
                      replace HO_6 := Aside0.mk (Kd.R_below (zR HO_6) hb)
                      replace HO_24 := Aside0.mk (Kd.R_below (zR HO_24) hb)
                      replace BK487 := Aside0.mk (blk_below (g := gb487) (o := .cells #[.bool ((rd_T66 x24_1 x26_1).f0.f0), .int .u64 ((rd_T66 x24_1 x26_1).f0.f1), .int .u64 ((rd_T66 x24_1 x26_1).f0.f2), .bool ((rd_T66 x24_1 x26_1).f1.f0), .int .u64 ((rd_T66 x24_1 x26_1).f1.f1), .int .u64 ((rd_T66 x24_1 x26_1).f1.f2)] 66 (0, 0)) (zK BK487) hb)
                      replace HB := Aside0.mk (below_step (zB HB) hb)
                      (try clear hb)
                      refine hK.out _ _ ⟨zc BK487 0, zc BK487 1, zc BK487 2, zc BK487 3, zc BK487 4, zc BK487 5, HS6_, HS7_, HS8_, HS9_, HS10_, HS11_⟩ (fun hHeld => ?_)
                      clear hK K
                      refine zn 41 ?_; refine zp 9 42 HT_ ?_; refine zd HT_ ?_
                      obtain ⟨hcz32_0, hcz32_1, hcz32_2, hcz32_3, hcz32_4, hcz32_5⟩ := zc6 BK487
                      obtain ⟨hfz32_0, hfz32_1, hfz32_2, hfz32_3, hfz32_4, hfz32_5⟩ := zf6 BK487
                      try go_wp2_with (first | ((with_reducible refine gate_builtin (b := .append) (xs := #[.tmp 55, .tmp 57]) rfl ?_); at_builtin; refine Kd.R_append k66 (w0 := w) w.heap.size rfl (.tmp 55) (.tmp 57) 33 66 (.agg #[(.bool false), (.int .u64 0), (.int .u64 0), (.bool false), (.int .u64 0), (.int .u64 0)]) 48 rfl Try.underlying33 info66 rfl (by decide) (by omega) (.slice (some ad488) x6_1.length co28) x6_1 (⟨(⟨(rd_T66 x24_1 x26_1).f0.f0, (rd_T66 x24_1 x26_1).f0.f1, (rd_T66 x24_1 x26_1).f0.f2⟩ : S36), (⟨(rd_T66 x24_1 x26_1).f1.f0, (rd_T66 x24_1 x26_1).f1.f1, (rd_T66 x24_1 x26_1).f1.f2⟩ : S36)⟩ : S66) [.bool ((rd_T66 x24_1 x26_1).f0.f0), .int .u64 ((rd_T66 x24_1 x26_1).f0.f1), .int .u64 ((rd_T66 x24_1 x26_1).f0.f2), .bool ((rd_T66 x24_1 x26_1).f1.f0), .int .u64 ((rd_T66 x24_1 x26_1).f1.f1), .int .u64 ((rd_T66 x24_1 x26_1).f1.f2)] (fun k_ => some k_ ≠ (.slice (some ad486) x24_1.length co4 : Value).ownBlock ∧ k_ ≠ gb487) (fun _ => False) rfl rfl ?aP (fun _ hk => hk.elim) ?aF ?aO ?aB ?aS ?aL ?_; (case aP => exact k66_mkM _ _ _ (⟨(⟨(rd_T66 x24_1 x26_1).f0.f0, (rd_T66 x24_1 x26_1).f0.f1, (rd_T66 x24_1 x26_1).f0.f2⟩ : S36), (⟨(rd_T66 x24_1 x26_1).f1.f0, (rd_T66 x24_1 x26_1).f1.f1, (rd_T66 x24_1 x26_1).f1.f2⟩ : S36)⟩ : S66)); (case aB => exact (zB HB)); (case aF => exact (fun k_ hk => ⟨Kd.fresh' (Kd.R_lt (zR HO_24)) k_ hk, Kd.freshB (g := gb487) (o := .cells #[.bool ((rd_T66 x24_1 x26_1).f0.f0), .int .u64 ((rd_T66 x24_1 x26_1).f0.f1), .int .u64 ((rd_T66 x24_1 x26_1).f0.f2), .bool ((rd_T66 x24_1 x26_1).f1.f0), .int .u64 ((rd_T66 x24_1 x26_1).f1.f1), .int .u64 ((rd_T66 x24_1 x26_1).f1.f2)] 66 (0, 0)) (zK BK487) k_ hk⟩)); (case aO => exact (zR HO_6)); (case aS => exact (below_size (zB HB))); (case aL => have := LMc25.out; omega); intro v496 w33 ho hb hg hat; rw [← Ny495.out] at ho; replace HO_24 := Aside0.mk (Kd.R_after (ok := (fun k_ => k_ ≠ gb487)) (by (with_reducible repeat (first | apply Kd.R_alloc | apply Kd.R_drewN | apply Kd.R_drew)); exact Kd.R_mono HO_24.out (fun _ hk => ⟨hk.2, hk.1⟩)) hg hat); replace BK487 := Aside0.mk (blk_grown (g := gb487) (o := .cells #[.bool ((rd_T66 x24_1 x26_1).f0.f0), .int .u64 ((rd_T66 x24_1 x26_1).f0.f1), .int .u64 ((rd_T66 x24_1 x26_1).f0.f2), .bool ((rd_T66 x24_1 x26_1).f1.f0), .int .u64 ((rd_T66 x24_1 x26_1).f1.f1), .int .u64 ((rd_T66 x24_1 x26_1).f1.f2)] 66 (0, 0)) (zK BK487) hg (Kd.R_away HO_6.out (fun _ hk => hk.2))); replace HB := Aside0.mk (hb); have HO497 := Aside0.mk (ho); clear HO_6; clear ho hb hg hat))
                      (try simp only [← hl24_1])
                      go_roundg k1
                      case measure => have := HK1.out; omega
                      case rel => exact ⟨(y495), (x24_1), (wrap64 (x26_1 + 1)), (by first | rfl | (simp; done) | (simp [*]; done)), H', ⟨by have := HK1.out; omega⟩, ⟨by (try simp only [hl24_1]); (with_reducible repeat (first | apply Kd.R_alloc | apply Kd.R_drewN | apply Kd.R_drew)); exact Kd.R_mono HO497.out (fun _ hk => hk.1)⟩, ⟨by (try simp only [hl24_1]); (with_reducible repeat (first | apply Kd.R_alloc | apply Kd.R_drewN | apply Kd.R_drew)); exact Kd.R_mono HO_24.out (fun _ hk => hk.2)⟩, ⟨zB HB⟩⟩
                    · rw [if_neg c25] at H
                      exact absurd H (by simp)
                · rw [if_neg c11] at H
                  exact absurd H (by simp)
              · rw [if_neg c10] at H
                exact absurd H (by simp)
            · rw [if_neg c8] at H
              have c8b0 : decide (0 ≤ (wrap64 ((x6_1.length : Int) - 1))) = false := decide_eq_false c8
              clear c8
              by_cases c34 : x6_1.length < 2932031007402
              · rw [if_pos c34] at H
                have LMc34 := Aside0.mk c34
                clear c34
                obtain ⟨y498, hy498⟩ : ∃ y_ : List (S66), y_ = (x6_1 ++ [(⟨(⟨(rd_T66 x24_1 x26_1).f0.f0, (rd_T66 x24_1 x26_1).f0.f1, (rd_T66 x24_1 x26_1).f0.f2⟩ : S36), (⟨(rd_T66 x24_1 x26_1).f1.f0, (rd_T66 x24_1 x26_1).f1.f1, (rd_T66 x24_1 x26_1).f1.f2⟩ : S36)⟩ : S66)]) := ⟨_, rfl⟩
                rw [← hy498] at H; try dsimp only [Option.bind_some] at H
                have Ny498 := Aside0.mk hy498
                clear hy498
                have H' := Aside0.mk H
                clear H
                have p486 : 0 ≤ (x26_1 : Int) := za
                have q486 : x26_1 < (x24_1.length : Int) := za
                (try (obtain ⟨Ax_, cx_, ex_⟩ := Kd.R_slice HO_24.out; subst ex_))
                obtain ⟨ad486, e486, hx486_0, hx486_1, hx486_2, hx486_3, hx486_4, hx486_5⟩ := at_T66 (Kd.R_reads' HO_24.out).2.2 x26_1 p486 q486
                cases e486
                replace p486 := eq_true p486
                replace q486 := eq_true q486
                try go_wp2_with (first | ((with_reducible refine gate_dst (N := 8) rfl ?_); refine zx 8 #[.bool false, .int .u64 0, .int .u64 0, .bool false, .int .u64 0, .int .u64 0] 66 ?_; intro gb487 hg w35 hbox hb; replace HO_6 := Aside0.mk (Kd.R_below (Kd.R_elderB (zR HO_6) gb487 (Nat.le_of_eq hg.symm)) hb); replace HO_24 := Aside0.mk (Kd.R_below (Kd.R_elderB (zR HO_24) gb487 (Nat.le_of_eq hg.symm)) hb); have BK487 := Aside0.mk (hbox); have GW487 := Aside0.mk ((by rw [hg]; exact (below_size (zB HB)) : w.heap.size ≤ gb487)); have GE487 := Aside0.mk ((by rw [hg]; exact (below_size (zB HB)) : w.heap.size ≤ gb487)); replace HB := Aside0.mk (below_step (zB HB) hb); clear hb hbox hg; obtain ⟨hcz36_0, hcz36_1, hcz36_2, hcz36_3, hcz36_4, hcz36_5⟩ := zc6 BK487; obtain ⟨hfz36_0, hfz36_1, hfz36_2, hfz36_3, hfz36_4, hfz36_5⟩ := zf6 BK487; obtain ⟨Ao37, co37, eo37⟩ := Kd.R_slice HO_6.out; subst eo37))
                have n0_ : Aside0 (Kd.R k66 66 ((((((w35.setCell ⟨gb487, 0, none⟩ (.bool ((rd_T66 x24_1 x26_1).f0.f0))).setCell ⟨gb487, 1, none⟩ (.int .u64 ((rd_T66 x24_1 x26_1).f0.f1))).setCell ⟨gb487, 2, none⟩ (.int .u64 ((rd_T66 x24_1 x26_1).f0.f2))).setCell ⟨gb487, 3, none⟩ (.bool ((rd_T66 x24_1 x26_1).f1.f0))).setCell ⟨gb487, 4, none⟩ (.int .u64 ((rd_T66 x24_1 x26_1).f1.f1))).setCell ⟨gb487, 5, none⟩ (.int .u64 ((rd_T66 x24_1 x26_1).f1.f2))) w.heap.size (fun k_ => some k_ ≠ (.slice (some ad486) x24_1.length co4 : Value).ownBlock ∧ k_ ≠ gb487) (.slice Ao37 x6_1.length co37) x6_1) := ⟨by (with_reducible repeat (first | apply Kd.R_alloc | apply Kd.R_drewN | apply Kd.R_drew)); exact Kd.R_mono (Kd.R_far (p := ⟨gb487, 5, none⟩) (Kd.R_far (p := ⟨gb487, 4, none⟩) (Kd.R_far (p := ⟨gb487, 3, none⟩) (Kd.R_far (p := ⟨gb487, 2, none⟩) (Kd.R_far (p := ⟨gb487, 1, none⟩) (Kd.R_far (p := ⟨gb487, 0, none⟩) (Kd.R_mono HO_6.out (fun k_ hk => (⟨hk, hk.2⟩ : _ ∧ k_ ≠ gb487))) (fun _ hk => hk.2) (.bool ((rd_T66 x24_1 x26_1).f0.f0))) (fun _ hk => hk.2) (.int .u64 ((rd_T66 x24_1 x26_1).f0.f1))) (fun _ hk => hk.2) (.int .u64 ((rd_T66 x24_1 x26_1).f0.f2))) (fun _ hk => hk.2) (.bool ((rd_T66 x24_1 x26_1).f1.f0))) (fun _ hk => hk.2) (.int .u64 ((rd_T66 x24_1 x26_1).f1.f1))) (fun _ hk => hk.2) (.int .u64 ((rd_T66 x24_1 x26_1).f1.f2))) (fun _ hk => ⟨hk.1.1, hk.1.2⟩)⟩
                have n1_ : Aside0 (Kd.R k66 66 ((((((w35.setCell ⟨gb487, 0, none⟩ (.bool ((rd_T66 x24_1 x26_1).f0.f0))).setCell ⟨gb487, 1, none⟩ (.int .u64 ((rd_T66 x24_1 x26_1).f0.f1))).setCell ⟨gb487, 2, none⟩ (.int .u64 ((rd_T66 x24_1 x26_1).f0.f2))).setCell ⟨gb487, 3, none⟩ (.bool ((rd_T66 x24_1 x26_1).f1.f0))).setCell ⟨gb487, 4, none⟩ (.int .u64 ((rd_T66 x24_1 x26_1).f1.f1))).setCell ⟨gb487, 5, none⟩ (.int .u64 ((rd_T66 x24_1 x26_1).f1.f2))) w.heap.size (fun k_ => some k_ ≠ (.slice Ao37 x6_1.length co37 : Value).ownBlock ∧ k_ ≠ gb487) (.slice (some ad486) x24_1.length co4) x24_1) := ⟨by (with_reducible repeat (first | apply Kd.R_alloc | apply Kd.R_drewN | apply Kd.R_drew)); exact Kd.R_mono (Kd.R_far (p := ⟨gb487, 5, none⟩) (Kd.R_far (p := ⟨gb487, 4, none⟩) (Kd.R_far (p := ⟨gb487, 3, none⟩) (Kd.R_far (p := ⟨gb487, 2, none⟩) (Kd.R_far (p := ⟨gb487, 1, none⟩) (Kd.R_far (p := ⟨gb487, 0, none⟩) (Kd.R_mono HO_24.out (fun k_ hk => (⟨hk, hk.2⟩ : _ ∧ k_ ≠ gb487))) (fun _ hk => hk.2) (.bool ((rd_T66 x24_1 x26_1).f0.f0))) (fun _ hk => hk.2) (.int .u64 ((rd_T66 x24_1 x26_1).f0.f1))) (fun _ hk => hk.2) (.int .u64 ((rd_T66 x24_1 x26_1).f0.f2))) (fun _ hk => hk.2) (.bool ((rd_T66 x24_1 x26_1).f1.f0))) (fun _ hk => hk.2) (.int .u64 ((rd_T66 x24_1 x26_1).f1.f1))) (fun _ hk => hk.2) (.int .u64 ((rd_T66 x24_1 x26_1).f1.f2))) (fun _ hk => ⟨hk.1.1, hk.1.2⟩)⟩
                have n2_ : Aside0 (((((((w35.setCell ⟨gb487, 0, none⟩ (.bool ((rd_T66 x24_1 x26_1).f0.f0))).setCell ⟨gb487, 1, none⟩ (.int .u64 ((rd_T66 x24_1 x26_1).f0.f1))).setCell ⟨gb487, 2, none⟩ (.int .u64 ((rd_T66 x24_1 x26_1).f0.f2))).setCell ⟨gb487, 3, none⟩ (.bool ((rd_T66 x24_1 x26_1).f1.f0))).setCell ⟨gb487, 4, none⟩ (.int .u64 ((rd_T66 x24_1 x26_1).f1.f1))).setCell ⟨gb487, 5, none⟩ (.int .u64 ((rd_T66 x24_1 x26_1).f1.f2))).heap[gb487]? = some (.cells #[.bool ((rd_T66 x24_1 x26_1).f0.f0), .int .u64 ((rd_T66 x24_1 x26_1).f0.f1), .int .u64 ((rd_T66 x24_1 x26_1).f0.f2), .bool ((rd_T66 x24_1 x26_1).f1.f0), .int .u64 ((rd_T66 x24_1 x26_1).f1.f1), .int .u64 ((rd_T66 x24_1 x26_1).f1.f2)] 66 (0, 0))) := ⟨by refine zL ?_; refine blk_put (cs := #[.bool ((rd_T66 x24_1 x26_1).f0.f0), .int .u64 ((rd_T66 x24_1 x26_1).f0.f1), .int .u64 ((rd_T66 x24_1 x26_1).f0.f2), .bool ((rd_T66 x24_1 x26_1).f1.f0), .int .u64 ((rd_T66 x24_1 x26_1).f1.f1), .int .u64 0]) ?_ 5 _ rfl; refine zL ?_; refine blk_put (cs := #[.bool ((rd_T66 x24_1 x26_1).f0.f0), .int .u64 ((rd_T66 x24_1 x26_1).f0.f1), .int .u64 ((rd_T66 x24_1 x26_1).f0.f2), .bool ((rd_T66 x24_1 x26_1).f1.f0), .int .u64 0, .int .u64 0]) ?_ 4 _ rfl; refine zL ?_; refine blk_put (cs := #[.bool ((rd_T66 x24_1 x26_1).f0.f0), .int .u64 ((rd_T66 x24_1 x26_1).f0.f1), .int .u64 ((rd_T66 x24_1 x26_1).f0.f2), .bool false, .int .u64 0, .int .u64 0]) ?_ 3 _ rfl; refine zL ?_; refine blk_put (cs := #[.bool ((rd_T66 x24_1 x26_1).f0.f0), .int .u64 ((rd_T66 x24_1 x26_1).f0.f1), .int .u64 0, .bool false, .int .u64 0, .int .u64 0]) ?_ 2 _ rfl; refine zL ?_; refine blk_put (cs := #[.bool ((rd_T66 x24_1 x26_1).f0.f0), .int .u64 0, .int .u64 0, .bool false, .int .u64 0, .int .u64 0]) ?_ 1 _ rfl; refine zL ?_; refine blk_put (cs := #[.bool false, .int .u64 0, .int .u64 0, .bool false, .int .u64 0, .int .u64 0]) ?_ 0 _ rfl; refine zL ?_; exact BK487.out⟩
                have n3_ : Aside0 (Below w.heap.size w ((((((w35.setCell ⟨gb487, 0, none⟩ (.bool ((rd_T66 x24_1 x26_1).f0.f0))).setCell ⟨gb487, 1, none⟩ (.int .u64 ((rd_T66 x24_1 x26_1).f0.f1))).setCell ⟨gb487, 2, none⟩ (.int .u64 ((rd_T66 x24_1 x26_1).f0.f2))).setCell ⟨gb487, 3, none⟩ (.bool ((rd_T66 x24_1 x26_1).f1.f0))).setCell ⟨gb487, 4, none⟩ (.int .u64 ((rd_T66 x24_1 x26_1).f1.f1))).setCell ⟨gb487, 5, none⟩ (.int .u64 ((rd_T66 x24_1 x26_1).f1.f2)))) := ⟨zB HB⟩
                (try clear HO_6)
                (try clear HO_24)
                (try clear BK487)
                (try clear HB)
                generalize ((((((w35.setCell ⟨gb487, 0, none⟩ (.bool ((rd_T66 x24_1 x26_1).f0.f0))).setCell ⟨gb487, 1, none⟩ (.int .u64 ((rd_T66 x24_1 x26_1).f0.f1))).setCell ⟨gb487, 2, none⟩ (.int .u64 ((rd_T66 x24_1 x26_1).f0.f2))).setCell ⟨gb487, 3, none⟩ (.bool ((rd_T66 x24_1 x26_1).f1.f0))).setCell ⟨gb487, 4, none⟩ (.int .u64 ((rd_T66 x24_1 x26_1).f1.f1))).setCell ⟨gb487, 5, none⟩ (.int .u64 ((rd_T66 x24_1 x26_1).f1.f2))) = w38 at n0_ n1_ n2_ n3_ ⊢
                have HO_6 := n0_
                have HO_24 := n1_
                have BK487 := n2_
                have HB := n3_
                clear n0_ n1_ n2_ n3_
                replace HO_6 := Aside0.mk (Kd.R_drew HO_6.out)
                replace HO_24 := Aside0.mk (Kd.R_drew HO_24.out)
                replace BK487 := Aside0.mk (blk_drew BK487.out)
                replace HB := Aside0.mk (below_drew1 HB.out)
                refine start_ (n := 10) (S := fun w' => True) (ds := []) #[false, false, false, false, false, false, false, false, false, false] (by kernel_rfl) rfl rfl trivial (fun hHeld => ?_); refine with_tabW addrset_Normal.tab13 addrset_Normal.bits13 (fun HT_ HW_ => ?_)
                generalize w38.drew = w39 at HO_6 HO_24 BK487 HB hHeld ⊢
                refine zp 0 33 HT_ ?_; refine zp 1 34 HT_ ?_; refine zp 2 35 HT_ ?_; refine zu 3 36 HT_ ?_; refine zu 4 37 HT_ ?_; refine zu 5 38 HT_ ?_; refine zu 6 39 HT_ ?_; refine zu 7 40 HT_ ?_; refine zu 8 41 HT_ ?_; refine zp 9 42 HT_ ?_; refine zd HT_ ?_
                obtain ⟨hcz40_0, hcz40_1, hcz40_2, hcz40_3, hcz40_4, hcz40_5⟩ := zc6 BK487
                obtain ⟨hfz40_0, hfz40_1, hfz40_2, hfz40_3, hfz40_4, hfz40_5⟩ := zf6 BK487
                try go_wp2_with (first | ((with_reducible refine gate_builtin (b := .append) (xs := #[.tmp 55, .tmp 57]) rfl ?_); at_builtin; refine Kd.R_append k66 (w0 := w) w.heap.size rfl (.tmp 55) (.tmp 57) 33 66 (.agg #[(.bool false), (.int .u64 0), (.int .u64 0), (.bool false), (.int .u64 0), (.int .u64 0)]) 48 rfl Try.underlying33 info66 rfl (by decide) (by omega) (.slice Ao37 x6_1.length co37) x6_1 (⟨(⟨(rd_T66 x24_1 x26_1).f0.f0, (rd_T66 x24_1 x26_1).f0.f1, (rd_T66 x24_1 x26_1).f0.f2⟩ : S36), (⟨(rd_T66 x24_1 x26_1).f1.f0, (rd_T66 x24_1 x26_1).f1.f1, (rd_T66 x24_1 x26_1).f1.f2⟩ : S36)⟩ : S66) [.bool ((rd_T66 x24_1 x26_1).f0.f0), .int .u64 ((rd_T66 x24_1 x26_1).f0.f1), .int .u64 ((rd_T66 x24_1 x26_1).f0.f2), .bool ((rd_T66 x24_1 x26_1).f1.f0), .int .u64 ((rd_T66 x24_1 x26_1).f1.f1), .int .u64 ((rd_T66 x24_1 x26_1).f1.f2)] (fun k_ => some k_ ≠ (.slice (some ad486) x24_1.length co4 : Value).ownBlock ∧ k_ ≠ gb487) (fun _ => False) rfl rfl ?aP (fun _ hk => hk.elim) ?aF ?aO ?aB ?aS ?aL ?_; (case aP => exact k66_mkM _ _ _ (⟨(⟨(rd_T66 x24_1 x26_1).f0.f0, (rd_T66 x24_1 x26_1).f0.f1, (rd_T66 x24_1 x26_1).f0.f2⟩ : S36), (⟨(rd_T66 x24_1 x26_1).f1.f0, (rd_T66 x24_1 x26_1).f1.f1, (rd_T66 x24_1 x26_1).f1.f2⟩ : S36)⟩ : S66)); (case aB => exact (zB HB)); (case aF => exact (fun k_ hk => ⟨Kd.fresh' (Kd.R_lt (zR HO_24)) k_ hk, Kd.freshB (g := gb487) (o := .cells #[.bool ((rd_T66 x24_1 x26_1).f0.f0), .int .u64 ((rd_T66 x24_1 x26_1).f0.f1), .int .u64 ((rd_T66 x24_1 x26_1).f0.f2), .bool ((rd_T66 x24_1 x26_1).f1.f0), .int .u64 ((rd_T66 x24_1 x26_1).f1.f1), .int .u64 ((rd_T66 x24_1 x26_1).f1.f2)] 66 (0, 0)) (zK BK487) k_ hk⟩)); (case aO => exact (zR HO_6)); (case aS => exact (below_size (zB HB))); (case aL => have := LMc34.out; omega); intro v499 w41 ho hb hg hat; rw [← Ny498.out] at ho; replace HO_24 := Aside0.mk (Kd.R_after (ok := (fun k_ => k_ ≠ gb487)) (by (with_reducible repeat (first | apply Kd.R_alloc | apply Kd.R_drewN | apply Kd.R_drew)); exact Kd.R_mono HO_24.out (fun _ hk => ⟨hk.2, hk.1⟩)) hg hat); replace BK487 := Aside0.mk (blk_grown (g := gb487) (o := .cells #[.bool ((rd_T66 x24_1 x26_1).f0.f0), .int .u64 ((rd_T66 x24_1 x26_1).f0.f1), .int .u64 ((rd_T66 x24_1 x26_1).f0.f2), .bool ((rd_T66 x24_1 x26_1).f1.f0), .int .u64 ((rd_T66 x24_1 x26_1).f1.f1), .int .u64 ((rd_T66 x24_1 x26_1).f1.f2)] 66 (0, 0)) (zK BK487) hg (Kd.R_away HO_6.out (fun _ hk => hk.2))); replace HB := Aside0.mk (hb); have HO500 := Aside0.mk (ho); clear HO_6; clear ho hb hg hat))
                (try simp only [← hl24_1])
                go_roundg k1
                case measure => have := HK1.out; omega
                case rel => exact ⟨(y498), (x24_1), (wrap64 (x26_1 + 1)), (by first | rfl | (simp; done) | (simp [*]; done)), H', ⟨by have := HK1.out; omega⟩, ⟨by (try simp only [hl24_1]); (with_reducible repeat (first | apply Kd.R_alloc | apply Kd.R_drewN | apply Kd.R_drew)); exact Kd.R_mono HO500.out (fun _ hk => hk.1)⟩, ⟨by (try simp only [hl24_1]); (with_reducible repeat (first | apply Kd.R_alloc | apply Kd.R_drewN | apply Kd.R_drew)); exact Kd.R_mono HO_24.out (fun _ hk => hk.2)⟩, ⟨zB HB⟩⟩
              · rw [if_neg c34] at H
                exact absurd H (by simp)
          · rw [if_neg c7] at H
            exact absurd H (by simp)
        · rw [if_neg c6] at H
          exact absurd H (by simp)
      · rw [if_neg c5] at H
        have c5b0 : decide (x26_1 < (t483.length : Int)) = false := decide_eq_false c5
        clear c5
        obtain rfl := Option.some.inj H
        (try simp only [hl24_1] at c5b0)
        go_wp2
        go_ret
        exact ⟨_, by first | rfl | (simp [errW_none, errW_some] <;> rfl) | (simp [*, errW_none, errW_some] <;> rfl), by (with_reducible repeat (first | apply Kd.R_alloc | apply Kd.R_drewN | apply Kd.R_drew)); exact Kd.R_mono HO_6.out (fun _ hk => trivial), by repeat (first | (with_reducible first | exact HB.out | apply below_alloc | apply pw_below_drewN | apply below_drew1) | exact HB.out)⟩
end Go.Proofs.Ytcgfpffgiimgmaa.Q
end

section
namespace Go.Proofs.Ytcgfpffgiimgmaa.Q
open Go.RowKit Go.Proofs.YtcgfpffgiimgmaaW.PrintWords Go.Proofs.YtcgfpffgiimgmaaW.PrintLast Go.Proofs.YtcgfpffgiimgmaaW.PrintMore
attribute [local go_sem] max2_int min2_int max_two min_two max_three min_three max_four min_four
set_option linter.unusedVariables false
set_option linter.unusedSimpArgs false
def addrset_Valid.l0 : Nat → List (S66) → List (S66) → Int → Int → Option (Bool)
  | 0, _, _, _, _ => none
  | k + 1, x0, x5, x6, x7 => if x7 < x6 then (if 0 ≤ x7 then (if x7 < (x5.length : Int) then ((addrset_some.f ((rd_T66 x5 x7).f0.f0) ((rd_T66 x5 x7).f0.f1) ((rd_T66 x5 x7).f0.f2) ((rd_T66 x5 x7).f1.f0) ((rd_T66 x5 x7).f1.f1) ((rd_T66 x5 x7).f1.f2)).bind fun t503 => (if t503 = true then (if x7 > 0 then (if 0 ≤ (wrap64 (x7 - 1)) then (if (wrap64 (x7 - 1)) < (x0.length : Int) then ((address_Compare.f ((rd_T66 x0 (wrap64 (x7 - 1))).f1.f0) ((rd_T66 x0 (wrap64 (x7 - 1))).f1.f1) ((rd_T66 x0 (wrap64 (x7 - 1))).f1.f2) ((rd_T66 x5 x7).f0.f0) ((rd_T66 x5 x7).f0.f1) ((rd_T66 x5 x7).f0.f2)).bind fun t505 => (if t505 ≥ 0 then (some false) else ((addrset_near.f ((rd_T66 x0 (wrap64 (x7 - 1))).f0.f0) ((rd_T66 x0 (wrap64 (x7 - 1))).f0.f1) ((rd_T66 x0 (wrap64 (x7 - 1))).f0.f2) ((rd_T66 x0 (wrap64 (x7 - 1))).f1.f0) ((rd_T66 x0 (wrap64 (x7 - 1))).f1.f1) ((rd_T66 x0 (wrap64 (x7 - 1))).f1.f2) ((rd_T66 x5 x7).f0.f0) ((rd_T66 x5 x7).f0.f1) ((rd_T66 x5 x7).f0.f2) ((rd_T66 x5 x7).f1.f0) ((rd_T66 x5 x7).f1.f1) ((rd_T66 x5 x7).f1.f2)).bind fun t507 => (if t507 = true then (some false) else (addrset_Valid.l0 k x0 x5 x6 (wrap64 (x7 + 1))))))) else (none)) else (none)) else (addrset_Valid.l0 k x0 x5 x6 (wrap64 (x7 + 1)))) else (some false))) else (none)) else (none)) else (some true)
def addrset_Valid.f (k : Nat) (l0 : List (S66)) : Option (Bool) := addrset_Valid.l0 k l0 l0 (l0.length : Int) 0
theorem addrset_Valid.mono_l : ∀ k, (∀ y0 y1 y2 y3, LeO (addrset_Valid.l0 k y0 y1 y2 y3) (addrset_Valid.l0 (k + 1) y0 y1 y2 y3))
  | 0 => fun _ _ _ _ r h => by simp [addrset_Valid.l0] at h
  | k + 1 => by
    have ih0 := addrset_Valid.mono_l k
    · intro y0 y1 y2 y3
      unfold addrset_Valid.l0
      repeat' first
      | (with_reducible exact ih0 _ _ _ _)
      | (with_reducible exact LeO.refl _)
      | (with_reducible exact LeO.none _)
      | (with_reducible refine LeO.ite ?_ ?_)
      | (with_reducible refine LeO.bind ?_ (fun _ => ?_))
      | exact ih0 _ _ _ _
      | exact LeO.none _
      | refine LeO.ite ?_ ?_
      | refine LeO.bind ?_ (fun _ => ?_)
theorem addrset_Valid.mono : ∀ a0 k, LeO (addrset_Valid.f k a0) (addrset_Valid.f (k + 1) a0) := by
  intro a0 k
  have ih0 := addrset_Valid.mono_l k
  unfold addrset_Valid.f
  repeat' first
      | (with_reducible exact ih0 _ _ _ _)
      | (with_reducible exact LeO.refl _)
      | (with_reducible exact LeO.none _)
      | (with_reducible refine LeO.ite ?_ ?_)
      | (with_reducible refine LeO.bind ?_ (fun _ => ?_))
      | exact ih0 _ _ _ _
      | exact LeO.none _
      | refine LeO.ite ?_ ?_
      | refine LeO.bind ?_ (fun _ => ?_)
def addrset_Valid.T4 : Bool × List (List Nat × List Nat) := (true, [([], []), ([0], [0]), ([1], [1]), ([2, 1], [2]), ([3], [3]), ([4, 3], [3, 4]), ([5, 3, 3], [3, 5]), ([6], [6]), ([6], [6]), ([8, 6], [6, 8]), ([7, 9, 6], [6, 7, 9]), ([10, 6], [6, 10]), ([11, 6], [6, 11]), ([6], [6]), ([13, 6], [6, 13]), ([12, 14, 6, 6], [6, 12, 14]), ([15, 6], [6, 15]), ([16, 15, 6], [6, 16]), ([17], [17]), ([17], [17]), ([19, 17], [17, 19]), ([18, 20, 17], [17, 18, 20]), ([21, 17], [17, 21]), ([17], [17]), ([22, 23, 17, 17], [17, 22, 23]), ([17, 24, 6], [6, 17, 24]), ([6, 25, 3], [3, 6, 25]), ([3, 26], [3, 26])])
def addrset_Valid.B4 : List Nat := [0, 1, 3, 7, 15, 31, 63, 127, 127, 383, 1023, 2047, 4095, 127, 8319, 32767, 65535, 131071, 262143, 262143, 786431, 2097151, 4194303, 262143, 16777215, 33554431, 67108863, 134217727]
theorem addrset_Valid.tab4 : rtab .any (opsOf Try.f40 4) = addrset_Valid.T4 := by kernel_rfl
theorem addrset_Valid.bits4 : waitsOk addrset_Valid.T4.2 addrset_Valid.B4 = true := by kernel_rfl
set_option maxHeartbeats 8000000 in
set_option maxRecDepth 100000 in
theorem addrset_Valid.calls (k : Nat) (A0 : Option Addr) (c0 : Nat) (l0 : List (S66)) (r : Bool) (w : World) (hr0 : Kd.C k66 w A0 l0.length l0) (hc0 : l0.length ≤ c0) (h : addrset_Valid.f k l0 = some r) :
 Calls Try.prog 40 #[.slice A0 l0.length c0] w fun e w' => e = .returned (.bool r) ∧ Below w.heap.size w w' := by
 have hu66 := Try.underlying66
 have hu36 := Try.underlying36
 have HR0 := Aside0.mk hr0
 have HC0 := Aside0.mk hc0
 clear hr0 hc0
 have HB := Aside0.mk (Below.refl w.heap.size w)
 unfold addrset_Valid.f at h; have H := h
 clear h
 have H' := Aside0.mk H
 clear H
 go_enter Try.func40, Try.ntmps40
 go_wp2
 go_loopg [7] k (fun kq v7 w' => ∃ (x7_1 : Int), v7 = .int .i64 x7_1 ∧ Aside0 (addrset_Valid.l0 kq l0 l0 (l0.length : Int) x7_1 = some r) ∧ Aside0 (kq ≤ k) ∧ Aside0 (Below w.heap.size w w'))
 case atStart => exact ⟨(0), (by first | rfl | (simp; done) | (simp [*]; done)), H', ⟨Nat.le_refl _⟩, ⟨zB HB⟩⟩
 case round =>
  clear H'
  obtain ⟨x7_1, rfl, HA, HK1, HB⟩ := hrel
  cases gk with
  | zero => exact absurd HA.out (by simp [addrset_Valid.l0])
  | succ k1 =>
   have H := HA.out
   clear HA
   simp only [addrset_Valid.l0] at H
   by_cases c2 : x7_1 < (l0.length : Int)
   · rw [if_pos c2] at H
     have c2b0 : decide (x7_1 < (l0.length : Int)) = true := decide_eq_true c2
     clear c2
     by_cases c3 : 0 ≤ x7_1
     · rw [if_pos c3] at H
       have c3b0 : decide (0 ≤ x7_1) = true := decide_eq_true c3
       clear c3
       by_cases c4 : x7_1 < (l0.length : Int)
       · rw [if_pos c4] at H
         have c4b0 : decide (x7_1 < (l0.length : Int)) = true := decide_eq_true c4
         clear c4
         replace H := Option.bind_eq_some_iff.mp H
         obtain ⟨t503, A50, H⟩ := H
         try dsimp only at H
         have A5 := Aside0.mk A50
         clear A50
         by_cases c6 : t503 = true
         · subst c6
           rw [if_pos rfl] at H
           by_cases c7 : x7_1 > 0
           · rw [if_pos c7] at H
             have c7b0 : decide (0 < x7_1) = true := decide_eq_true c7
             clear c7
             obtain ⟨ji8, hji8⟩ : ∃ j_ : Int, (wrap64 (x7_1 - 1)) = j_ := ⟨_, rfl⟩
             replace H : (if 0 ≤ (ji8) then (if (ji8) < (l0.length : Int) then ((address_Compare.f ((rd_T66 l0 (ji8)).f1.f0) ((rd_T66 l0 (ji8)).f1.f1) ((rd_T66 l0 (ji8)).f1.f2) ((rd_T66 l0 x7_1).f0.f0) ((rd_T66 l0 x7_1).f0.f1) ((rd_T66 l0 x7_1).f0.f2)).bind fun t505 => (if t505 ≥ 0 then (some false) else ((addrset_near.f ((rd_T66 l0 (ji8)).f0.f0) ((rd_T66 l0 (ji8)).f0.f1) ((rd_T66 l0 (ji8)).f0.f2) ((rd_T66 l0 (ji8)).f1.f0) ((rd_T66 l0 (ji8)).f1.f1) ((rd_T66 l0 (ji8)).f1.f2) ((rd_T66 l0 x7_1).f0.f0) ((rd_T66 l0 x7_1).f0.f1) ((rd_T66 l0 x7_1).f0.f2) ((rd_T66 l0 x7_1).f1.f0) ((rd_T66 l0 x7_1).f1.f1) ((rd_T66 l0 x7_1).f1.f2)).bind fun t507 => (if t507 = true then (some false) else (addrset_Valid.l0 k1 l0 l0 (l0.length : Int) (wrap64 (x7_1 + 1))))))) else (none)) else (none)) = some r := by first | (rw [hji8] at H; exact H) | (simp only [hji8] at H ⊢; exact H)
             (try rw [hji8] at A5)
             have hji8w : (IntKind.i64.wrap (x7_1 - 1)) = ji8 := (i64_w _).trans hji8
             by_cases c9 : 0 ≤ (ji8)
             · rw [if_pos c9] at H
               have c9b0 : decide (0 ≤ (ji8)) = true := decide_eq_true c9
               clear c9
               by_cases c10 : (ji8) < (l0.length : Int)
               · rw [if_pos c10] at H
                 have c10b0 : decide ((ji8) < (l0.length : Int)) = true := decide_eq_true c10
                 clear c10
                 replace H := Option.bind_eq_some_iff.mp H
                 obtain ⟨t505, A110, H⟩ := H
                 try dsimp only at H
                 have A11 := Aside0.mk A110
                 clear A110
                 by_cases c12 : t505 ≥ 0
                 · rw [if_pos c12] at H
                   have c12b0 : decide (0 ≤ t505) = true := decide_eq_true c12
                   clear c12
                   obtain rfl := Option.some.inj H
                   have p501 : 0 ≤ (x7_1 : Int) := za
                   have q501 : x7_1 < (l0.length : Int) := za
                   obtain ⟨ad501, e501, hx501_0, hx501_1, hx501_2, hx501_3, hx501_4, hx501_5⟩ := at_T66 HR0.out x7_1 p501 q501
                   cases e501
                   replace hx501_0 := zh HB hx501_0
                   replace hx501_1 := zh HB hx501_1
                   replace hx501_2 := zh HB hx501_2
                   replace hx501_3 := zh HB hx501_3
                   replace hx501_4 := zh HB hx501_4
                   replace hx501_5 := zh HB hx501_5
                   replace p501 := eq_true p501
                   replace q501 := eq_true q501
                   try go_wp2_with (first | ((with_reducible refine gate_dst (N := 4) rfl ?_); refine zx 4 #[.bool false, .int .u64 0, .int .u64 0, .bool false, .int .u64 0, .int .u64 0] 66 ?_; intro gb502 hg w13 hbox hb; have BK502 := Aside0.mk (hbox); have GW502 := Aside0.mk ((by rw [hg]; exact (below_size (zB HB)) : w.heap.size ≤ gb502)); have GE502 := Aside0.mk ((by rw [hg]; exact (below_size (zB HB)) : w.heap.size ≤ gb502)); replace HB := Aside0.mk (below_step (zB HB) hb); clear hb hbox hg; obtain ⟨hcz14_0, hcz14_1, hcz14_2, hcz14_3, hcz14_4, hcz14_5⟩ := zc6 BK502; obtain ⟨hfz14_0, hfz14_1, hfz14_2, hfz14_3, hfz14_4, hfz14_5⟩ := zf6 BK502))
                   have n0_ : Aside0 (((((((w13.setCell ⟨gb502, 0, none⟩ (.bool ((rd_T66 l0 x7_1).f0.f0))).setCell ⟨gb502, 1, none⟩ (.int .u64 ((rd_T66 l0 x7_1).f0.f1))).setCell ⟨gb502, 2, none⟩ (.int .u64 ((rd_T66 l0 x7_1).f0.f2))).setCell ⟨gb502, 3, none⟩ (.bool ((rd_T66 l0 x7_1).f1.f0))).setCell ⟨gb502, 4, none⟩ (.int .u64 ((rd_T66 l0 x7_1).f1.f1))).setCell ⟨gb502, 5, none⟩ (.int .u64 ((rd_T66 l0 x7_1).f1.f2))).heap[gb502]? = some (.cells #[.bool ((rd_T66 l0 x7_1).f0.f0), .int .u64 ((rd_T66 l0 x7_1).f0.f1), .int .u64 ((rd_T66 l0 x7_1).f0.f2), .bool ((rd_T66 l0 x7_1).f1.f0), .int .u64 ((rd_T66 l0 x7_1).f1.f1), .int .u64 ((rd_T66 l0 x7_1).f1.f2)] 66 (0, 0))) := ⟨by refine zL ?_; refine blk_put (cs := #[.bool ((rd_T66 l0 x7_1).f0.f0), .int .u64 ((rd_T66 l0 x7_1).f0.f1), .int .u64 ((rd_T66 l0 x7_1).f0.f2), .bool ((rd_T66 l0 x7_1).f1.f0), .int .u64 ((rd_T66 l0 x7_1).f1.f1), .int .u64 0]) ?_ 5 _ rfl; refine zL ?_; refine blk_put (cs := #[.bool ((rd_T66 l0 x7_1).f0.f0), .int .u64 ((rd_T66 l0 x7_1).f0.f1), .int .u64 ((rd_T66 l0 x7_1).f0.f2), .bool ((rd_T66 l0 x7_1).f1.f0), .int .u64 0, .int .u64 0]) ?_ 4 _ rfl; refine zL ?_; refine blk_put (cs := #[.bool ((rd_T66 l0 x7_1).f0.f0), .int .u64 ((rd_T66 l0 x7_1).f0.f1), .int .u64 ((rd_T66 l0 x7_1).f0.f2), .bool false, .int .u64 0, .int .u64 0]) ?_ 3 _ rfl; refine zL ?_; refine blk_put (cs := #[.bool ((rd_T66 l0 x7_1).f0.f0), .int .u64 ((rd_T66 l0 x7_1).f0.f1), .int .u64 0, .bool false, .int .u64 0, .int .u64 0]) ?_ 2 _ rfl; refine zL ?_; refine blk_put (cs := #[.bool ((rd_T66 l0 x7_1).f0.f0), .int .u64 0, .int .u64 0, .bool false, .int .u64 0, .int .u64 0]) ?_ 1 _ rfl; refine zL ?_; refine blk_put (cs := #[.bool false, .int .u64 0, .int .u64 0, .bool false, .int .u64 0, .int .u64 0]) ?_ 0 _ rfl; refine zL ?_; exact BK502.out⟩
                   have n1_ : Aside0 (Below w.heap.size w ((((((w13.setCell ⟨gb502, 0, none⟩ (.bool ((rd_T66 l0 x7_1).f0.f0))).setCell ⟨gb502, 1, none⟩ (.int .u64 ((rd_T66 l0 x7_1).f0.f1))).setCell ⟨gb502, 2, none⟩ (.int .u64 ((rd_T66 l0 x7_1).f0.f2))).setCell ⟨gb502, 3, none⟩ (.bool ((rd_T66 l0 x7_1).f1.f0))).setCell ⟨gb502, 4, none⟩ (.int .u64 ((rd_T66 l0 x7_1).f1.f1))).setCell ⟨gb502, 5, none⟩ (.int .u64 ((rd_T66 l0 x7_1).f1.f2)))) := ⟨zB HB⟩
                   (try clear BK502)
                   (try clear HB)
                   generalize ((((((w13.setCell ⟨gb502, 0, none⟩ (.bool ((rd_T66 l0 x7_1).f0.f0))).setCell ⟨gb502, 1, none⟩ (.int .u64 ((rd_T66 l0 x7_1).f0.f1))).setCell ⟨gb502, 2, none⟩ (.int .u64 ((rd_T66 l0 x7_1).f0.f2))).setCell ⟨gb502, 3, none⟩ (.bool ((rd_T66 l0 x7_1).f1.f0))).setCell ⟨gb502, 4, none⟩ (.int .u64 ((rd_T66 l0 x7_1).f1.f1))).setCell ⟨gb502, 5, none⟩ (.int .u64 ((rd_T66 l0 x7_1).f1.f2))) = w15 at n0_ n1_ ⊢
                   have BK502 := n0_
                   have HB := n1_
                   clear n0_ n1_
                   replace BK502 := Aside0.mk (blk_drew BK502.out)
                   replace HB := Aside0.mk (below_drew1 HB.out)
                   have p504 : 0 ≤ ((ji8) : Int) := za
                   have q504 : (ji8) < (l0.length : Int) := za
                   obtain ⟨ad504, e504, hx504_0, hx504_1, hx504_2, hx504_3, hx504_4, hx504_5⟩ := at_T66 HR0.out (ji8) p504 q504
                   have hw504_5 := hx504_5
                   have hw504_4 := hx504_4
                   have hw504_3 := hx504_3
                   have hw504_2 := hx504_2
                   have hw504_1 := hx504_1
                   have hw504_0 := hx504_0
                   obtain rfl : ad501 = ad504 := (by injection e504)
                   replace hx504_0 := zh HB hx504_0
                   replace hx504_1 := zh HB hx504_1
                   replace hx504_2 := zh HB hx504_2
                   replace hx504_3 := zh HB hx504_3
                   replace hx504_4 := zh HB hx504_4
                   replace hx504_5 := zh HB hx504_5
                   replace p504 := eq_true p504
                   replace q504 := eq_true q504
                   refine start_ (n := 28) (S := fun w' => w'.cell? ⟨gb502, 0, none⟩ = some (.bool ((rd_T66 l0 x7_1).f0.f0)) ∧ w'.cell? ⟨gb502, 1, none⟩ = some (.int .u64 ((rd_T66 l0 x7_1).f0.f1)) ∧ w'.cell? ⟨gb502, 2, none⟩ = some (.int .u64 ((rd_T66 l0 x7_1).f0.f2)) ∧ w'.cell? ⟨gb502, 3, none⟩ = some (.bool ((rd_T66 l0 x7_1).f1.f0)) ∧ w'.cell? ⟨gb502, 4, none⟩ = some (.int .u64 ((rd_T66 l0 x7_1).f1.f1)) ∧ w'.cell? ⟨gb502, 5, none⟩ = some (.int .u64 ((rd_T66 l0 x7_1).f1.f2)) ∧ w'.cell? (ad501.add (((ji8)).toNat * 6)) = some (.bool ((rd_T66 l0 (ji8)).f0.f0)) ∧ w'.cell? ⟨(ad501.add (((ji8)).toNat * 6)).block, (ad501.add (((ji8)).toNat * 6)).off + 1, none⟩ = some (.int .u64 ((rd_T66 l0 (ji8)).f0.f1)) ∧ w'.cell? ⟨(ad501.add (((ji8)).toNat * 6)).block, (ad501.add (((ji8)).toNat * 6)).off + 2, none⟩ = some (.int .u64 ((rd_T66 l0 (ji8)).f0.f2)) ∧ w'.cell? ⟨(ad501.add (((ji8)).toNat * 6)).block, (ad501.add (((ji8)).toNat * 6)).off + 3, none⟩ = some (.bool ((rd_T66 l0 (ji8)).f1.f0)) ∧ w'.cell? ⟨(ad501.add (((ji8)).toNat * 6)).block, (ad501.add (((ji8)).toNat * 6)).off + 4, none⟩ = some (.int .u64 ((rd_T66 l0 (ji8)).f1.f1)) ∧ w'.cell? ⟨(ad501.add (((ji8)).toNat * 6)).block, (ad501.add (((ji8)).toNat * 6)).off + 5, none⟩ = some (.int .u64 ((rd_T66 l0 (ji8)).f1.f2))) (ds := []) #[false, false, false, false, false, false, false, false, false, false, false, false, false, false, false, false, false, false, false, false, false, false, false, false, false, false, false, false] (by kernel_rfl) rfl rfl ⟨zc BK502 0, zc BK502 1, zc BK502 2, zc BK502 3, zc BK502 4, zc BK502 5, (zh HB hw504_0), (zh HB hw504_1), (zh HB hw504_2), (zh HB hw504_3), (zh HB hw504_4), (zh HB hw504_5)⟩ (fun hHeld => ?_); refine with_tabW addrset_Valid.tab4 addrset_Valid.bits4 (fun HT_ HW_ => ?_)
                   generalize w15.drew = w16 at BK502 HB hx504_0 hx504_1 hx504_2 hx504_3 hx504_4 hx504_5 hHeld ⊢
                   refine zt 0 12 HT_ HW_ hHeld ?_; refine zo 1 13 HT_ (fun K hK => ?_)
                   refine zg Try.func71 #[.agg #[.bool ((rd_T66 l0 x7_1).f0.f0), .int .u64 ((rd_T66 l0 x7_1).f0.f1), .int .u64 ((rd_T66 l0 x7_1).f0.f2), .bool ((rd_T66 l0 x7_1).f1.f0), .int .u64 ((rd_T66 l0 x7_1).f1.f1), .int .u64 ((rd_T66 l0 x7_1).f1.f2)]] ?_
                   with_reducible refine (addrset_some.calls ((rd_T66 l0 x7_1).f0.f0) ((rd_T66 l0 x7_1).f0.f1) ((rd_T66 l0 x7_1).f0.f2) ((rd_T66 l0 x7_1).f1.f0) ((rd_T66 l0 x7_1).f1.f1) ((rd_T66 l0 x7_1).f1.f2) true _ A5.out).mono ?_
                   rintro e w17 ⟨rfl, hb⟩
                   refine ⟨_, rfl, ?_⟩
                   replace BK502 := Aside0.mk (blk_below (g := gb502) (o := .cells #[.bool ((rd_T66 l0 x7_1).f0.f0), .int .u64 ((rd_T66 l0 x7_1).f0.f1), .int .u64 ((rd_T66 l0 x7_1).f0.f2), .bool ((rd_T66 l0 x7_1).f1.f0), .int .u64 ((rd_T66 l0 x7_1).f1.f1), .int .u64 ((rd_T66 l0 x7_1).f1.f2)] 66 (0, 0)) (zK BK502) hb)
                   replace HB := Aside0.mk (below_step (zB HB) hb)
                   (try clear hb)
                   refine hK.out _ _ ⟨zc BK502 0, zc BK502 1, zc BK502 2, zc BK502 3, zc BK502 4, zc BK502 5, (zh HB hw504_0), (zh HB hw504_1), (zh HB hw504_2), (zh HB hw504_3), (zh HB hw504_4), (zh HB hw504_5)⟩ (fun hHeld => ?_)
                   clear hK K
                   refine zn 13 ?_; refine zp 2 14 HT_ ?_; refine zp 3 15 HT_ ?_; refine zp 4 16 HT_ ?_; refine zp 5 17 HT_ ?_; refine zp 6 18 HT_ ?_; refine zp 7 19 HT_ ?_; refine zp 8 20 HT_ ?_; refine zp 9 21 HT_ ?_; refine zp 10 22 HT_ ?_; refine zp 11 23 HT_ ?_; refine zp 13 25 HT_ ?_; refine zt 12 24 HT_ HW_ hHeld ?_; refine zt 14 26 HT_ HW_ hHeld ?_; refine zo 15 27 HT_ (fun K hK => ?_)
                   refine goes_ Try.func75 (by kernel_rfl) rfl #[.agg #[.bool ((rd_T66 l0 (ji8)).f1.f0), .int .u64 ((rd_T66 l0 (ji8)).f1.f1), .int .u64 ((rd_T66 l0 (ji8)).f1.f2)], .agg #[.bool ((rd_T66 l0 x7_1).f0.f0), .int .u64 ((rd_T66 l0 x7_1).f0.f1), .int .u64 ((rd_T66 l0 x7_1).f0.f2)]] (by rfl) rfl rfl (by (try simp only [List.map_toArray, List.map_cons, List.map_nil]); first | done | (simp only [hji8]; rfl) | rfl | (simp only [List.length_drop, List.length_take]; rfl)) ?_
                   with_reducible refine (address_Compare.calls ((rd_T66 l0 (ji8)).f1.f0) ((rd_T66 l0 (ji8)).f1.f1) ((rd_T66 l0 (ji8)).f1.f2) ((rd_T66 l0 x7_1).f0.f0) ((rd_T66 l0 x7_1).f0.f1) ((rd_T66 l0 x7_1).f0.f2) t505 _ A11.out).mono ?_
                   rintro e w18 ⟨rfl, hb⟩
                   refine ⟨_, rfl, ?_⟩
                   replace BK502 := Aside0.mk (blk_below (g := gb502) (o := .cells #[.bool ((rd_T66 l0 x7_1).f0.f0), .int .u64 ((rd_T66 l0 x7_1).f0.f1), .int .u64 ((rd_T66 l0 x7_1).f0.f2), .bool ((rd_T66 l0 x7_1).f1.f0), .int .u64 ((rd_T66 l0 x7_1).f1.f1), .int .u64 ((rd_T66 l0 x7_1).f1.f2)] 66 (0, 0)) (zK BK502) hb)
                   replace HB := Aside0.mk (below_step (zB HB) hb)
                   (try clear hb)
                   refine hK.out _ _ ⟨zc BK502 0, zc BK502 1, zc BK502 2, zc BK502 3, zc BK502 4, zc BK502 5, (zh HB hw504_0), (zh HB hw504_1), (zh HB hw504_2), (zh HB hw504_3), (zh HB hw504_4), (zh HB hw504_5)⟩ (fun hHeld => ?_)
                   clear hK K
                   refine zn 27 ?_; refine zp 16 28 HT_ ?_; refine zp 17 29 HT_ ?_; refine zu 18 30 HT_ ?_; refine zu 19 31 HT_ ?_; refine zu 20 32 HT_ ?_; refine zu 21 33 HT_ ?_; refine zu 22 34 HT_ ?_; refine zu 23 35 HT_ ?_; refine zu 24 36 HT_ ?_; refine zp 25 37 HT_ ?_; refine zp 26 38 HT_ ?_; refine zp 27 39 HT_ ?_; refine zd HT_ ?_
                   try go_wp2
                   go_ret
                   exact ⟨by first | rfl | (simp [errW_none, errW_some] <;> rfl) | (simp only [← hji8]; first | rfl | (simp [errW_none, errW_some] <;> rfl)) | (simp [*, errW_none, errW_some] <;> rfl), by repeat (first | (with_reducible first | exact HB.out | apply below_alloc | apply pw_below_drewN | apply below_drew1 | refine below_set ?_ GE502.out) | exact HB.out)⟩
                 · rw [if_neg c12] at H
                   have c12b0 : decide (0 ≤ t505) = false := decide_eq_false c12
                   clear c12
                   replace H := Option.bind_eq_some_iff.mp H
                   obtain ⟨t507, A190, H⟩ := H
                   try dsimp only at H
                   have A19 := Aside0.mk A190
                   clear A190
                   by_cases c20 : t507 = true
                   · subst c20
                     rw [if_pos rfl] at H
                     obtain rfl := Option.some.inj H
                     have p501 : 0 ≤ (x7_1 : Int) := za
                     have q501 : x7_1 < (l0.length : Int) := za
                     obtain ⟨ad501, e501, hx501_0, hx501_1, hx501_2, hx501_3, hx501_4, hx501_5⟩ := at_T66 HR0.out x7_1 p501 q501
                     cases e501
                     replace hx501_0 := zh HB hx501_0
                     replace hx501_1 := zh HB hx501_1
                     replace hx501_2 := zh HB hx501_2
                     replace hx501_3 := zh HB hx501_3
                     replace hx501_4 := zh HB hx501_4
                     replace hx501_5 := zh HB hx501_5
                     replace p501 := eq_true p501
                     replace q501 := eq_true q501
                     try go_wp2_with (first | ((with_reducible refine gate_dst (N := 4) rfl ?_); refine zx 4 #[.bool false, .int .u64 0, .int .u64 0, .bool false, .int .u64 0, .int .u64 0] 66 ?_; intro gb502 hg w21 hbox hb; have BK502 := Aside0.mk (hbox); have GW502 := Aside0.mk ((by rw [hg]; exact (below_size (zB HB)) : w.heap.size ≤ gb502)); have GE502 := Aside0.mk ((by rw [hg]; exact (below_size (zB HB)) : w.heap.size ≤ gb502)); replace HB := Aside0.mk (below_step (zB HB) hb); clear hb hbox hg; obtain ⟨hcz22_0, hcz22_1, hcz22_2, hcz22_3, hcz22_4, hcz22_5⟩ := zc6 BK502; obtain ⟨hfz22_0, hfz22_1, hfz22_2, hfz22_3, hfz22_4, hfz22_5⟩ := zf6 BK502))
                     have n0_ : Aside0 (((((((w21.setCell ⟨gb502, 0, none⟩ (.bool ((rd_T66 l0 x7_1).f0.f0))).setCell ⟨gb502, 1, none⟩ (.int .u64 ((rd_T66 l0 x7_1).f0.f1))).setCell ⟨gb502, 2, none⟩ (.int .u64 ((rd_T66 l0 x7_1).f0.f2))).setCell ⟨gb502, 3, none⟩ (.bool ((rd_T66 l0 x7_1).f1.f0))).setCell ⟨gb502, 4, none⟩ (.int .u64 ((rd_T66 l0 x7_1).f1.f1))).setCell ⟨gb502, 5, none⟩ (.int .u64 ((rd_T66 l0 x7_1).f1.f2))).heap[gb502]? = some (.cells #[.bool ((rd_T66 l0 x7_1).f0.f0), .int .u64 ((rd_T66 l0 x7_1).f0.f1), .int .u64 ((rd_T66 l0 x7_1).f0.f2), .bool ((rd_T66 l0 x7_1).f1.f0), .int .u64 ((rd_T66 l0 x7_1).f1.f1), .int .u64 ((rd_T66 l0 x7_1).f1.f2)] 66 (0, 0))) := ⟨by refine zL ?_; refine blk_put (cs := #[.bool ((rd_T66 l0 x7_1).f0.f0), .int .u64 ((rd_T66 l0 x7_1).f0.f1), .int .u64 ((rd_T66 l0 x7_1).f0.f2), .bool ((rd_T66 l0 x7_1).f1.f0), .int .u64 ((rd_T66 l0 x7_1).f1.f1), .int .u64 0]) ?_ 5 _ rfl; refine zL ?_; refine blk_put (cs := #[.bool ((rd_T66 l0 x7_1).f0.f0), .int .u64 ((rd_T66 l0 x7_1).f0.f1), .int .u64 ((rd_T66 l0 x7_1).f0.f2), .bool ((rd_T66 l0 x7_1).f1.f0), .int .u64 0, .int .u64 0]) ?_ 4 _ rfl; refine zL ?_; refine blk_put (cs := #[.bool ((rd_T66 l0 x7_1).f0.f0), .int .u64 ((rd_T66 l0 x7_1).f0.f1), .int .u64 ((rd_T66 l0 x7_1).f0.f2), .bool false, .int .u64 0, .int .u64 0]) ?_ 3 _ rfl; refine zL ?_; refine blk_put (cs := #[.bool ((rd_T66 l0 x7_1).f0.f0), .int .u64 ((rd_T66 l0 x7_1).f0.f1), .int .u64 0, .bool false, .int .u64 0, .int .u64 0]) ?_ 2 _ rfl; refine zL ?_; refine blk_put (cs := #[.bool ((rd_T66 l0 x7_1).f0.f0), .int .u64 0, .int .u64 0, .bool false, .int .u64 0, .int .u64 0]) ?_ 1 _ rfl; refine zL ?_; refine blk_put (cs := #[.bool false, .int .u64 0, .int .u64 0, .bool false, .int .u64 0, .int .u64 0]) ?_ 0 _ rfl; refine zL ?_; exact BK502.out⟩
                     have n1_ : Aside0 (Below w.heap.size w ((((((w21.setCell ⟨gb502, 0, none⟩ (.bool ((rd_T66 l0 x7_1).f0.f0))).setCell ⟨gb502, 1, none⟩ (.int .u64 ((rd_T66 l0 x7_1).f0.f1))).setCell ⟨gb502, 2, none⟩ (.int .u64 ((rd_T66 l0 x7_1).f0.f2))).setCell ⟨gb502, 3, none⟩ (.bool ((rd_T66 l0 x7_1).f1.f0))).setCell ⟨gb502, 4, none⟩ (.int .u64 ((rd_T66 l0 x7_1).f1.f1))).setCell ⟨gb502, 5, none⟩ (.int .u64 ((rd_T66 l0 x7_1).f1.f2)))) := ⟨zB HB⟩
                     (try clear BK502)
                     (try clear HB)
                     generalize ((((((w21.setCell ⟨gb502, 0, none⟩ (.bool ((rd_T66 l0 x7_1).f0.f0))).setCell ⟨gb502, 1, none⟩ (.int .u64 ((rd_T66 l0 x7_1).f0.f1))).setCell ⟨gb502, 2, none⟩ (.int .u64 ((rd_T66 l0 x7_1).f0.f2))).setCell ⟨gb502, 3, none⟩ (.bool ((rd_T66 l0 x7_1).f1.f0))).setCell ⟨gb502, 4, none⟩ (.int .u64 ((rd_T66 l0 x7_1).f1.f1))).setCell ⟨gb502, 5, none⟩ (.int .u64 ((rd_T66 l0 x7_1).f1.f2))) = w23 at n0_ n1_ ⊢
                     have BK502 := n0_
                     have HB := n1_
                     clear n0_ n1_
                     replace BK502 := Aside0.mk (blk_drew BK502.out)
                     replace HB := Aside0.mk (below_drew1 HB.out)
                     have p504 : 0 ≤ ((ji8) : Int) := za
                     have q504 : (ji8) < (l0.length : Int) := za
                     obtain ⟨ad504, e504, hx504_0, hx504_1, hx504_2, hx504_3, hx504_4, hx504_5⟩ := at_T66 HR0.out (ji8) p504 q504
                     have hw504_5 := hx504_5
                     have hw504_4 := hx504_4
                     have hw504_3 := hx504_3
                     have hw504_2 := hx504_2
                     have hw504_1 := hx504_1
                     have hw504_0 := hx504_0
                     obtain rfl : ad501 = ad504 := (by injection e504)
                     replace hx504_0 := zh HB hx504_0
                     replace hx504_1 := zh HB hx504_1
                     replace hx504_2 := zh HB hx504_2
                     replace hx504_3 := zh HB hx504_3
                     replace hx504_4 := zh HB hx504_4
                     replace hx504_5 := zh HB hx504_5
                     replace p504 := eq_true p504
                     replace q504 := eq_true q504
                     have p506 : 0 ≤ ((ji8) : Int) := za
                     have q506 : (ji8) < (l0.length : Int) := za
                     obtain ⟨ad506, e506, hx506_0, hx506_1, hx506_2, hx506_3, hx506_4, hx506_5⟩ := at_T66 HR0.out (ji8) p506 q506
                     have hw506_5 := hx506_5
                     have hw506_4 := hx506_4
                     have hw506_3 := hx506_3
                     have hw506_2 := hx506_2
                     have hw506_1 := hx506_1
                     have hw506_0 := hx506_0
                     obtain rfl : ad501 = ad506 := (by injection e506)
                     replace hx506_0 := zh HB hx506_0
                     replace hx506_1 := zh HB hx506_1
                     replace hx506_2 := zh HB hx506_2
                     replace hx506_3 := zh HB hx506_3
                     replace hx506_4 := zh HB hx506_4
                     replace hx506_5 := zh HB hx506_5
                     replace p506 := eq_true p506
                     replace q506 := eq_true q506
                     refine start_ (n := 28) (S := fun w' => w'.cell? ⟨gb502, 0, none⟩ = some (.bool ((rd_T66 l0 x7_1).f0.f0)) ∧ w'.cell? ⟨gb502, 1, none⟩ = some (.int .u64 ((rd_T66 l0 x7_1).f0.f1)) ∧ w'.cell? ⟨gb502, 2, none⟩ = some (.int .u64 ((rd_T66 l0 x7_1).f0.f2)) ∧ w'.cell? ⟨gb502, 3, none⟩ = some (.bool ((rd_T66 l0 x7_1).f1.f0)) ∧ w'.cell? ⟨gb502, 4, none⟩ = some (.int .u64 ((rd_T66 l0 x7_1).f1.f1)) ∧ w'.cell? ⟨gb502, 5, none⟩ = some (.int .u64 ((rd_T66 l0 x7_1).f1.f2)) ∧ w'.cell? (ad501.add (((ji8)).toNat * 6)) = some (.bool ((rd_T66 l0 (ji8)).f0.f0)) ∧ w'.cell? ⟨(ad501.add (((ji8)).toNat * 6)).block, (ad501.add (((ji8)).toNat * 6)).off + 1, none⟩ = some (.int .u64 ((rd_T66 l0 (ji8)).f0.f1)) ∧ w'.cell? ⟨(ad501.add (((ji8)).toNat * 6)).block, (ad501.add (((ji8)).toNat * 6)).off + 2, none⟩ = some (.int .u64 ((rd_T66 l0 (ji8)).f0.f2)) ∧ w'.cell? ⟨(ad501.add (((ji8)).toNat * 6)).block, (ad501.add (((ji8)).toNat * 6)).off + 3, none⟩ = some (.bool ((rd_T66 l0 (ji8)).f1.f0)) ∧ w'.cell? ⟨(ad501.add (((ji8)).toNat * 6)).block, (ad501.add (((ji8)).toNat * 6)).off + 4, none⟩ = some (.int .u64 ((rd_T66 l0 (ji8)).f1.f1)) ∧ w'.cell? ⟨(ad501.add (((ji8)).toNat * 6)).block, (ad501.add (((ji8)).toNat * 6)).off + 5, none⟩ = some (.int .u64 ((rd_T66 l0 (ji8)).f1.f2)) ∧ w'.cell? (ad501.add (((ji8)).toNat * 6)) = some (.bool ((rd_T66 l0 (ji8)).f0.f0)) ∧ w'.cell? ⟨(ad501.add (((ji8)).toNat * 6)).block, (ad501.add (((ji8)).toNat * 6)).off + 1, none⟩ = some (.int .u64 ((rd_T66 l0 (ji8)).f0.f1)) ∧ w'.cell? ⟨(ad501.add (((ji8)).toNat * 6)).block, (ad501.add (((ji8)).toNat * 6)).off + 2, none⟩ = some (.int .u64 ((rd_T66 l0 (ji8)).f0.f2)) ∧ w'.cell? ⟨(ad501.add (((ji8)).toNat * 6)).block, (ad501.add (((ji8)).toNat * 6)).off + 3, none⟩ = some (.bool ((rd_T66 l0 (ji8)).f1.f0)) ∧ w'.cell? ⟨(ad501.add (((ji8)).toNat * 6)).block, (ad501.add (((ji8)).toNat * 6)).off + 4, none⟩ = some (.int .u64 ((rd_T66 l0 (ji8)).f1.f1)) ∧ w'.cell? ⟨(ad501.add (((ji8)).toNat * 6)).block, (ad501.add (((ji8)).toNat * 6)).off + 5, none⟩ = some (.int .u64 ((rd_T66 l0 (ji8)).f1.f2))) (ds := []) #[false, false, false, false, false, false, false, false, false, false, false, false, false, false, false, false, false, false, false, false, false, false, false, false, false, false, false, false] (by kernel_rfl) rfl rfl ⟨zc BK502 0, zc BK502 1, zc BK502 2, zc BK502 3, zc BK502 4, zc BK502 5, (zh HB hw504_0), (zh HB hw504_1), (zh HB hw504_2), (zh HB hw504_3), (zh HB hw504_4), (zh HB hw504_5), (zh HB hw506_0), (zh HB hw506_1), (zh HB hw506_2), (zh HB hw506_3), (zh HB hw506_4), (zh HB hw506_5)⟩ (fun hHeld => ?_); refine with_tabW addrset_Valid.tab4 addrset_Valid.bits4 (fun HT_ HW_ => ?_)
                     generalize w23.drew = w24 at BK502 HB hx504_0 hx504_1 hx504_2 hx504_3 hx504_4 hx504_5 hx506_0 hx506_1 hx506_2 hx506_3 hx506_4 hx506_5 hHeld ⊢
                     refine zt 0 12 HT_ HW_ hHeld ?_; refine zo 1 13 HT_ (fun K hK => ?_)
                     refine zg Try.func71 #[.agg #[.bool ((rd_T66 l0 x7_1).f0.f0), .int .u64 ((rd_T66 l0 x7_1).f0.f1), .int .u64 ((rd_T66 l0 x7_1).f0.f2), .bool ((rd_T66 l0 x7_1).f1.f0), .int .u64 ((rd_T66 l0 x7_1).f1.f1), .int .u64 ((rd_T66 l0 x7_1).f1.f2)]] ?_
                     with_reducible refine (addrset_some.calls ((rd_T66 l0 x7_1).f0.f0) ((rd_T66 l0 x7_1).f0.f1) ((rd_T66 l0 x7_1).f0.f2) ((rd_T66 l0 x7_1).f1.f0) ((rd_T66 l0 x7_1).f1.f1) ((rd_T66 l0 x7_1).f1.f2) true _ A5.out).mono ?_
                     rintro e w25 ⟨rfl, hb⟩
                     refine ⟨_, rfl, ?_⟩
                     replace BK502 := Aside0.mk (blk_below (g := gb502) (o := .cells #[.bool ((rd_T66 l0 x7_1).f0.f0), .int .u64 ((rd_T66 l0 x7_1).f0.f1), .int .u64 ((rd_T66 l0 x7_1).f0.f2), .bool ((rd_T66 l0 x7_1).f1.f0), .int .u64 ((rd_T66 l0 x7_1).f1.f1), .int .u64 ((rd_T66 l0 x7_1).f1.f2)] 66 (0, 0)) (zK BK502) hb)
                     replace HB := Aside0.mk (below_step (zB HB) hb)
                     (try clear hb)
                     refine hK.out _ _ ⟨zc BK502 0, zc BK502 1, zc BK502 2, zc BK502 3, zc BK502 4, zc BK502 5, (zh HB hw504_0), (zh HB hw504_1), (zh HB hw504_2), (zh HB hw504_3), (zh HB hw504_4), (zh HB hw504_5), (zh HB hw506_0), (zh HB hw506_1), (zh HB hw506_2), (zh HB hw506_3), (zh HB hw506_4), (zh HB hw506_5)⟩ (fun hHeld => ?_)
                     clear hK K
                     refine zn 13 ?_; refine zp 2 14 HT_ ?_; refine zp 3 15 HT_ ?_; refine zp 4 16 HT_ ?_; refine zp 5 17 HT_ ?_; refine zp 6 18 HT_ ?_; refine zp 7 19 HT_ ?_; refine zp 8 20 HT_ ?_; refine zp 9 21 HT_ ?_; refine zp 10 22 HT_ ?_; refine zp 11 23 HT_ ?_; refine zp 13 25 HT_ ?_; refine zt 12 24 HT_ HW_ hHeld ?_; refine zt 14 26 HT_ HW_ hHeld ?_; refine zo 15 27 HT_ (fun K hK => ?_)
                     refine goes_ Try.func75 (by kernel_rfl) rfl #[.agg #[.bool ((rd_T66 l0 (ji8)).f1.f0), .int .u64 ((rd_T66 l0 (ji8)).f1.f1), .int .u64 ((rd_T66 l0 (ji8)).f1.f2)], .agg #[.bool ((rd_T66 l0 x7_1).f0.f0), .int .u64 ((rd_T66 l0 x7_1).f0.f1), .int .u64 ((rd_T66 l0 x7_1).f0.f2)]] (by rfl) rfl rfl (by (try simp only [List.map_toArray, List.map_cons, List.map_nil]); first | done | (simp only [hji8]; rfl) | rfl | (simp only [List.length_drop, List.length_take]; rfl)) ?_
                     with_reducible refine (address_Compare.calls ((rd_T66 l0 (ji8)).f1.f0) ((rd_T66 l0 (ji8)).f1.f1) ((rd_T66 l0 (ji8)).f1.f2) ((rd_T66 l0 x7_1).f0.f0) ((rd_T66 l0 x7_1).f0.f1) ((rd_T66 l0 x7_1).f0.f2) t505 _ A11.out).mono ?_
                     rintro e w26 ⟨rfl, hb⟩
                     refine ⟨_, rfl, ?_⟩
                     replace BK502 := Aside0.mk (blk_below (g := gb502) (o := .cells #[.bool ((rd_T66 l0 x7_1).f0.f0), .int .u64 ((rd_T66 l0 x7_1).f0.f1), .int .u64 ((rd_T66 l0 x7_1).f0.f2), .bool ((rd_T66 l0 x7_1).f1.f0), .int .u64 ((rd_T66 l0 x7_1).f1.f1), .int .u64 ((rd_T66 l0 x7_1).f1.f2)] 66 (0, 0)) (zK BK502) hb)
                     replace HB := Aside0.mk (below_step (zB HB) hb)
                     (try clear hb)
                     refine hK.out _ _ ⟨zc BK502 0, zc BK502 1, zc BK502 2, zc BK502 3, zc BK502 4, zc BK502 5, (zh HB hw504_0), (zh HB hw504_1), (zh HB hw504_2), (zh HB hw504_3), (zh HB hw504_4), (zh HB hw504_5), (zh HB hw506_0), (zh HB hw506_1), (zh HB hw506_2), (zh HB hw506_3), (zh HB hw506_4), (zh HB hw506_5)⟩ (fun hHeld => ?_)
                     clear hK K
                     refine zn 27 ?_; refine zp 16 28 HT_ ?_; refine zp 17 29 HT_ ?_; refine zp 18 30 HT_ ?_; refine zp 19 31 HT_ ?_; refine zp 20 32 HT_ ?_; refine zp 21 33 HT_ ?_; refine zt 22 34 HT_ HW_ hHeld ?_; refine zt 23 35 HT_ HW_ hHeld ?_; refine zo 24 36 HT_ (fun K hK => ?_)
                     refine goes_ Try.func76 (by kernel_rfl) rfl #[.agg #[.bool ((rd_T66 l0 (ji8)).f0.f0), .int .u64 ((rd_T66 l0 (ji8)).f0.f1), .int .u64 ((rd_T66 l0 (ji8)).f0.f2), .bool ((rd_T66 l0 (ji8)).f1.f0), .int .u64 ((rd_T66 l0 (ji8)).f1.f1), .int .u64 ((rd_T66 l0 (ji8)).f1.f2)], .agg #[.bool ((rd_T66 l0 x7_1).f0.f0), .int .u64 ((rd_T66 l0 x7_1).f0.f1), .int .u64 ((rd_T66 l0 x7_1).f0.f2), .bool ((rd_T66 l0 x7_1).f1.f0), .int .u64 ((rd_T66 l0 x7_1).f1.f1), .int .u64 ((rd_T66 l0 x7_1).f1.f2)]] (by rfl) rfl rfl (by (try simp only [List.map_toArray, List.map_cons, List.map_nil]); first | done | (simp only [hji8]; rfl) | rfl | (simp only [List.length_drop, List.length_take]; rfl)) ?_
                     with_reducible refine (addrset_near.calls ((rd_T66 l0 (ji8)).f0.f0) ((rd_T66 l0 (ji8)).f0.f1) ((rd_T66 l0 (ji8)).f0.f2) ((rd_T66 l0 (ji8)).f1.f0) ((rd_T66 l0 (ji8)).f1.f1) ((rd_T66 l0 (ji8)).f1.f2) ((rd_T66 l0 x7_1).f0.f0) ((rd_T66 l0 x7_1).f0.f1) ((rd_T66 l0 x7_1).f0.f2) ((rd_T66 l0 x7_1).f1.f0) ((rd_T66 l0 x7_1).f1.f1) ((rd_T66 l0 x7_1).f1.f2) true _ A19.out).mono ?_
                     rintro e w27 ⟨rfl, hb⟩
                     refine ⟨_, rfl, ?_⟩
                     replace BK502 := Aside0.mk (blk_below (g := gb502) (o := .cells #[.bool ((rd_T66 l0 x7_1).f0.f0), .int .u64 ((rd_T66 l0 x7_1).f0.f1), .int .u64 ((rd_T66 l0 x7_1).f0.f2), .bool ((rd_T66 l0 x7_1).f1.f0), .int .u64 ((rd_T66 l0 x7_1).f1.f1), .int .u64 ((rd_T66 l0 x7_1).f1.f2)] 66 (0, 0)) (zK BK502) hb)
                     replace HB := Aside0.mk (below_step (zB HB) hb)
                     (try clear hb)
                     refine hK.out _ _ ⟨zc BK502 0, zc BK502 1, zc BK502 2, zc BK502 3, zc BK502 4, zc BK502 5, (zh HB hw504_0), (zh HB hw504_1), (zh HB hw504_2), (zh HB hw504_3), (zh HB hw504_4), (zh HB hw504_5), (zh HB hw506_0), (zh HB hw506_1), (zh HB hw506_2), (zh HB hw506_3), (zh HB hw506_4), (zh HB hw506_5)⟩ (fun hHeld => ?_)
                     clear hK K
                     refine zn 36 ?_; refine zp 25 37 HT_ ?_; refine zp 26 38 HT_ ?_; refine zp 27 39 HT_ ?_; refine zd HT_ ?_
                     try go_wp2
                     go_ret
                     exact ⟨by first | rfl | (simp [errW_none, errW_some] <;> rfl) | (simp only [← hji8]; first | rfl | (simp [errW_none, errW_some] <;> rfl)) | (simp [*, errW_none, errW_some] <;> rfl), by repeat (first | (with_reducible first | exact HB.out | apply below_alloc | apply pw_below_drewN | apply below_drew1 | refine below_set ?_ GE502.out) | exact HB.out)⟩
                   · replace c20 := Bool.eq_false_iff.mpr c20
                     subst c20
                     rw [if_neg zF] at H
                     have H' := Aside0.mk H
                     clear H
                     have p501 : 0 ≤ (x7_1 : Int) := za
                     have q501 : x7_1 < (l0.length : Int) := za
                     obtain ⟨ad501, e501, hx501_0, hx501_1, hx501_2, hx501_3, hx501_4, hx501_5⟩ := at_T66 HR0.out x7_1 p501 q501
                     cases e501
                     replace hx501_0 := zh HB hx501_0
                     replace hx501_1 := zh HB hx501_1
                     replace hx501_2 := zh HB hx501_2
                     replace hx501_3 := zh HB hx501_3
                     replace hx501_4 := zh HB hx501_4
                     replace hx501_5 := zh HB hx501_5
                     replace p501 := eq_true p501
                     replace q501 := eq_true q501
                     try go_wp2_with (first | ((with_reducible refine gate_dst (N := 4) rfl ?_); refine zx 4 #[.bool false, .int .u64 0, .int .u64 0, .bool false, .int .u64 0, .int .u64 0] 66 ?_; intro gb502 hg w28 hbox hb; have BK502 := Aside0.mk (hbox); have GW502 := Aside0.mk ((by rw [hg]; exact (below_size (zB HB)) : w.heap.size ≤ gb502)); have GE502 := Aside0.mk ((by rw [hg]; exact (below_size (zB HB)) : w.heap.size ≤ gb502)); replace HB := Aside0.mk (below_step (zB HB) hb); clear hb hbox hg; obtain ⟨hcz29_0, hcz29_1, hcz29_2, hcz29_3, hcz29_4, hcz29_5⟩ := zc6 BK502; obtain ⟨hfz29_0, hfz29_1, hfz29_2, hfz29_3, hfz29_4, hfz29_5⟩ := zf6 BK502))
                     have n0_ : Aside0 (((((((w28.setCell ⟨gb502, 0, none⟩ (.bool ((rd_T66 l0 x7_1).f0.f0))).setCell ⟨gb502, 1, none⟩ (.int .u64 ((rd_T66 l0 x7_1).f0.f1))).setCell ⟨gb502, 2, none⟩ (.int .u64 ((rd_T66 l0 x7_1).f0.f2))).setCell ⟨gb502, 3, none⟩ (.bool ((rd_T66 l0 x7_1).f1.f0))).setCell ⟨gb502, 4, none⟩ (.int .u64 ((rd_T66 l0 x7_1).f1.f1))).setCell ⟨gb502, 5, none⟩ (.int .u64 ((rd_T66 l0 x7_1).f1.f2))).heap[gb502]? = some (.cells #[.bool ((rd_T66 l0 x7_1).f0.f0), .int .u64 ((rd_T66 l0 x7_1).f0.f1), .int .u64 ((rd_T66 l0 x7_1).f0.f2), .bool ((rd_T66 l0 x7_1).f1.f0), .int .u64 ((rd_T66 l0 x7_1).f1.f1), .int .u64 ((rd_T66 l0 x7_1).f1.f2)] 66 (0, 0))) := ⟨by refine zL ?_; refine blk_put (cs := #[.bool ((rd_T66 l0 x7_1).f0.f0), .int .u64 ((rd_T66 l0 x7_1).f0.f1), .int .u64 ((rd_T66 l0 x7_1).f0.f2), .bool ((rd_T66 l0 x7_1).f1.f0), .int .u64 ((rd_T66 l0 x7_1).f1.f1), .int .u64 0]) ?_ 5 _ rfl; refine zL ?_; refine blk_put (cs := #[.bool ((rd_T66 l0 x7_1).f0.f0), .int .u64 ((rd_T66 l0 x7_1).f0.f1), .int .u64 ((rd_T66 l0 x7_1).f0.f2), .bool ((rd_T66 l0 x7_1).f1.f0), .int .u64 0, .int .u64 0]) ?_ 4 _ rfl; refine zL ?_; refine blk_put (cs := #[.bool ((rd_T66 l0 x7_1).f0.f0), .int .u64 ((rd_T66 l0 x7_1).f0.f1), .int .u64 ((rd_T66 l0 x7_1).f0.f2), .bool false, .int .u64 0, .int .u64 0]) ?_ 3 _ rfl; refine zL ?_; refine blk_put (cs := #[.bool ((rd_T66 l0 x7_1).f0.f0), .int .u64 ((rd_T66 l0 x7_1).f0.f1), .int .u64 0, .bool false, .int .u64 0, .int .u64 0]) ?_ 2 _ rfl; refine zL ?_; refine blk_put (cs := #[.bool ((rd_T66 l0 x7_1).f0.f0), .int .u64 0, .int .u64 0, .bool false, .int .u64 0, .int .u64 0]) ?_ 1 _ rfl; refine zL ?_; refine blk_put (cs := #[.bool false, .int .u64 0, .int .u64 0, .bool false, .int .u64 0, .int .u64 0]) ?_ 0 _ rfl; refine zL ?_; exact BK502.out⟩
                     have n1_ : Aside0 (Below w.heap.size w ((((((w28.setCell ⟨gb502, 0, none⟩ (.bool ((rd_T66 l0 x7_1).f0.f0))).setCell ⟨gb502, 1, none⟩ (.int .u64 ((rd_T66 l0 x7_1).f0.f1))).setCell ⟨gb502, 2, none⟩ (.int .u64 ((rd_T66 l0 x7_1).f0.f2))).setCell ⟨gb502, 3, none⟩ (.bool ((rd_T66 l0 x7_1).f1.f0))).setCell ⟨gb502, 4, none⟩ (.int .u64 ((rd_T66 l0 x7_1).f1.f1))).setCell ⟨gb502, 5, none⟩ (.int .u64 ((rd_T66 l0 x7_1).f1.f2)))) := ⟨zB HB⟩
                     (try clear BK502)
                     (try clear HB)
                     generalize ((((((w28.setCell ⟨gb502, 0, none⟩ (.bool ((rd_T66 l0 x7_1).f0.f0))).setCell ⟨gb502, 1, none⟩ (.int .u64 ((rd_T66 l0 x7_1).f0.f1))).setCell ⟨gb502, 2, none⟩ (.int .u64 ((rd_T66 l0 x7_1).f0.f2))).setCell ⟨gb502, 3, none⟩ (.bool ((rd_T66 l0 x7_1).f1.f0))).setCell ⟨gb502, 4, none⟩ (.int .u64 ((rd_T66 l0 x7_1).f1.f1))).setCell ⟨gb502, 5, none⟩ (.int .u64 ((rd_T66 l0 x7_1).f1.f2))) = w30 at n0_ n1_ ⊢
                     have BK502 := n0_
                     have HB := n1_
                     clear n0_ n1_
                     replace BK502 := Aside0.mk (blk_drew BK502.out)
                     replace HB := Aside0.mk (below_drew1 HB.out)
                     have p504 : 0 ≤ ((ji8) : Int) := za
                     have q504 : (ji8) < (l0.length : Int) := za
                     obtain ⟨ad504, e504, hx504_0, hx504_1, hx504_2, hx504_3, hx504_4, hx504_5⟩ := at_T66 HR0.out (ji8) p504 q504
                     have hw504_5 := hx504_5
                     have hw504_4 := hx504_4
                     have hw504_3 := hx504_3
                     have hw504_2 := hx504_2
                     have hw504_1 := hx504_1
                     have hw504_0 := hx504_0
                     obtain rfl : ad501 = ad504 := (by injection e504)
                     replace hx504_0 := zh HB hx504_0
                     replace hx504_1 := zh HB hx504_1
                     replace hx504_2 := zh HB hx504_2
                     replace hx504_3 := zh HB hx504_3
                     replace hx504_4 := zh HB hx504_4
                     replace hx504_5 := zh HB hx504_5
                     replace p504 := eq_true p504
                     replace q504 := eq_true q504
                     have p506 : 0 ≤ ((ji8) : Int) := za
                     have q506 : (ji8) < (l0.length : Int) := za
                     obtain ⟨ad506, e506, hx506_0, hx506_1, hx506_2, hx506_3, hx506_4, hx506_5⟩ := at_T66 HR0.out (ji8) p506 q506
                     have hw506_5 := hx506_5
                     have hw506_4 := hx506_4
                     have hw506_3 := hx506_3
                     have hw506_2 := hx506_2
                     have hw506_1 := hx506_1
                     have hw506_0 := hx506_0
                     obtain rfl : ad501 = ad506 := (by injection e506)
                     replace hx506_0 := zh HB hx506_0
                     replace hx506_1 := zh HB hx506_1
                     replace hx506_2 := zh HB hx506_2
                     replace hx506_3 := zh HB hx506_3
                     replace hx506_4 := zh HB hx506_4
                     replace hx506_5 := zh HB hx506_5
                     replace p506 := eq_true p506
                     replace q506 := eq_true q506
                     refine start_ (n := 28) (S := fun w' => w'.cell? ⟨gb502, 0, none⟩ = some (.bool ((rd_T66 l0 x7_1).f0.f0)) ∧ w'.cell? ⟨gb502, 1, none⟩ = some (.int .u64 ((rd_T66 l0 x7_1).f0.f1)) ∧ w'.cell? ⟨gb502, 2, none⟩ = some (.int .u64 ((rd_T66 l0 x7_1).f0.f2)) ∧ w'.cell? ⟨gb502, 3, none⟩ = some (.bool ((rd_T66 l0 x7_1).f1.f0)) ∧ w'.cell? ⟨gb502, 4, none⟩ = some (.int .u64 ((rd_T66 l0 x7_1).f1.f1)) ∧ w'.cell? ⟨gb502, 5, none⟩ = some (.int .u64 ((rd_T66 l0 x7_1).f1.f2)) ∧ w'.cell? (ad501.add (((ji8)).toNat * 6)) = some (.bool ((rd_T66 l0 (ji8)).f0.f0)) ∧ w'.cell? ⟨(ad501.add (((ji8)).toNat * 6)).block, (ad501.add (((ji8)).toNat * 6)).off + 1, none⟩ = some (.int .u64 ((rd_T66 l0 (ji8)).f0.f1)) ∧ w'.cell? ⟨(ad501.add (((ji8)).toNat * 6)).block, (ad501.add (((ji8)).toNat * 6)).off + 2, none⟩ = some (.int .u64 ((rd_T66 l0 (ji8)).f0.f2)) ∧ w'.cell? ⟨(ad501.add (((ji8)).toNat * 6)).block, (ad501.add (((ji8)).toNat * 6)).off + 3, none⟩ = some (.bool ((rd_T66 l0 (ji8)).f1.f0)) ∧ w'.cell? ⟨(ad501.add (((ji8)).toNat * 6)).block, (ad501.add (((ji8)).toNat * 6)).off + 4, none⟩ = some (.int .u64 ((rd_T66 l0 (ji8)).f1.f1)) ∧ w'.cell? ⟨(ad501.add (((ji8)).toNat * 6)).block, (ad501.add (((ji8)).toNat * 6)).off + 5, none⟩ = some (.int .u64 ((rd_T66 l0 (ji8)).f1.f2)) ∧ w'.cell? (ad501.add (((ji8)).toNat * 6)) = some (.bool ((rd_T66 l0 (ji8)).f0.f0)) ∧ w'.cell? ⟨(ad501.add (((ji8)).toNat * 6)).block, (ad501.add (((ji8)).toNat * 6)).off + 1, none⟩ = some (.int .u64 ((rd_T66 l0 (ji8)).f0.f1)) ∧ w'.cell? ⟨(ad501.add (((ji8)).toNat * 6)).block, (ad501.add (((ji8)).toNat * 6)).off + 2, none⟩ = some (.int .u64 ((rd_T66 l0 (ji8)).f0.f2)) ∧ w'.cell? ⟨(ad501.add (((ji8)).toNat * 6)).block, (ad501.add (((ji8)).toNat * 6)).off + 3, none⟩ = some (.bool ((rd_T66 l0 (ji8)).f1.f0)) ∧ w'.cell? ⟨(ad501.add (((ji8)).toNat * 6)).block, (ad501.add (((ji8)).toNat * 6)).off + 4, none⟩ = some (.int .u64 ((rd_T66 l0 (ji8)).f1.f1)) ∧ w'.cell? ⟨(ad501.add (((ji8)).toNat * 6)).block, (ad501.add (((ji8)).toNat * 6)).off + 5, none⟩ = some (.int .u64 ((rd_T66 l0 (ji8)).f1.f2))) (ds := []) #[false, false, false, false, false, false, false, false, false, false, false, false, false, false, false, false, false, false, false, false, false, false, false, false, false, false, false, false] (by kernel_rfl) rfl rfl ⟨zc BK502 0, zc BK502 1, zc BK502 2, zc BK502 3, zc BK502 4, zc BK502 5, (zh HB hw504_0), (zh HB hw504_1), (zh HB hw504_2), (zh HB hw504_3), (zh HB hw504_4), (zh HB hw504_5), (zh HB hw506_0), (zh HB hw506_1), (zh HB hw506_2), (zh HB hw506_3), (zh HB hw506_4), (zh HB hw506_5)⟩ (fun hHeld => ?_); refine with_tabW addrset_Valid.tab4 addrset_Valid.bits4 (fun HT_ HW_ => ?_)
                     generalize w30.drew = w31 at BK502 HB hx504_0 hx504_1 hx504_2 hx504_3 hx504_4 hx504_5 hx506_0 hx506_1 hx506_2 hx506_3 hx506_4 hx506_5 hHeld ⊢
                     refine zt 0 12 HT_ HW_ hHeld ?_; refine zo 1 13 HT_ (fun K hK => ?_)
                     refine zg Try.func71 #[.agg #[.bool ((rd_T66 l0 x7_1).f0.f0), .int .u64 ((rd_T66 l0 x7_1).f0.f1), .int .u64 ((rd_T66 l0 x7_1).f0.f2), .bool ((rd_T66 l0 x7_1).f1.f0), .int .u64 ((rd_T66 l0 x7_1).f1.f1), .int .u64 ((rd_T66 l0 x7_1).f1.f2)]] ?_
                     with_reducible refine (addrset_some.calls ((rd_T66 l0 x7_1).f0.f0) ((rd_T66 l0 x7_1).f0.f1) ((rd_T66 l0 x7_1).f0.f2) ((rd_T66 l0 x7_1).f1.f0) ((rd_T66 l0 x7_1).f1.f1) ((rd_T66 l0 x7_1).f1.f2) true _ A5.out).mono ?_
                     rintro e w32 ⟨rfl, hb⟩
                     refine ⟨_, rfl, ?_⟩
                     replace BK502 := Aside0.mk (blk_below (g := gb502) (o := .cells #[.bool ((rd_T66 l0 x7_1).f0.f0), .int .u64 ((rd_T66 l0 x7_1).f0.f1), .int .u64 ((rd_T66 l0 x7_1).f0.f2), .bool ((rd_T66 l0 x7_1).f1.f0), .int .u64 ((rd_T66 l0 x7_1).f1.f1), .int .u64 ((rd_T66 l0 x7_1).f1.f2)] 66 (0, 0)) (zK BK502) hb)
                     replace HB := Aside0.mk (below_step (zB HB) hb)
                     (try clear hb)
                     refine hK.out _ _ ⟨zc BK502 0, zc BK502 1, zc BK502 2, zc BK502 3, zc BK502 4, zc BK502 5, (zh HB hw504_0), (zh HB hw504_1), (zh HB hw504_2), (zh HB hw504_3), (zh HB hw504_4), (zh HB hw504_5), (zh HB hw506_0), (zh HB hw506_1), (zh HB hw506_2), (zh HB hw506_3), (zh HB hw506_4), (zh HB hw506_5)⟩ (fun hHeld => ?_)
                     clear hK K
                     refine zn 13 ?_; refine zp 2 14 HT_ ?_; refine zp 3 15 HT_ ?_; refine zp 4 16 HT_ ?_; refine zp 5 17 HT_ ?_; refine zp 6 18 HT_ ?_; refine zp 7 19 HT_ ?_; refine zp 8 20 HT_ ?_; refine zp 9 21 HT_ ?_; refine zp 10 22 HT_ ?_; refine zp 11 23 HT_ ?_; refine zp 13 25 HT_ ?_; refine zt 12 24 HT_ HW_ hHeld ?_; refine zt 14 26 HT_ HW_ hHeld ?_; refine zo 15 27 HT_ (fun K hK => ?_)
                     refine goes_ Try.func75 (by kernel_rfl) rfl #[.agg #[.bool ((rd_T66 l0 (ji8)).f1.f0), .int .u64 ((rd_T66 l0 (ji8)).f1.f1), .int .u64 ((rd_T66 l0 (ji8)).f1.f2)], .agg #[.bool ((rd_T66 l0 x7_1).f0.f0), .int .u64 ((rd_T66 l0 x7_1).f0.f1), .int .u64 ((rd_T66 l0 x7_1).f0.f2)]] (by rfl) rfl rfl (by (try simp only [List.map_toArray, List.map_cons, List.map_nil]); first | done | (simp only [hji8]; rfl) | rfl | (simp only [List.length_drop, List.length_take]; rfl)) ?_
                     with_reducible refine (address_Compare.calls ((rd_T66 l0 (ji8)).f1.f0) ((rd_T66 l0 (ji8)).f1.f1) ((rd_T66 l0 (ji8)).f1.f2) ((rd_T66 l0 x7_1).f0.f0) ((rd_T66 l0 x7_1).f0.f1) ((rd_T66 l0 x7_1).f0.f2) t505 _ A11.out).mono ?_
                     rintro e w33 ⟨rfl, hb⟩
                     refine ⟨_, rfl, ?_⟩
                     replace BK502 := Aside0.mk (blk_below (g := gb502) (o := .cells #[.bool ((rd_T66 l0 x7_1).f0.f0), .int .u64 ((rd_T66 l0 x7_1).f0.f1), .int .u64 ((rd_T66 l0 x7_1).f0.f2), .bool ((rd_T66 l0 x7_1).f1.f0), .int .u64 ((rd_T66 l0 x7_1).f1.f1), .int .u64 ((rd_T66 l0 x7_1).f1.f2)] 66 (0, 0)) (zK BK502) hb)
                     replace HB := Aside0.mk (below_step (zB HB) hb)
                     (try clear hb)
                     refine hK.out _ _ ⟨zc BK502 0, zc BK502 1, zc BK502 2, zc BK502 3, zc BK502 4, zc BK502 5, (zh HB hw504_0), (zh HB hw504_1), (zh HB hw504_2), (zh HB hw504_3), (zh HB hw504_4), (zh HB hw504_5), (zh HB hw506_0), (zh HB hw506_1), (zh HB hw506_2), (zh HB hw506_3), (zh HB hw506_4), (zh HB hw506_5)⟩ (fun hHeld => ?_)
                     clear hK K
                     refine zn 27 ?_; refine zp 16 28 HT_ ?_; refine zp 17 29 HT_ ?_; refine zp 18 30 HT_ ?_; refine zp 19 31 HT_ ?_; refine zp 20 32 HT_ ?_; refine zp 21 33 HT_ ?_; refine zt 22 34 HT_ HW_ hHeld ?_; refine zt 23 35 HT_ HW_ hHeld ?_; refine zo 24 36 HT_ (fun K hK => ?_)
                     refine goes_ Try.func76 (by kernel_rfl) rfl #[.agg #[.bool ((rd_T66 l0 (ji8)).f0.f0), .int .u64 ((rd_T66 l0 (ji8)).f0.f1), .int .u64 ((rd_T66 l0 (ji8)).f0.f2), .bool ((rd_T66 l0 (ji8)).f1.f0), .int .u64 ((rd_T66 l0 (ji8)).f1.f1), .int .u64 ((rd_T66 l0 (ji8)).f1.f2)], .agg #[.bool ((rd_T66 l0 x7_1).f0.f0), .int .u64 ((rd_T66 l0 x7_1).f0.f1), .int .u64 ((rd_T66 l0 x7_1).f0.f2), .bool ((rd_T66 l0 x7_1).f1.f0), .int .u64 ((rd_T66 l0 x7_1).f1.f1), .int .u64 ((rd_T66 l0 x7_1).f1.f2)]] (by rfl) rfl rfl (by (try simp only [List.map_toArray, List.map_cons, List.map_nil]); first | done | (simp only [hji8]; rfl) | rfl | (simp only [List.length_drop, List.length_take]; rfl)) ?_
                     with_reducible refine (addrset_near.calls ((rd_T66 l0 (ji8)).f0.f0) ((rd_T66 l0 (ji8)).f0.f1) ((rd_T66 l0 (ji8)).f0.f2) ((rd_T66 l0 (ji8)).f1.f0) ((rd_T66 l0 (ji8)).f1.f1) ((rd_T66 l0 (ji8)).f1.f2) ((rd_T66 l0 x7_1).f0.f0) ((rd_T66 l0 x7_1).f0.f1) ((rd_T66 l0 x7_1).f0.f2) ((rd_T66 l0 x7_1).f1.f0) ((rd_T66 l0 x7_1).f1.f1) ((rd_T66 l0 x7_1).f1.f2) false _ A19.out).mono ?_
                     rintro e w34 ⟨rfl, hb⟩
                     refine ⟨_, rfl, ?_⟩
                     replace BK502 := Aside0.mk (blk_below (g := gb502) (o := .cells #[.bool ((rd_T66 l0 x7_1).f0.f0), .int .u64 ((rd_T66 l0 x7_1).f0.f1), .int .u64 ((rd_T66 l0 x7_1).f0.f2), .bool ((rd_T66 l0 x7_1).f1.f0), .int .u64 ((rd_T66 l0 x7_1).f1.f1), .int .u64 ((rd_T66 l0 x7_1).f1.f2)] 66 (0, 0)) (zK BK502) hb)
                     replace HB := Aside0.mk (below_step (zB HB) hb)
                     (try clear hb)
                     refine hK.out _ _ ⟨zc BK502 0, zc BK502 1, zc BK502 2, zc BK502 3, zc BK502 4, zc BK502 5, (zh HB hw504_0), (zh HB hw504_1), (zh HB hw504_2), (zh HB hw504_3), (zh HB hw504_4), (zh HB hw504_5), (zh HB hw506_0), (zh HB hw506_1), (zh HB hw506_2), (zh HB hw506_3), (zh HB hw506_4), (zh HB hw506_5)⟩ (fun hHeld => ?_)
                     clear hK K
                     refine zn 36 ?_; refine zp 25 37 HT_ ?_; refine zp 26 38 HT_ ?_; refine zp 27 39 HT_ ?_; refine zd HT_ ?_
                     try go_wp2
                     go_roundg k1
                     case measure => have := HK1.out; omega
                     case rel => exact ⟨(wrap64 (x7_1 + 1)), (by first | rfl | (simp; done) | (simp [*]; done)), H', ⟨by have := HK1.out; omega⟩, ⟨zB HB⟩⟩
               · rw [if_neg c10] at H
                 exact absurd H (by simp)
             · rw [if_neg c9] at H
               exact absurd H (by simp)
           · rw [if_neg c7] at H
             have c7b0 : decide (0 < x7_1) = false := decide_eq_false c7
             clear c7
             have H' := Aside0.mk H
             clear H
             have p501 : 0 ≤ (x7_1 : Int) := za
             have q501 : x7_1 < (l0.length : Int) := za
             obtain ⟨ad501, e501, hx501_0, hx501_1, hx501_2, hx501_3, hx501_4, hx501_5⟩ := at_T66 HR0.out x7_1 p501 q501
             cases e501
             replace hx501_0 := zh HB hx501_0
             replace hx501_1 := zh HB hx501_1
             replace hx501_2 := zh HB hx501_2
             replace hx501_3 := zh HB hx501_3
             replace hx501_4 := zh HB hx501_4
             replace hx501_5 := zh HB hx501_5
             replace p501 := eq_true p501
             replace q501 := eq_true q501
             try go_wp2_with (first | ((with_reducible refine gate_dst (N := 4) rfl ?_); refine zx 4 #[.bool false, .int .u64 0, .int .u64 0, .bool false, .int .u64 0, .int .u64 0] 66 ?_; intro gb502 hg w35 hbox hb; have BK502 := Aside0.mk (hbox); have GW502 := Aside0.mk ((by rw [hg]; exact (below_size (zB HB)) : w.heap.size ≤ gb502)); have GE502 := Aside0.mk ((by rw [hg]; exact (below_size (zB HB)) : w.heap.size ≤ gb502)); replace HB := Aside0.mk (below_step (zB HB) hb); clear hb hbox hg; obtain ⟨hcz36_0, hcz36_1, hcz36_2, hcz36_3, hcz36_4, hcz36_5⟩ := zc6 BK502; obtain ⟨hfz36_0, hfz36_1, hfz36_2, hfz36_3, hfz36_4, hfz36_5⟩ := zf6 BK502))
             have n0_ : Aside0 (((((((w35.setCell ⟨gb502, 0, none⟩ (.bool ((rd_T66 l0 x7_1).f0.f0))).setCell ⟨gb502, 1, none⟩ (.int .u64 ((rd_T66 l0 x7_1).f0.f1))).setCell ⟨gb502, 2, none⟩ (.int .u64 ((rd_T66 l0 x7_1).f0.f2))).setCell ⟨gb502, 3, none⟩ (.bool ((rd_T66 l0 x7_1).f1.f0))).setCell ⟨gb502, 4, none⟩ (.int .u64 ((rd_T66 l0 x7_1).f1.f1))).setCell ⟨gb502, 5, none⟩ (.int .u64 ((rd_T66 l0 x7_1).f1.f2))).heap[gb502]? = some (.cells #[.bool ((rd_T66 l0 x7_1).f0.f0), .int .u64 ((rd_T66 l0 x7_1).f0.f1), .int .u64 ((rd_T66 l0 x7_1).f0.f2), .bool ((rd_T66 l0 x7_1).f1.f0), .int .u64 ((rd_T66 l0 x7_1).f1.f1), .int .u64 ((rd_T66 l0 x7_1).f1.f2)] 66 (0, 0))) := ⟨by refine zL ?_; refine blk_put (cs := #[.bool ((rd_T66 l0 x7_1).f0.f0), .int .u64 ((rd_T66 l0 x7_1).f0.f1), .int .u64 ((rd_T66 l0 x7_1).f0.f2), .bool ((rd_T66 l0 x7_1).f1.f0), .int .u64 ((rd_T66 l0 x7_1).f1.f1), .int .u64 0]) ?_ 5 _ rfl; refine zL ?_; refine blk_put (cs := #[.bool ((rd_T66 l0 x7_1).f0.f0), .int .u64 ((rd_T66 l0 x7_1).f0.f1), .int .u64 ((rd_T66 l0 x7_1).f0.f2), .bool ((rd_T66 l0 x7_1).f1.f0), .int .u64 0, .int .u64 0]) ?_ 4 _ rfl; refine zL ?_; refine blk_put (cs := #[.bool ((rd_T66 l0 x7_1).f0.f0), .int .u64 ((rd_T66 l0 x7_1).f0.f1), .int .u64 ((rd_T66 l0 x7_1).f0.f2), .bool false, .int .u64 0, .int .u64 0]) ?_ 3 _ rfl; refine zL ?_; refine blk_put (cs := #[.bool ((rd_T66 l0 x7_1).f0.f0), .int .u64 ((rd_T66 l0 x7_1).f0.f1), .int .u64 0, .bool false, .int .u64 0, .int .u64 0]) ?_ 2 _ rfl; refine zL ?_; refine blk_put (cs := #[.bool ((rd_T66 l0 x7_1).f0.f0), .int .u64 0, .int .u64 0, .bool false, .int .u64 0, .int .u64 0]) ?_ 1 _ rfl; refine zL ?_; refine blk_put (cs := #[.bool false, .int .u64 0, .int .u64 0, .bool false, .int .u64 0, .int .u64 0]) ?_ 0 _ rfl; refine zL ?_; exact BK502.out⟩
             have n1_ : Aside0 (Below w.heap.size w ((((((w35.setCell ⟨gb502, 0, none⟩ (.bool ((rd_T66 l0 x7_1).f0.f0))).setCell ⟨gb502, 1, none⟩ (.int .u64 ((rd_T66 l0 x7_1).f0.f1))).setCell ⟨gb502, 2, none⟩ (.int .u64 ((rd_T66 l0 x7_1).f0.f2))).setCell ⟨gb502, 3, none⟩ (.bool ((rd_T66 l0 x7_1).f1.f0))).setCell ⟨gb502, 4, none⟩ (.int .u64 ((rd_T66 l0 x7_1).f1.f1))).setCell ⟨gb502, 5, none⟩ (.int .u64 ((rd_T66 l0 x7_1).f1.f2)))) := ⟨zB HB⟩
             (try clear BK502)
             (try clear HB)
             generalize ((((((w35.setCell ⟨gb502, 0, none⟩ (.bool ((rd_T66 l0 x7_1).f0.f0))).setCell ⟨gb502, 1, none⟩ (.int .u64 ((rd_T66 l0 x7_1).f0.f1))).setCell ⟨gb502, 2, none⟩ (.int .u64 ((rd_T66 l0 x7_1).f0.f2))).setCell ⟨gb502, 3, none⟩ (.bool ((rd_T66 l0 x7_1).f1.f0))).setCell ⟨gb502, 4, none⟩ (.int .u64 ((rd_T66 l0 x7_1).f1.f1))).setCell ⟨gb502, 5, none⟩ (.int .u64 ((rd_T66 l0 x7_1).f1.f2))) = w37 at n0_ n1_ ⊢
             have BK502 := n0_
             have HB := n1_
             clear n0_ n1_
             replace BK502 := Aside0.mk (blk_drew BK502.out)
             replace HB := Aside0.mk (below_drew1 HB.out)
             refine start_ (n := 28) (S := fun w' => w'.cell? ⟨gb502, 0, none⟩ = some (.bool ((rd_T66 l0 x7_1).f0.f0)) ∧ w'.cell? ⟨gb502, 1, none⟩ = some (.int .u64 ((rd_T66 l0 x7_1).f0.f1)) ∧ w'.cell? ⟨gb502, 2, none⟩ = some (.int .u64 ((rd_T66 l0 x7_1).f0.f2)) ∧ w'.cell? ⟨gb502, 3, none⟩ = some (.bool ((rd_T66 l0 x7_1).f1.f0)) ∧ w'.cell? ⟨gb502, 4, none⟩ = some (.int .u64 ((rd_T66 l0 x7_1).f1.f1)) ∧ w'.cell? ⟨gb502, 5, none⟩ = some (.int .u64 ((rd_T66 l0 x7_1).f1.f2))) (ds := []) #[false, false, false, false, false, false, false, false, false, false, false, false, false, false, false, false, false, false, false, false, false, false, false, false, false, false, false, false] (by kernel_rfl) rfl rfl ⟨zc BK502 0, zc BK502 1, zc BK502 2, zc BK502 3, zc BK502 4, zc BK502 5⟩ (fun hHeld => ?_); refine with_tabW addrset_Valid.tab4 addrset_Valid.bits4 (fun HT_ HW_ => ?_)
             generalize w37.drew = w38 at BK502 HB hHeld ⊢
             refine zt 0 12 HT_ HW_ hHeld ?_; refine zo 1 13 HT_ (fun K hK => ?_)
             refine zg Try.func71 #[.agg #[.bool ((rd_T66 l0 x7_1).f0.f0), .int .u64 ((rd_T66 l0 x7_1).f0.f1), .int .u64 ((rd_T66 l0 x7_1).f0.f2), .bool ((rd_T66 l0 x7_1).f1.f0), .int .u64 ((rd_T66 l0 x7_1).f1.f1), .int .u64 ((rd_T66 l0 x7_1).f1.f2)]] ?_
             with_reducible refine (addrset_some.calls ((rd_T66 l0 x7_1).f0.f0) ((rd_T66 l0 x7_1).f0.f1) ((rd_T66 l0 x7_1).f0.f2) ((rd_T66 l0 x7_1).f1.f0) ((rd_T66 l0 x7_1).f1.f1) ((rd_T66 l0 x7_1).f1.f2) true _ A5.out).mono ?_
             rintro e w39 ⟨rfl, hb⟩
             refine ⟨_, rfl, ?_⟩
             replace BK502 := Aside0.mk (blk_below (g := gb502) (o := .cells #[.bool ((rd_T66 l0 x7_1).f0.f0), .int .u64 ((rd_T66 l0 x7_1).f0.f1), .int .u64 ((rd_T66 l0 x7_1).f0.f2), .bool ((rd_T66 l0 x7_1).f1.f0), .int .u64 ((rd_T66 l0 x7_1).f1.f1), .int .u64 ((rd_T66 l0 x7_1).f1.f2)] 66 (0, 0)) (zK BK502) hb)
             replace HB := Aside0.mk (below_step (zB HB) hb)
             (try clear hb)
             refine hK.out _ _ ⟨zc BK502 0, zc BK502 1, zc BK502 2, zc BK502 3, zc BK502 4, zc BK502 5⟩ (fun hHeld => ?_)
             clear hK K
             refine zn 13 ?_; refine zp 2 14 HT_ ?_; refine zp 3 15 HT_ ?_; refine zp 4 16 HT_ ?_; refine zp 5 17 HT_ ?_; refine zp 6 18 HT_ ?_; refine zu 7 19 HT_ ?_; refine zu 8 20 HT_ ?_; refine zu 9 21 HT_ ?_; refine zu 10 22 HT_ ?_; refine zu 11 23 HT_ ?_; refine zu 12 24 HT_ ?_; refine zu 13 25 HT_ ?_; refine zu 14 26 HT_ ?_; refine zu 15 27 HT_ ?_; refine zu 16 28 HT_ ?_; refine zu 17 29 HT_ ?_; refine zu 18 30 HT_ ?_; refine zu 19 31 HT_ ?_; refine zu 20 32 HT_ ?_; refine zu 21 33 HT_ ?_; refine zu 22 34 HT_ ?_; refine zu 23 35 HT_ ?_; refine zu 24 36 HT_ ?_; refine zu 25 37 HT_ ?_; refine zp 26 38 HT_ ?_; refine zp 27 39 HT_ ?_; refine zd HT_ ?_
             try go_wp2
             go_roundg k1
             case measure => have := HK1.out; omega
             case rel => exact ⟨(wrap64 (x7_1 + 1)), (by first | rfl | (simp; done) | (simp [*]; done)), H', ⟨by have := HK1.out; omega⟩, ⟨zB HB⟩⟩
         · replace c6 := Bool.eq_false_iff.mpr c6
           subst c6
           rw [if_neg zF] at H
           obtain rfl := Option.some.inj H
           have p501 : 0 ≤ (x7_1 : Int) := za
           have q501 : x7_1 < (l0.length : Int) := za
           obtain ⟨ad501, e501, hx501_0, hx501_1, hx501_2, hx501_3, hx501_4, hx501_5⟩ := at_T66 HR0.out x7_1 p501 q501
           cases e501
           replace hx501_0 := zh HB hx501_0
           replace hx501_1 := zh HB hx501_1
           replace hx501_2 := zh HB hx501_2
           replace hx501_3 := zh HB hx501_3
           replace hx501_4 := zh HB hx501_4
           replace hx501_5 := zh HB hx501_5
           replace p501 := eq_true p501
           replace q501 := eq_true q501
           try go_wp2_with (first | ((with_reducible refine gate_dst (N := 4) rfl ?_); refine zx 4 #[.bool false, .int .u64 0, .int .u64 0, .bool false, .int .u64 0, .int .u64 0] 66 ?_; intro gb502 hg w40 hbox hb; have BK502 := Aside0.mk (hbox); have GW502 := Aside0.mk ((by rw [hg]; exact (below_size (zB HB)) : w.heap.size ≤ gb502)); have GE502 := Aside0.mk ((by rw [hg]; exact (below_size (zB HB)) : w.heap.size ≤ gb502)); replace HB := Aside0.mk (below_step (zB HB) hb); clear hb hbox hg; obtain ⟨hcz41_0, hcz41_1, hcz41_2, hcz41_3, hcz41_4, hcz41_5⟩ := zc6 BK502; obtain ⟨hfz41_0, hfz41_1, hfz41_2, hfz41_3, hfz41_4, hfz41_5⟩ := zf6 BK502))
           have n0_ : Aside0 (((((((w40.setCell ⟨gb502, 0, none⟩ (.bool ((rd_T66 l0 x7_1).f0.f0))).setCell ⟨gb502, 1, none⟩ (.int .u64 ((rd_T66 l0 x7_1).f0.f1))).setCell ⟨gb502, 2, none⟩ (.int .u64 ((rd_T66 l0 x7_1).f0.f2))).setCell ⟨gb502, 3, none⟩ (.bool ((rd_T66 l0 x7_1).f1.f0))).setCell ⟨gb502, 4, none⟩ (.int .u64 ((rd_T66 l0 x7_1).f1.f1))).setCell ⟨gb502, 5, none⟩ (.int .u64 ((rd_T66 l0 x7_1).f1.f2))).heap[gb502]? = some (.cells #[.bool ((rd_T66 l0 x7_1).f0.f0), .int .u64 ((rd_T66 l0 x7_1).f0.f1), .int .u64 ((rd_T66 l0 x7_1).f0.f2), .bool ((rd_T66 l0 x7_1).f1.f0), .int .u64 ((rd_T66 l0 x7_1).f1.f1), .int .u64 ((rd_T66 l0 x7_1).f1.f2)] 66 (0, 0))) := ⟨by refine zL ?_; refine blk_put (cs := #[.bool ((rd_T66 l0 x7_1).f0.f0), .int .u64 ((rd_T66 l0 x7_1).f0.f1), .int .u64 ((rd_T66 l0 x7_1).f0.f2), .bool ((rd_T66 l0 x7_1).f1.f0), .int .u64 ((rd_T66 l0 x7_1).f1.f1), .int .u64 0]) ?_ 5 _ rfl; refine zL ?_; refine blk_put (cs := #[.bool ((rd_T66 l0 x7_1).f0.f0), .int .u64 ((rd_T66 l0 x7_1).f0.f1), .int .u64 ((rd_T66 l0 x7_1).f0.f2), .bool ((rd_T66 l0 x7_1).f1.f0), .int .u64 0, .int .u64 0]) ?_ 4 _ rfl; refine zL ?_; refine blk_put (cs := #[.bool ((rd_T66 l0 x7_1).f0.f0), .int .u64 ((rd_T66 l0 x7_1).f0.f1), .int .u64 ((rd_T66 l0 x7_1).f0.f2), .bool false, .int .u64 0, .int .u64 0]) ?_ 3 _ rfl; refine zL ?_; refine blk_put (cs := #[.bool ((rd_T66 l0 x7_1).f0.f0), .int .u64 ((rd_T66 l0 x7_1).f0.f1), .int .u64 0, .bool false, .int .u64 0, .int .u64 0]) ?_ 2 _ rfl; refine zL ?_; refine blk_put (cs := #[.bool ((rd_T66 l0 x7_1).f0.f0), .int .u64 0, .int .u64 0, .bool false, .int .u64 0, .int .u64 0]) ?_ 1 _ rfl; refine zL ?_; refine blk_put (cs := #[.bool false, .int .u64 0, .int .u64 0, .bool false, .int .u64 0, .int .u64 0]) ?_ 0 _ rfl; refine zL ?_; exact BK502.out⟩
           have n1_ : Aside0 (Below w.heap.size w ((((((w40.setCell ⟨gb502, 0, none⟩ (.bool ((rd_T66 l0 x7_1).f0.f0))).setCell ⟨gb502, 1, none⟩ (.int .u64 ((rd_T66 l0 x7_1).f0.f1))).setCell ⟨gb502, 2, none⟩ (.int .u64 ((rd_T66 l0 x7_1).f0.f2))).setCell ⟨gb502, 3, none⟩ (.bool ((rd_T66 l0 x7_1).f1.f0))).setCell ⟨gb502, 4, none⟩ (.int .u64 ((rd_T66 l0 x7_1).f1.f1))).setCell ⟨gb502, 5, none⟩ (.int .u64 ((rd_T66 l0 x7_1).f1.f2)))) := ⟨zB HB⟩
           (try clear BK502)
           (try clear HB)
           generalize ((((((w40.setCell ⟨gb502, 0, none⟩ (.bool ((rd_T66 l0 x7_1).f0.f0))).setCell ⟨gb502, 1, none⟩ (.int .u64 ((rd_T66 l0 x7_1).f0.f1))).setCell ⟨gb502, 2, none⟩ (.int .u64 ((rd_T66 l0 x7_1).f0.f2))).setCell ⟨gb502, 3, none⟩ (.bool ((rd_T66 l0 x7_1).f1.f0))).setCell ⟨gb502, 4, none⟩ (.int .u64 ((rd_T66 l0 x7_1).f1.f1))).setCell ⟨gb502, 5, none⟩ (.int .u64 ((rd_T66 l0 x7_1).f1.f2))) = w42 at n0_ n1_ ⊢
           have BK502 := n0_
           have HB := n1_
           clear n0_ n1_
           replace BK502 := Aside0.mk (blk_drew BK502.out)
           replace HB := Aside0.mk (below_drew1 HB.out)
           refine start_ (n := 28) (S := fun w' => w'.cell? ⟨gb502, 0, none⟩ = some (.bool ((rd_T66 l0 x7_1).f0.f0)) ∧ w'.cell? ⟨gb502, 1, none⟩ = some (.int .u64 ((rd_T66 l0 x7_1).f0.f1)) ∧ w'.cell? ⟨gb502, 2, none⟩ = some (.int .u64 ((rd_T66 l0 x7_1).f0.f2)) ∧ w'.cell? ⟨gb502, 3, none⟩ = some (.bool ((rd_T66 l0 x7_1).f1.f0)) ∧ w'.cell? ⟨gb502, 4, none⟩ = some (.int .u64 ((rd_T66 l0 x7_1).f1.f1)) ∧ w'.cell? ⟨gb502, 5, none⟩ = some (.int .u64 ((rd_T66 l0 x7_1).f1.f2))) (ds := []) #[false, false, false, false, false, false, false, false, false, false, false, false, false, false, false, false, false, false, false, false, false, false, false, false, false, false, false, false] (by kernel_rfl) rfl rfl ⟨zc BK502 0, zc BK502 1, zc BK502 2, zc BK502 3, zc BK502 4, zc BK502 5⟩ (fun hHeld => ?_); refine with_tabW addrset_Valid.tab4 addrset_Valid.bits4 (fun HT_ HW_ => ?_)
           generalize w42.drew = w43 at BK502 HB hHeld ⊢
           refine zt 0 12 HT_ HW_ hHeld ?_; refine zo 1 13 HT_ (fun K hK => ?_)
           refine zg Try.func71 #[.agg #[.bool ((rd_T66 l0 x7_1).f0.f0), .int .u64 ((rd_T66 l0 x7_1).f0.f1), .int .u64 ((rd_T66 l0 x7_1).f0.f2), .bool ((rd_T66 l0 x7_1).f1.f0), .int .u64 ((rd_T66 l0 x7_1).f1.f1), .int .u64 ((rd_T66 l0 x7_1).f1.f2)]] ?_
           with_reducible refine (addrset_some.calls ((rd_T66 l0 x7_1).f0.f0) ((rd_T66 l0 x7_1).f0.f1) ((rd_T66 l0 x7_1).f0.f2) ((rd_T66 l0 x7_1).f1.f0) ((rd_T66 l0 x7_1).f1.f1) ((rd_T66 l0 x7_1).f1.f2) false _ A5.out).mono ?_
           rintro e w44 ⟨rfl, hb⟩
           refine ⟨_, rfl, ?_⟩
           replace BK502 := Aside0.mk (blk_below (g := gb502) (o := .cells #[.bool ((rd_T66 l0 x7_1).f0.f0), .int .u64 ((rd_T66 l0 x7_1).f0.f1), .int .u64 ((rd_T66 l0 x7_1).f0.f2), .bool ((rd_T66 l0 x7_1).f1.f0), .int .u64 ((rd_T66 l0 x7_1).f1.f1), .int .u64 ((rd_T66 l0 x7_1).f1.f2)] 66 (0, 0)) (zK BK502) hb)
           replace HB := Aside0.mk (below_step (zB HB) hb)
           (try clear hb)
           refine hK.out _ _ ⟨zc BK502 0, zc BK502 1, zc BK502 2, zc BK502 3, zc BK502 4, zc BK502 5⟩ (fun hHeld => ?_)
           clear hK K
           refine zn 13 ?_; refine zp 2 14 HT_ ?_; refine zp 3 15 HT_ ?_; refine zu 4 16 HT_ ?_; refine zu 5 17 HT_ ?_; refine zu 6 18 HT_ ?_; refine zu 7 19 HT_ ?_; refine zu 8 20 HT_ ?_; refine zu 9 21 HT_ ?_; refine zu 10 22 HT_ ?_; refine zu 11 23 HT_ ?_; refine zu 12 24 HT_ ?_; refine zu 13 25 HT_ ?_; refine zu 14 26 HT_ ?_; refine zu 15 27 HT_ ?_; refine zu 16 28 HT_ ?_; refine zu 17 29 HT_ ?_; refine zu 18 30 HT_ ?_; refine zu 19 31 HT_ ?_; refine zu 20 32 HT_ ?_; refine zu 21 33 HT_ ?_; refine zu 22 34 HT_ ?_; refine zu 23 35 HT_ ?_; refine zu 24 36 HT_ ?_; refine zu 25 37 HT_ ?_; refine zu 26 38 HT_ ?_; refine zp 27 39 HT_ ?_; refine zd HT_ ?_
           try go_wp2
           go_ret
           exact ⟨by first | rfl | (simp [errW_none, errW_some] <;> rfl) | (simp [*, errW_none, errW_some] <;> rfl), by repeat (first | (with_reducible first | exact HB.out | apply below_alloc | apply pw_below_drewN | apply below_drew1 | refine below_set ?_ GE502.out) | exact HB.out)⟩
       · rw [if_neg c4] at H
         exact absurd H (by simp)
     · rw [if_neg c3] at H
       exact absurd H (by simp)
   · rw [if_neg c2] at H
     have c2b0 : decide (x7_1 < (l0.length : Int)) = false := decide_eq_false c2
     clear c2
     obtain rfl := Option.some.inj H
     go_wp2
     go_ret
     exact ⟨by first | rfl | (simp [errW_none, errW_some] <;> rfl) | (simp [*, errW_none, errW_some] <;> rfl), by repeat (first | (with_reducible first | exact HB.out | apply below_alloc | apply pw_below_drewN | apply below_drew1) | exact HB.out)⟩
end Go.Proofs.Ytcgfpffgiimgmaa.Q
end

section
namespace Go.Proofs.Ytcgfpffgiimgmaa.Q
open Go.RowKit Go.Proofs.YtcgfpffgiimgmaaW.PrintWords Go.Proofs.YtcgfpffgiimgmaaW.PrintLast Go.Proofs.YtcgfpffgiimgmaaW.PrintMore
attribute [local go_sem] max2_int min2_int max_two min_two max_three min_three max_four min_four
set_option linter.unusedVariables false
set_option linter.unusedSimpArgs false
def addrset_All.f  : Option ((List (S66))) := some (([(⟨(⟨false, 0, 0⟩ : S36), (⟨false, 0, 4294967295⟩ : S36)⟩ : S66), (⟨(⟨true, 0, 0⟩ : S36), (⟨true, 18446744073709551615, 18446744073709551615⟩ : S36)⟩ : S66)] : List (S66)))
set_option maxHeartbeats 8000000 in
set_option maxRecDepth 100000 in
theorem addrset_All.calls  (r : List (S66)) (w : World) (h : addrset_All.f  = some r) :
 Calls Try.prog 44 #[] w fun e w' => ∃ v0_ : Value, e = .returned (v0_) ∧ Kd.R k66 66 w' w.heap.size (fun _ => True) v0_ r ∧ Below w.heap.size w w' := by
 have hu36 := Try.underlying36
 have hu66 := Try.underlying66
 have HB := Aside0.mk (Below.refl w.heap.size w)
 unfold addrset_All.f at h; have H := h
 clear h
 obtain ⟨y508, hy508⟩ : ∃ y_ : List (S66), y_ = (([(⟨(⟨false, 0, 0⟩ : S36), (⟨false, 0, 4294967295⟩ : S36)⟩ : S66), (⟨(⟨true, 0, 0⟩ : S36), (⟨true, 18446744073709551615, 18446744073709551615⟩ : S36)⟩ : S66)] : List (S66))) := ⟨_, rfl⟩
 rw [← hy508] at H; try dsimp only [Option.bind_some] at H
 have Ny508 := Aside0.mk hy508
 clear hy508
 obtain rfl := Option.some.inj H
 go_enter Try.func44, Try.ntmps44
 go_wp2_with (first | ((with_reducible refine gate_dst (N := 6) rfl ?_); refine Kd.R_lit k66 _ 66 ?hg (N := 6) ?hd (xs := ([(⟨(⟨false, 0, 0⟩ : S36), (⟨false, 0, 4294967295⟩ : S36)⟩ : S66), (⟨(⟨true, 0, 0⟩ : S36), (⟨true, 18446744073709551615, 18446744073709551615⟩ : S36)⟩ : S66)] : List (S66))) (inner := [.bool false, .int .u64 0, .int .u64 0, .bool false, .int .u64 0, .int .u64 4294967295, .bool true, .int .u64 0, .int .u64 0, .bool true, .int .u64 18446744073709551615, .int .u64 18446744073709551615]) (ok := fun _ => True) (okp := fun _ => True) ?hr ?hp (fun _ hk => hk) trivial (Below.refl _ _) (Nat.le_refl _) (by simp) ?_; (case hd => rfl); (case hg => rfl); (case hr => first | (go_simp; done) | (go_simp; rfl)); (case hp => exact (Reps.c6 (show Kd.M k66 _ _ _ (⟨(⟨false, 0, 0⟩ : S36), (⟨false, 0, 4294967295⟩ : S36)⟩ : S66) [.bool false, .int .u64 0, .int .u64 0, .bool false, .int .u64 0, .int .u64 4294967295] from (k66_mkM _ _ _ (⟨(⟨false, 0, 0⟩ : S36), (⟨false, 0, 4294967295⟩ : S36)⟩ : S66) )) (Reps.c6 (show Kd.M k66 _ _ _ (⟨(⟨true, 0, 0⟩ : S36), (⟨true, 18446744073709551615, 18446744073709551615⟩ : S36)⟩ : S66) [.bool true, .int .u64 0, .int .u64 0, .bool true, .int .u64 18446744073709551615, .int .u64 18446744073709551615] from (k66_mkM _ _ _ (⟨(⟨true, 0, 0⟩ : S36), (⟨true, 18446744073709551615, 18446744073709551615⟩ : S36)⟩ : S66) )) (Reps.none _ _)))); intro v509 w1 ho2 hb hg_ hnew_; clear hg_ hnew_; (first | rw [← Ny508.out] at ho2 | (simp only [Int.reduceToNat] at ho2; rw [← Ny508.out] at ho2)); have HO510 := Aside0.mk (Kd.R_lower ho2 (below_size (zB HB))); replace HB := Aside0.mk (below_step (zB HB) hb); clear hb ho2))
 go_ret
 exact ⟨_, by first | rfl | (simp [errW_none, errW_some] <;> rfl) | (simp [*, errW_none, errW_some] <;> rfl), by (with_reducible repeat (first | apply Kd.R_alloc | apply Kd.R_drewN | apply Kd.R_drew)); exact HO510.out, by repeat (first | (with_reducible first | exact HB.out | apply below_alloc | apply pw_below_drewN | apply below_drew1) | exact HB.out)⟩
end Go.Proofs.Ytcgfpffgiimgmaa.Q
end

section
namespace Go.Proofs.Ytcgfpffgiimgmaa.Q
open Go.RowKit Go.Proofs.YtcgfpffgiimgmaaW.PrintWords Go.Proofs.YtcgfpffgiimgmaaW.PrintLast Go.Proofs.YtcgfpffgiimgmaaW.PrintMore
attribute [local go_sem] max2_int min2_int max_two min_two max_three min_three max_four min_four
set_option linter.unusedVariables false
set_option linter.unusedSimpArgs false
def intrusionlaw07_ip.f (a0 : Int) : Option (Bool × Int × Int) := some (false, 0, IntKind.u64.wrap (167772160 + a0))
set_option maxHeartbeats 8000000 in
set_option maxRecDepth 100000 in
theorem intrusionlaw07_ip.calls (a0 : Int) (r1 : Bool) (r2 : Int) (r3 : Int) (w : World) (h : intrusionlaw07_ip.f a0 = some (r1, r2, r3)) :
 Calls Try.prog 70 #[.int .u64 a0] w fun e w' => e = .returned (.agg #[.bool r1, .int .u64 r2, .int .u64 r3]) ∧ Below w.heap.size w w' := by
 have hu36 := Try.underlying36
 have HB := Aside0.mk (Below.refl w.heap.size w)
 unfold intrusionlaw07_ip.f at h; have H := h
 clear h
 simp only [Option.some.injEq, Prod.mk.injEq] at H
 obtain ⟨rfl, rfl, rfl⟩ := H
 go_enter Try.func70, Try.ntmps70
 go_wp2_with (first | ((with_reducible refine gate_dst (N := 2) rfl ?_); refine zx 2 #[.bool false, .int .u64 0, .int .u64 0] 36 ?_; intro gb543 hg w2 hbox hb; have BK543 := Aside0.mk (hbox); have GW543 := Aside0.mk ((by rw [hg]; exact (below_size (zB HB)) : w.heap.size ≤ gb543)); have GE543 := Aside0.mk ((by rw [hg]; exact (below_size (zB HB)) : w.heap.size ≤ gb543)); replace HB := Aside0.mk (below_step (zB HB) hb); clear hb hbox hg; obtain ⟨hcz3_0, hcz3_1, hcz3_2⟩ := zc3 BK543; obtain ⟨hfz3_0, hfz3_1, hfz3_2⟩ := zf3 BK543))
 refine bodyPost_ret (results_cell_row rfl _ _ gb543 36 #[.bool false, .int .u64 0, .int .u64 (IntKind.u64.wrap (167772160 + a0))] (0, 0) _ rfl (by refine zL ?_; refine blk_put (cs := #[.bool false, .int .u64 0, .int .u64 0]) ?_ 2 _ rfl; refine zL ?_; refine blk_put (cs := #[.bool false, .int .u64 0, .int .u64 0]) ?_ 1 _ rfl; refine zL ?_; refine blk_put (cs := #[.bool false, .int .u64 0, .int .u64 0]) ?_ 0 _ rfl; refine zL ?_; exact BK543.out) Try.underlying36 rfl (by kernel_rfl)) rfl ?_
 exact ⟨by first | rfl | (simp [errW_none, errW_some] <;> rfl) | (simp [*, errW_none, errW_some] <;> rfl), by repeat (first | (with_reducible first | exact HB.out | apply below_alloc | apply pw_below_drewN | apply below_drew1 | refine below_set ?_ GE543.out) | exact HB.out)⟩
end Go.Proofs.Ytcgfpffgiimgmaa.Q
end

section
namespace Go.Proofs.Ytcgfpffgiimgmaa.Q
open Go.RowKit Go.Proofs.YtcgfpffgiimgmaaW.PrintWords Go.Proofs.YtcgfpffgiimgmaaW.PrintLast Go.Proofs.YtcgfpffgiimgmaaW.PrintMore
attribute [local go_sem] max2_int min2_int max_two min_two max_three min_three max_four min_four
set_option linter.unusedVariables false
set_option linter.unusedSimpArgs false
def address_size.f (a0_0 : Bool) (a0_1 : Int) (a0_2 : Int) : Option (Int) := if a0_0 = true then (some 128) else (some 32)
set_option maxHeartbeats 8000000 in
set_option maxRecDepth 100000 in
theorem address_size.calls (a0_0 : Bool) (a0_1 : Int) (a0_2 : Int) (r : Int) (w : World) (h : address_size.f a0_0 a0_1 a0_2 = some r) :
 Calls Try.prog 113 #[.agg #[.bool a0_0, .int .u64 a0_1, .int .u64 a0_2]] w fun e w' => e = .returned (.int .i64 r) ∧ Below w.heap.size w w' := by
 have hu36 := Try.underlying36
 have HB := Aside0.mk (Below.refl w.heap.size w)
 unfold address_size.f at h; have H := h
 clear h
 by_cases c2 : a0_0 = true
 · subst c2
   rw [if_pos rfl] at H
   obtain rfl := Option.some.inj H
   go_enter Try.func113, Try.ntmps113
   go_wp2_with (first | ((with_reducible refine gate_dst (N := 1) rfl ?_); refine zx 1 #[.bool true, .int .u64 a0_1, .int .u64 a0_2] 36 ?_; intro gb511 hg w3 hbox hb; have BK511 := Aside0.mk (hbox); have GW511 := Aside0.mk ((by rw [hg]; exact (below_size (zB HB)) : w.heap.size ≤ gb511)); have GE511 := Aside0.mk ((by rw [hg]; exact (below_size (zB HB)) : w.heap.size ≤ gb511)); replace HB := Aside0.mk (below_step (zB HB) hb); clear hb hbox hg; obtain ⟨hcz4_0, hcz4_1, hcz4_2⟩ := zc3 BK511; obtain ⟨hfz4_0, hfz4_1, hfz4_2⟩ := zf3 BK511))
   go_ret
   exact ⟨by first | rfl | (simp [errW_none, errW_some] <;> rfl) | (simp [*, errW_none, errW_some] <;> rfl), by repeat (first | (with_reducible first | exact HB.out | apply below_alloc | apply pw_below_drewN | apply below_drew1 | refine below_set ?_ GE511.out) | exact HB.out)⟩
 · replace c2 := Bool.eq_false_iff.mpr c2
   subst c2
   rw [if_neg zF] at H
   obtain rfl := Option.some.inj H
   go_enter Try.func113, Try.ntmps113
   go_wp2_with (first | ((with_reducible refine gate_dst (N := 1) rfl ?_); refine zx 1 #[.bool false, .int .u64 a0_1, .int .u64 a0_2] 36 ?_; intro gb511 hg w5 hbox hb; have BK511 := Aside0.mk (hbox); have GW511 := Aside0.mk ((by rw [hg]; exact (below_size (zB HB)) : w.heap.size ≤ gb511)); have GE511 := Aside0.mk ((by rw [hg]; exact (below_size (zB HB)) : w.heap.size ≤ gb511)); replace HB := Aside0.mk (below_step (zB HB) hb); clear hb hbox hg; obtain ⟨hcz6_0, hcz6_1, hcz6_2⟩ := zc3 BK511; obtain ⟨hfz6_0, hfz6_1, hfz6_2⟩ := zf3 BK511))
   go_ret
   exact ⟨by first | rfl | (simp [errW_none, errW_some] <;> rfl) | (simp [*, errW_none, errW_some] <;> rfl), by repeat (first | (with_reducible first | exact HB.out | apply below_alloc | apply pw_below_drewN | apply below_drew1 | refine below_set ?_ GE511.out) | exact HB.out)⟩
end Go.Proofs.Ytcgfpffgiimgmaa.Q
end

section
namespace Go.Proofs.Ytcgfpffgiimgmaa.Q
open Go.RowKit Go.Proofs.YtcgfpffgiimgmaaW.PrintWords Go.Proofs.YtcgfpffgiimgmaaW.PrintLast Go.Proofs.YtcgfpffgiimgmaaW.PrintMore
attribute [local go_sem] max2_int min2_int max_two min_two max_three min_three max_four min_four
set_option linter.unusedVariables false
set_option linter.unusedSimpArgs false
def address_low.f (a0 : Int) : Option (Int) := if a0 ≥ 64 then (some 18446744073709551615) else (if a0 ≤ 0 then (some 0) else (if 0 ≤ a0 then (some (IntKind.u64.wrap ((shl .u64 1 a0) - 1))) else (none)))
set_option maxHeartbeats 8000000 in
set_option maxRecDepth 100000 in
theorem address_low.calls (a0 : Int) (r : Int) (w : World) (h : address_low.f a0 = some r) :
 Calls Try.prog 135 #[.int .i64 a0] w fun e w' => e = .returned (.int .u64 r) ∧ Drawn0 w w' := by
 unfold address_low.f at h; have H := h
 clear h
 by_cases c2 : a0 ≥ 64
 · rw [if_pos c2] at H
   have c2b0 : decide (64 ≤ a0) = true := decide_eq_true c2
   clear c2
   obtain rfl := Option.some.inj H
   go_enter Try.func135, Try.ntmps135
   go_wp2
   go_ret
   exact ⟨by first | rfl | (simp; done) | (simp [*]; done), by repeat (first | exact Drawn0.refl _ | apply Drawn0.step)⟩
 · rw [if_neg c2] at H
   have c2b0 : decide (64 ≤ a0) = false := decide_eq_false c2
   clear c2
   by_cases c3 : a0 ≤ 0
   · rw [if_pos c3] at H
     have c3b0 : decide (a0 ≤ 0) = true := decide_eq_true c3
     clear c3
     obtain rfl := Option.some.inj H
     go_enter Try.func135, Try.ntmps135
     go_wp2
     go_ret
     exact ⟨by first | rfl | (simp; done) | (simp [*]; done), by repeat (first | exact Drawn0.refl _ | apply Drawn0.step)⟩
   · rw [if_neg c3] at H
     have c3b0 : decide (a0 ≤ 0) = false := decide_eq_false c3
     clear c3
     by_cases c4 : 0 ≤ a0
     · rw [if_pos c4] at H
       have c4b0 := eq_true c4
       have c4b1 : decide (0 ≤ a0) = true := decide_eq_true c4
       clear c4
       obtain ⟨ji5, hji5⟩ : ∃ j_ : Int, (shl .u64 1 a0) = j_ := ⟨_, rfl⟩
       replace H : (some (IntKind.u64.wrap ((ji5) - 1))) = some r := by first | (rw [hji5] at H; exact H) | (simp only [hji5] at H ⊢; exact H)
       have hji5_ : (IntKind.u64.wrap (1 * 2 ^ min a0.toNat 64)) = ji5 := hji5
       have hji5z : a0 ≤ 64 → (IntKind.u64.wrap (1 * 2 ^ a0.toNat)) = ji5 := shl_small hji5
       have hji5u : (IntKind.u64.wrap (2 ^ min a0.toNat 64)) = ji5 := by have h_ := hji5_; rw [Int.one_mul] at h_; exact h_
       have hji5v : a0 ≤ 64 → (IntKind.u64.wrap (2 ^ a0.toNat)) = ji5 := fun hle_ => by have h_ := hji5z hle_; rw [Int.one_mul] at h_; exact h_
       obtain rfl := Option.some.inj H
       go_enter Try.func135, Try.ntmps135
       go_wp2
       go_ret
       exact ⟨by first | rfl | (simp; done) | (simp only [← hji5] <;> (first | rfl | simp)) | (simp [*]; done), by repeat (first | exact Drawn0.refl _ | apply Drawn0.step)⟩
     · rw [if_neg c4] at H
       exact absurd H (by simp)
end Go.Proofs.Ytcgfpffgiimgmaa.Q
end

section
namespace Go.Proofs.Ytcgfpffgiimgmaa.Q
open Go.RowKit Go.Proofs.YtcgfpffgiimgmaaW.PrintWords Go.Proofs.YtcgfpffgiimgmaaW.PrintLast Go.Proofs.YtcgfpffgiimgmaaW.PrintMore
attribute [local go_sem] max2_int min2_int max_two min_two max_three min_three max_four min_four
set_option linter.unusedVariables false
set_option linter.unusedSimpArgs false
def address_mask.f (a0_0 : Bool) (a0_1 : Int) (a0_2 : Int) (a1 : Int) : Option (Int × Int) := (address_size.f a0_0 a0_1 a0_2).bind fun t513 => ((address_low.f (wrap64 ((wrap64 (t513 - a1)) - 64))).bind fun t514 => ((address_low.f (wrap64 (t513 - a1))).bind fun t515 => (some (t514, t515))))
set_option maxHeartbeats 8000000 in
set_option maxRecDepth 100000 in
theorem address_mask.calls (a0_0 : Bool) (a0_1 : Int) (a0_2 : Int) (a1 : Int) (r1 : Int) (r2 : Int) (w : World) (h : address_mask.f a0_0 a0_1 a0_2 a1 = some (r1, r2)) :
 Calls Try.prog 109 #[.agg #[.bool a0_0, .int .u64 a0_1, .int .u64 a0_2], .int .i64 a1] w fun e w' => e = .returned (.tuple #[.int .u64 r1, .int .u64 r2]) ∧ Below w.heap.size w w' := by
 have hu36 := Try.underlying36
 have HB := Aside0.mk (Below.refl w.heap.size w)
 unfold address_mask.f at h; have H := h
 clear h
 replace H := Option.bind_eq_some_iff.mp H
 obtain ⟨t513, A30, H⟩ := H
 replace H : ((address_low.f (wrap64 ((wrap64 (t513 - a1)) - 64))).bind fun t514 => ((address_low.f (wrap64 (t513 - a1))).bind fun t515 => (some (t514, t515)))) = some (r1, r2) := H
 have A3 := Aside0.mk A30
 clear A30
 replace H := Option.bind_eq_some_iff.mp H
 obtain ⟨t514, A40, H⟩ := H
 replace H : ((address_low.f (wrap64 (t513 - a1))).bind fun t515 => (some (t514, t515))) = some (r1, r2) := H
 have A4 := Aside0.mk A40
 clear A40
 replace H := Option.bind_eq_some_iff.mp H
 obtain ⟨t515, A50, H⟩ := H
 replace H : (some (t514, t515)) = some (r1, r2) := H
 have A5 := Aside0.mk A50
 clear A50
 simp only [Option.some.injEq, Prod.mk.injEq] at H
 obtain ⟨rfl, rfl⟩ := H
 go_enter Try.func109, Try.ntmps109
 go_wp2_with (first | ((with_reducible refine gate_dst (N := 2) rfl ?_); refine zx 2 #[.bool a0_0, .int .u64 a0_1, .int .u64 a0_2] 36 ?_; intro gb512 hg w6 hbox hb; have BK512 := Aside0.mk (hbox); have GW512 := Aside0.mk ((by rw [hg]; exact (below_size (zB HB)) : w.heap.size ≤ gb512)); have GE512 := Aside0.mk ((by rw [hg]; exact (below_size (zB HB)) : w.heap.size ≤ gb512)); replace HB := Aside0.mk (below_step (zB HB) hb); clear hb hbox hg; obtain ⟨hcz7_0, hcz7_1, hcz7_2⟩ := zc3 BK512; obtain ⟨hfz7_0, hfz7_1, hfz7_2⟩ := zf3 BK512) | ((with_reducible refine gate_callee (f := 113) rfl ?_); refine goesL_ (some 8) rfl rfl Try.func113 (by kernel_rfl) rfl #[.agg #[.bool a0_0, .int .u64 a0_1, .int .u64 a0_2]] rfl (by (try simp only [List.map_toArray, List.map_cons, List.map_nil]); first | done | rfl | (simp only [List.length_drop, List.length_take]; rfl)) ?_; (with_reducible refine (address_size.calls a0_0 a0_1 a0_2 t513 _ A3.out).mono ?_); rintro e w8 ⟨rfl, hb⟩; refine ⟨_, rfl, ?_⟩; replace BK512 := Aside0.mk (blk_below (g := gb512) (o := .cells #[.bool a0_0, .int .u64 a0_1, .int .u64 a0_2] 36 (0, 0)) (zK BK512) hb); replace HB := Aside0.mk (below_step (zB HB) hb); (try clear hb)) | ((with_reducible refine gate_callee (f := 135) rfl ?_); refine goesL_ (some 13) rfl rfl Try.func135 (by kernel_rfl) rfl #[.int .i64 (wrap64 ((wrap64 (t513 - a1)) - 64))] rfl (by (try simp only [List.map_toArray, List.map_cons, List.map_nil]); first | done | rfl | (simp only [List.length_drop, List.length_take]; rfl)) ?_; (with_reducible refine (address_low.calls (wrap64 ((wrap64 (t513 - a1)) - 64)) t514 _ A4.out).mono ?_); rintro e w' ⟨rfl, ⟨nd, rfl⟩⟩; refine ⟨_, rfl, ?_⟩) | ((with_reducible refine gate_callee (f := 135) rfl ?_); refine goesL_ (some 15) rfl rfl Try.func135 (by kernel_rfl) rfl #[.int .i64 (wrap64 (t513 - a1))] rfl (by (try simp only [List.map_toArray, List.map_cons, List.map_nil]); first | done | rfl | (simp only [List.length_drop, List.length_take]; rfl)) ?_; (with_reducible refine (address_low.calls (wrap64 (t513 - a1)) t515 _ A5.out).mono ?_); rintro e w' ⟨rfl, ⟨nd, rfl⟩⟩; refine ⟨_, rfl, ?_⟩))
 go_ret2
 exact ⟨by first | rfl | (simp [errW_none, errW_some] <;> rfl) | (simp [*, errW_none, errW_some] <;> rfl), by repeat (first | (with_reducible first | exact HB.out | apply below_alloc | apply pw_below_drewN | apply below_drew1 | refine below_set ?_ GE512.out) | exact HB.out)⟩
end Go.Proofs.Ytcgfpffgiimgmaa.Q
end

section
set_option linter.unusedVariables false
set_option linter.unusedSimpArgs false
namespace Go.Proofs.Ytcgfpffgiimgmaa.Q
open Go.RowKit Go.Proofs.YtcgfpffgiimgmaaW.PrintWords Go.Proofs.YtcgfpffgiimgmaaW.PrintLast Go.Proofs.YtcgfpffgiimgmaaW.PrintMore
def intrusionref07_After.f (a0_0 : Bool) (a0_1 : Int) (a0_2 : Int) : Option (Bool × Int × Int) := some (a0_0, (if IntKind.u64.wrap (a0_2 + 1) = 0 then IntKind.u64.wrap (a0_1 + 1) else a0_1), IntKind.u64.wrap (a0_2 + 1))
def intrusionref07_Ahead.f (a0_0 : Bool) (a0_1 : Int) (a0_2 : Int) : Option (Bool × Int × Int) := some (a0_0, (if a0_2 = 0 then IntKind.u64.wrap (a0_1 - 1) else a0_1), IntKind.u64.wrap (a0_2 - 1))
set_option maxHeartbeats 1000000 in
set_option maxRecDepth 100000 in
theorem intrusionref07_After.calls (a0_0 : Bool) (a0_1 : Int) (a0_2 : Int) (r1 : Bool) (r2 : Int) (r3 : Int) (w : World) (h : intrusionref07_After.f a0_0 a0_1 a0_2 = some (r1, r2, r3)) :
    Calls Try.prog 91 #[.agg #[.bool a0_0, .int .u64 a0_1, .int .u64 a0_2]] w fun e w' => e = .returned (.agg #[.bool r1, .int .u64 r2, .int .u64 r3]) ∧ Below w.heap.size w w' := by
  unfold intrusionref07_After.f at h
  injection h with h
  injection h with h1 h
  injection h with h2 h3
  subst h1 h3
  have hu := Try.underlying36
  by_cases c : IntKind.u64.wrap (a0_2 + 1) = 0
  · rw [if_pos c] at h2
    subst h2
    have c1 : (IntKind.u64.wrap (a0_2 + 1) == 0) = true := beq_iff_eq.mpr c
    clear c
    go_enter Try.func91, Try.ntmps91
    go_wp2
    exact bodyPost_ret (v := .agg #[.bool a0_0, .int .u64 (IntKind.u64.wrap (a0_1 + 1)), .int .u64 (IntKind.u64.wrap (a0_2 + 1))]) (by simp [results, Try.results91, go_sem]) rfl ⟨rfl, below_alloc (below_alloc (below_alloc (Below.refl _ _) _) _) _⟩
  · rw [if_neg c] at h2
    subst h2
    have c1 : (IntKind.u64.wrap (a0_2 + 1) == 0) = false := beq_eq_false_iff_ne.mpr c
    clear c
    go_enter Try.func91, Try.ntmps91
    go_wp2
    exact bodyPost_ret (v := .agg #[.bool a0_0, .int .u64 a0_1, .int .u64 (IntKind.u64.wrap (a0_2 + 1))]) (by simp [results, Try.results91, go_sem]) rfl ⟨rfl, below_alloc (below_alloc (below_alloc (Below.refl _ _) _) _) _⟩
theorem bcell {W w1 : World} (hb : Below W.heap.size W w1) : (∀ b o, b < W.heap.size → w1.cell? ⟨b, o, none⟩ = W.cell? ⟨b, o, none⟩) ∧ (∀ b o, b < W.heap.size → w1.frozen? ⟨b, o, none⟩ = W.frozen? ⟨b, o, none⟩) :=
  ⟨fun b o h => hb.cell (p := ⟨b, o, none⟩) h, fun b o h => hb.frozen (p := ⟨b, o, none⟩) h⟩
def address_Bounds.f (a0_0 : Bool) (a0_1 : Int) (a0_2 : Int) (a0_3 : Int) : Option (Bool × Int × Int × Bool × Int × Int) := (address_mask.f a0_0 a0_1 a0_2 a0_3).bind fun bt => some (a0_0, a0_1, a0_2, a0_0, Go.bits .or .u64 a0_1 bt.1, Go.bits .or .u64 a0_2 bt.2)
set_option maxHeartbeats 1000000 in
set_option maxRecDepth 100000 in
theorem address_Bounds.calls (a0_0 : Bool) (a0_1 : Int) (a0_2 : Int) (a0_3 : Int) (r1 : Bool) (r2 : Int) (r3 : Int) (r4 : Bool) (r5 : Int) (r6 : Int) (w : World) (h : address_Bounds.f a0_0 a0_1 a0_2 a0_3 = some (r1, r2, r3, r4, r5, r6)) :
    Calls Try.prog 87 #[.agg #[.bool a0_0, .int .u64 a0_1, .int .u64 a0_2, .int .i64 a0_3]] w fun e w' => e = .returned (.agg #[.bool r1, .int .u64 r2, .int .u64 r3, .bool r4, .int .u64 r5, .int .u64 r6]) ∧ Below w.heap.size w w' := by
  unfold address_Bounds.f at h
  obtain ⟨⟨hi, lo⟩, A, h⟩ := Option.bind_eq_some_iff.1 h
  simp only [Option.some.injEq, Prod.mk.injEq] at h
  obtain ⟨rfl, rfl, rfl, rfl, rfl, rfl⟩ := h
  have hu45 := Try.underlying45
  have hu66 := Try.underlying66
  have hu36 := Try.underlying36
  have HA := Aside0.mk A
  clear A
  go_enter Try.func87, Try.ntmps87
  go_wp2_with (go_at_call 109; refine (address_mask.calls a0_0 a0_1 a0_2 a0_3 hi lo _ HA.out).mono ?_; rintro e w2 ⟨rfl, hb⟩; obtain ⟨hc, hf⟩ := bcell hb; have hz : w.heap.size + 1 < w2.heap.size := (by have := hb.size; simp at this; omega); have hz0 : w.heap.size < w2.heap.size := Nat.lt_trans (Nat.lt_succ_self _) hz; have hn : (w.heap.size = w2.heap.size) = False := eq_false (Nat.ne_of_lt hz0); have HB := Aside0.mk hb; clear hb)
  have HS : Aside0 (w.heap.size ≤ w.heap.size + 1) := ⟨Nat.le_succ _⟩
  have HZ := Aside0.mk hz
  exact bodyPost_ret (v := .agg #[.bool a0_0, .int .u64 a0_1, .int .u64 a0_2, .bool a0_0, .int .u64 (Go.bits .or .u64 a0_1 hi), .int .u64 (Go.bits .or .u64 a0_2 lo)]) (by simp [results, Try.results87, go_sem, hc, hz]) rfl ⟨rfl, by repeat (first | (with_reducible apply below_alloc) | (with_reducible refine Below.setCell ?_ HS.out _) | exact (below_alloc (below_alloc (Below.refl _ _) _) _).trans (HB.out.mono (by simp; omega)))⟩
def addrset_less.f (a0_0 : Bool) (a0_1 : Int) (a0_2 : Int) (a1_0 : Bool) (a1_1 : Int) (a1_2 : Int) : Option (Bool × Int × Int) := (address_Compare.f a0_0 a0_1 a0_2 a1_0 a1_1 a1_2).bind fun t => if t ≤ 0 then some (a0_0, a0_1, a0_2) else some (a1_0, a1_1, a1_2)
end Go.Proofs.Ytcgfpffgiimgmaa.Q
end

section
namespace Go.Proofs.Ytcgfpffgiimgmaa.Q
open Go.RowKit Go.Proofs.YtcgfpffgiimgmaaW.PrintWords Go.Proofs.YtcgfpffgiimgmaaW.PrintLast Go.Proofs.YtcgfpffgiimgmaaW.PrintMore
attribute [local go_sem] max2_int min2_int max_two min_two max_three min_three max_four min_four
set_option linter.unusedVariables false
set_option linter.unusedSimpArgs false
def address_MakePrefix.f (a0_0 : Bool) (a0_1 : Int) (a0_2 : Int) (a1 : Int) : Option (Bool × Int × Int × Int × Int) := if a1 < 0 then (some (false, 0, 0, 0, 4)) else ((address_size.f a0_0 a0_1 a0_2).bind fun t518 => (if a1 > t518 then (some (false, 0, 0, 0, 4)) else ((address_mask.f a0_0 a0_1 a0_2 a1).bind fun bt519 => (some (a0_0, Go.bits .andNot .u64 a0_1 bt519.1, Go.bits .andNot .u64 a0_2 bt519.2, a1, 0)))))
set_option maxHeartbeats 8000000 in
set_option maxRecDepth 100000 in
theorem address_MakePrefix.calls (a0_0 : Bool) (a0_1 : Int) (a0_2 : Int) (a1 : Int) (r1 : Bool) (r2 : Int) (r3 : Int) (r4 : Int) (r5 : Int) (w : World) (h : address_MakePrefix.f a0_0 a0_1 a0_2 a1 = some (r1, r2, r3, r4, r5)) :
 Calls Try.prog 108 #[.agg #[.bool a0_0, .int .u64 a0_1, .int .u64 a0_2], .int .i64 a1] w fun e w' => e = .returned (.tuple #[.agg #[.bool r1, .int .u64 r2, .int .u64 r3, .int .i64 r4], .int .i64 r5]) ∧ Below w.heap.size w w' := by
 have hu36 := Try.underlying36
 have hu45 := Try.underlying45
 have HB := Aside0.mk (Below.refl w.heap.size w)
 unfold address_MakePrefix.f at h; have H := h
 clear h
 by_cases c3 : a1 < 0
 · rw [if_pos c3] at H
   have c3b0 : decide (a1 < 0) = true := decide_eq_true c3
   clear c3
   simp only [Option.some.injEq, Prod.mk.injEq] at H
   obtain ⟨rfl, rfl, rfl, rfl, rfl⟩ := H
   go_enter Try.func108, Try.ntmps108
   go_wp2_with (first | ((with_reducible refine gate_dst (N := 2) rfl ?_); refine zx 2 #[.bool a0_0, .int .u64 a0_1, .int .u64 a0_2] 36 ?_; intro gb516 hg w4 hbox hb; have BK516 := Aside0.mk (hbox); have GW516 := Aside0.mk ((by rw [hg]; exact (below_size (zB HB)) : w.heap.size ≤ gb516)); have GE516 := Aside0.mk ((by rw [hg]; exact (below_size (zB HB)) : w.heap.size ≤ gb516)); replace HB := Aside0.mk (below_step (zB HB) hb); clear hb hbox hg) | ((with_reducible refine gate_dst (N := 4) rfl ?_); refine zx 4 #[.bool false, .int .u64 0, .int .u64 0, .int .i64 0] 45 ?_; intro gb517 hg w5 hbox hb; have BK517 := Aside0.mk (hbox); have GW517 := Aside0.mk ((by rw [hg]; exact (below_size (zB HB)) : w.heap.size ≤ gb517)); have GE517 := Aside0.mk ((by rw [hg]; exact (below_size (zB HB)) : w.heap.size ≤ gb517)); replace HB := Aside0.mk (below_step (zB HB) hb); have NB516_517 := Aside0.mk ((by rw [hg]; exact Nat.ne_of_lt (blk_lt (g := gb516) (o := .cells #[.bool a0_0, .int .u64 a0_1, .int .u64 a0_2] 36 (0, 0)) (zK BK516)) : gb516 ≠ gb517)); have NB517_516 := Aside0.mk ((by rw [hg]; exact Nat.ne_of_gt (blk_lt (g := gb516) (o := .cells #[.bool a0_0, .int .u64 a0_1, .int .u64 a0_2] 36 (0, 0)) (zK BK516)) : gb517 ≠ gb516)); replace BK516 := Aside0.mk (blk_below (g := gb516) (o := .cells #[.bool a0_0, .int .u64 a0_1, .int .u64 a0_2] 36 (0, 0)) (zK BK516) hb); clear hb hbox hg; have hnb6 := NB517_516.out; have hnc6 := NB516_517.out; obtain ⟨hcz7_0, hcz7_1, hcz7_2, hcz7_3⟩ := zc4 BK517; obtain ⟨hfz7_0, hfz7_1, hfz7_2, hfz7_3⟩ := zf4 BK517))
   refine bodyPost_ret (results_ct rfl _ _ gb517 45 #[.bool false, .int .u64 0, .int .u64 0, .int .i64 0] (0, 0) _ rfl (by refine zL ?_; refine blk_put (cs := #[.bool false, .int .u64 0, .int .u64 0, .int .i64 0]) ?_ 3 _ rfl; refine zL ?_; refine blk_put (cs := #[.bool false, .int .u64 0, .int .u64 0, .int .i64 0]) ?_ 2 _ rfl; refine zL ?_; refine blk_put (cs := #[.bool false, .int .u64 0, .int .u64 0, .int .i64 0]) ?_ 1 _ rfl; refine zL ?_; refine blk_put (cs := #[.bool false, .int .u64 0, .int .u64 0, .int .i64 0]) ?_ 0 _ rfl; refine zL ?_; exact BK517.out) Try.underlying45 rfl (by kernel_rfl)) rfl ?_
   exact ⟨by first | rfl | (simp [errW_none, errW_some] <;> rfl) | (simp [*, errW_none, errW_some] <;> rfl), by repeat (first | (with_reducible first | exact HB.out | apply below_alloc | apply pw_below_drewN | apply below_drew1 | refine below_set ?_ GE516.out | refine below_set ?_ GE517.out) | exact HB.out)⟩
 · rw [if_neg c3] at H
   have c3b0 : decide (a1 < 0) = false := decide_eq_false c3
   clear c3
   replace H := Option.bind_eq_some_iff.mp H
   obtain ⟨t518, A80, H⟩ := H
   replace H : (if a1 > t518 then (some (false, 0, 0, 0, 4)) else ((address_mask.f a0_0 a0_1 a0_2 a1).bind fun bt519 => (some (a0_0, Go.bits .andNot .u64 a0_1 bt519.1, Go.bits .andNot .u64 a0_2 bt519.2, a1, 0)))) = some (r1, r2, r3, r4, r5) := H
   have A8 := Aside0.mk A80
   clear A80
   by_cases c9 : a1 > t518
   · rw [if_pos c9] at H
     have c9b0 : decide (t518 < a1) = true := decide_eq_true c9
     clear c9
     simp only [Option.some.injEq, Prod.mk.injEq] at H
     obtain ⟨rfl, rfl, rfl, rfl, rfl⟩ := H
     go_enter Try.func108, Try.ntmps108
     go_wp2_with (first | ((with_reducible refine gate_dst (N := 2) rfl ?_); refine zx 2 #[.bool a0_0, .int .u64 a0_1, .int .u64 a0_2] 36 ?_; intro gb516 hg w10 hbox hb; have BK516 := Aside0.mk (hbox); have GW516 := Aside0.mk ((by rw [hg]; exact (below_size (zB HB)) : w.heap.size ≤ gb516)); have GE516 := Aside0.mk ((by rw [hg]; exact (below_size (zB HB)) : w.heap.size ≤ gb516)); replace HB := Aside0.mk (below_step (zB HB) hb); clear hb hbox hg) | ((with_reducible refine gate_dst (N := 4) rfl ?_); refine zx 4 #[.bool false, .int .u64 0, .int .u64 0, .int .i64 0] 45 ?_; intro gb517 hg w11 hbox hb; have BK517 := Aside0.mk (hbox); have GW517 := Aside0.mk ((by rw [hg]; exact (below_size (zB HB)) : w.heap.size ≤ gb517)); have GE517 := Aside0.mk ((by rw [hg]; exact (below_size (zB HB)) : w.heap.size ≤ gb517)); replace HB := Aside0.mk (below_step (zB HB) hb); have NB516_517 := Aside0.mk ((by rw [hg]; exact Nat.ne_of_lt (blk_lt (g := gb516) (o := .cells #[.bool a0_0, .int .u64 a0_1, .int .u64 a0_2] 36 (0, 0)) (zK BK516)) : gb516 ≠ gb517)); have NB517_516 := Aside0.mk ((by rw [hg]; exact Nat.ne_of_gt (blk_lt (g := gb516) (o := .cells #[.bool a0_0, .int .u64 a0_1, .int .u64 a0_2] 36 (0, 0)) (zK BK516)) : gb517 ≠ gb516)); replace BK516 := Aside0.mk (blk_below (g := gb516) (o := .cells #[.bool a0_0, .int .u64 a0_1, .int .u64 a0_2] 36 (0, 0)) (zK BK516) hb); clear hb hbox hg; have hnb12 := NB516_517.out; have hnc12 := NB517_516.out; obtain ⟨hcz13_0, hcz13_1, hcz13_2⟩ := zc3 BK516; obtain ⟨hfz13_0, hfz13_1, hfz13_2⟩ := zf3 BK516) | (go_at_call 113; (with_reducible refine (address_size.calls a0_0 a0_1 a0_2 t518 _ A8.out).mono ?_); rintro e w14 ⟨rfl, hb⟩; replace BK516 := Aside0.mk (blk_below (g := gb516) (o := .cells #[.bool a0_0, .int .u64 a0_1, .int .u64 a0_2] 36 (0, 0)) (zK BK516) hb); replace BK517 := Aside0.mk (blk_below (g := gb517) (o := .cells #[.bool false, .int .u64 0, .int .u64 0, .int .i64 0] 45 (0, 0)) (zK BK517) hb); replace HB := Aside0.mk (below_step (zB HB) hb); (try clear hb); obtain ⟨hcz15_0, hcz15_1, hcz15_2, hcz15_3⟩ := zc4 BK517; obtain ⟨hfz15_0, hfz15_1, hfz15_2, hfz15_3⟩ := zf4 BK517))
     refine bodyPost_ret (results_ct rfl _ _ gb517 45 #[.bool false, .int .u64 0, .int .u64 0, .int .i64 0] (0, 0) _ rfl (by refine zL ?_; refine blk_put (cs := #[.bool false, .int .u64 0, .int .u64 0, .int .i64 0]) ?_ 3 _ rfl; refine zL ?_; refine blk_put (cs := #[.bool false, .int .u64 0, .int .u64 0, .int .i64 0]) ?_ 2 _ rfl; refine zL ?_; refine blk_put (cs := #[.bool false, .int .u64 0, .int .u64 0, .int .i64 0]) ?_ 1 _ rfl; refine zL ?_; refine blk_put (cs := #[.bool false, .int .u64 0, .int .u64 0, .int .i64 0]) ?_ 0 _ rfl; refine zL ?_; exact BK517.out) Try.underlying45 rfl (by kernel_rfl)) rfl ?_
     exact ⟨by first | rfl | (simp [errW_none, errW_some] <;> rfl) | (simp [*, errW_none, errW_some] <;> rfl), by repeat (first | (with_reducible first | exact HB.out | apply below_alloc | apply pw_below_drewN | apply below_drew1 | refine below_set ?_ GE516.out | refine below_set ?_ GE517.out) | exact HB.out)⟩
   · rw [if_neg c9] at H
     have c9b0 : decide (t518 < a1) = false := decide_eq_false c9
     clear c9
     replace H := Option.bind_eq_some_iff.mp H
     obtain ⟨⟨t519, t520⟩, A160, H⟩ := H
     replace H : (some (a0_0, Go.bits .andNot .u64 a0_1 t519, Go.bits .andNot .u64 a0_2 t520, a1, 0)) = some (r1, r2, r3, r4, r5) := H
     have A16 := Aside0.mk A160
     clear A160
     simp only [Option.some.injEq, Prod.mk.injEq] at H
     obtain ⟨rfl, rfl, rfl, rfl, rfl⟩ := H
     go_enter Try.func108, Try.ntmps108
     go_wp2_with (first | ((with_reducible refine gate_dst (N := 2) rfl ?_); refine zx 2 #[.bool a0_0, .int .u64 a0_1, .int .u64 a0_2] 36 ?_; intro gb516 hg w17 hbox hb; have BK516 := Aside0.mk (hbox); have GW516 := Aside0.mk ((by rw [hg]; exact (below_size (zB HB)) : w.heap.size ≤ gb516)); have GE516 := Aside0.mk ((by rw [hg]; exact (below_size (zB HB)) : w.heap.size ≤ gb516)); replace HB := Aside0.mk (below_step (zB HB) hb); clear hb hbox hg) | ((with_reducible refine gate_dst (N := 4) rfl ?_); refine zx 4 #[.bool false, .int .u64 0, .int .u64 0, .int .i64 0] 45 ?_; intro gb517 hg w18 hbox hb; have BK517 := Aside0.mk (hbox); have GW517 := Aside0.mk ((by rw [hg]; exact (below_size (zB HB)) : w.heap.size ≤ gb517)); have GE517 := Aside0.mk ((by rw [hg]; exact (below_size (zB HB)) : w.heap.size ≤ gb517)); replace HB := Aside0.mk (below_step (zB HB) hb); have NB516_517 := Aside0.mk ((by rw [hg]; exact Nat.ne_of_lt (blk_lt (g := gb516) (o := .cells #[.bool a0_0, .int .u64 a0_1, .int .u64 a0_2] 36 (0, 0)) (zK BK516)) : gb516 ≠ gb517)); have NB517_516 := Aside0.mk ((by rw [hg]; exact Nat.ne_of_gt (blk_lt (g := gb516) (o := .cells #[.bool a0_0, .int .u64 a0_1, .int .u64 a0_2] 36 (0, 0)) (zK BK516)) : gb517 ≠ gb516)); replace BK516 := Aside0.mk (blk_below (g := gb516) (o := .cells #[.bool a0_0, .int .u64 a0_1, .int .u64 a0_2] 36 (0, 0)) (zK BK516) hb); clear hb hbox hg; have hnb19 := NB516_517.out; have hnc19 := NB517_516.out; obtain ⟨hcz20_0, hcz20_1, hcz20_2⟩ := zc3 BK516; obtain ⟨hfz20_0, hfz20_1, hfz20_2⟩ := zf3 BK516) | (go_at_call 113; (with_reducible refine (address_size.calls a0_0 a0_1 a0_2 t518 _ A8.out).mono ?_); rintro e w21 ⟨rfl, hb⟩; replace BK516 := Aside0.mk (blk_below (g := gb516) (o := .cells #[.bool a0_0, .int .u64 a0_1, .int .u64 a0_2] 36 (0, 0)) (zK BK516) hb); replace BK517 := Aside0.mk (blk_below (g := gb517) (o := .cells #[.bool false, .int .u64 0, .int .u64 0, .int .i64 0] 45 (0, 0)) (zK BK517) hb); replace HB := Aside0.mk (below_step (zB HB) hb); (try clear hb); obtain ⟨hcz22_0, hcz22_1, hcz22_2⟩ := zc3 BK516; obtain ⟨hfz22_0, hfz22_1, hfz22_2⟩ := zf3 BK516) | ((with_reducible refine gate_callee (f := 109) rfl ?_); refine goesL_ (some 20) rfl rfl Try.func109 (by kernel_rfl) rfl #[.agg #[.bool a0_0, .int .u64 a0_1, .int .u64 a0_2], .int .i64 a1] rfl (by (try simp only [List.map_toArray, List.map_cons, List.map_nil]); first | done | rfl | (simp only [List.length_drop, List.length_take]; rfl)) ?_; (with_reducible refine (address_mask.calls a0_0 a0_1 a0_2 a1 t519 t520 _ A16.out).mono ?_); rintro e w23 ⟨rfl, hb⟩; refine ⟨_, rfl, ?_⟩; replace BK516 := Aside0.mk (blk_below (g := gb516) (o := .cells #[.bool a0_0, .int .u64 a0_1, .int .u64 a0_2] 36 (0, 0)) (zK BK516) hb); replace BK517 := Aside0.mk (blk_below (g := gb517) (o := .cells #[.bool false, .int .u64 0, .int .u64 0, .int .i64 0] 45 (0, 0)) (zK BK517) hb); replace HB := Aside0.mk (below_step (zB HB) hb); (try clear hb); obtain ⟨hcz24_0, hcz24_1, hcz24_2⟩ := zc3 BK516; obtain ⟨hfz24_0, hfz24_1, hfz24_2⟩ := zf3 BK516; obtain ⟨hcz25_0, hcz25_1, hcz25_2, hcz25_3⟩ := zc4 BK517; obtain ⟨hfz25_0, hfz25_1, hfz25_2, hfz25_3⟩ := zf4 BK517))
     refine bodyPost_ret (results_ct rfl _ _ gb517 45 #[.bool a0_0, .int .u64 (Go.bits .andNot .u64 a0_1 t519), .int .u64 (Go.bits .andNot .u64 a0_2 t520), .int .i64 a1] (0, 0) _ rfl (by refine zL ?_; refine blk_put (cs := #[.bool a0_0, .int .u64 (Go.bits .andNot .u64 a0_1 t519), .int .u64 (Go.bits .andNot .u64 a0_2 t520), .int .i64 0]) ?_ 3 _ rfl; refine zL ?_; refine blk_put (cs := #[.bool a0_0, .int .u64 (Go.bits .andNot .u64 a0_1 t519), .int .u64 0, .int .i64 0]) ?_ 2 _ rfl; refine zL ?_; refine blk_put (cs := #[.bool a0_0, .int .u64 0, .int .u64 0, .int .i64 0]) ?_ 1 _ rfl; refine zL ?_; refine blk_put (cs := #[.bool false, .int .u64 0, .int .u64 0, .int .i64 0]) ?_ 0 _ rfl; refine zL ?_; refine blk_far ?_ NB517_516.out _; refine zL ?_; refine blk_far ?_ NB517_516.out _; refine zL ?_; exact BK517.out) Try.underlying45 rfl (by kernel_rfl)) rfl ?_
     exact ⟨by first | rfl | (simp [errW_none, errW_some] <;> rfl) | (simp [*, errW_none, errW_some] <;> rfl), by repeat (first | (with_reducible first | exact HB.out | apply below_alloc | apply pw_below_drewN | apply below_drew1 | refine below_set ?_ GE516.out | refine below_set ?_ GE517.out) | exact HB.out)⟩
end Go.Proofs.Ytcgfpffgiimgmaa.Q
end

section
namespace Go.Proofs.Ytcgfpffgiimgmaa.Q
open Go.RowKit Go.Proofs.YtcgfpffgiimgmaaW.PrintWords Go.Proofs.YtcgfpffgiimgmaaW.PrintLast Go.Proofs.YtcgfpffgiimgmaaW.PrintMore
attribute [local go_sem] max2_int min2_int max_two min_two max_three min_three max_four min_four
set_option linter.unusedVariables false
set_option linter.unusedSimpArgs false
attribute [local go_sem high] eqA36
mutual
def addrset_greatest.j0 : Nat → Int → Bool → Int → Int → Bool → Int → Int → Option (Bool × Int × Int × Int)
  | 0, _, _, _, _, _, _, _ => none
  | k + 1, x5, x522000, x522001, x522002, x523000, x523001, x523002 => (address_MakePrefix.f x522000 x522001 x522002 x5).bind fun bt524 => (addrset_greatest.l0 k x5 x522000 x522001 x522002 x523000 x523001 x523002 bt524.1 bt524.2.1 bt524.2.2.1 bt524.2.2.2.1)
def addrset_greatest.l0 : Nat → Int → Bool → Int → Int → Bool → Int → Int → Bool → Int → Int → Int → Option (Bool × Int × Int × Int)
  | 0, _, _, _, _, _, _, _, _, _, _, _ => none
  | k + 1, x5, x522000, x522001, x522002, x523000, x523001, x523002, x530000, x530001, x530002, x530003 => if x5 > 0 then ((address_MakePrefix.f x522000 x522001 x522002 (wrap64 (x5 - 1))).bind fun bt530 => (if bt530.2.2.2.2 = 0 then (if (!(bt530.1 == x522000) || (!(bt530.2.1 == x522001) || (!(bt530.2.2.1 == x522002)))) = true then (some (x530000, x530001, x530002, x530003)) else ((address_Bounds.f bt530.1 bt530.2.1 bt530.2.2.1 bt530.2.2.2.1).bind fun bt536 => ((address_Compare.f bt536.2.2.2.1 bt536.2.2.2.2.1 bt536.2.2.2.2.2 x523000 x523001 x523002).bind fun t542 => (if t542 > 0 then (some (x530000, x530001, x530002, x530003)) else (addrset_greatest.l0 k (wrap64 (x5 - 1)) x522000 x522001 x522002 x523000 x523001 x523002 bt530.1 bt530.2.1 bt530.2.2.1 bt530.2.2.2.1))))) else (some (x530000, x530001, x530002, x530003)))) else (some (x530000, x530001, x530002, x530003))
end
def addrset_greatest.f (k : Nat) (a0_0 : Bool) (a0_1 : Int) (a0_2 : Int) (a1_0 : Bool) (a1_1 : Int) (a1_2 : Int) : Option (Bool × Int × Int × Int) := if a0_0 = true then (addrset_greatest.j0 k 128 a0_0 a0_1 a0_2 a1_0 a1_1 a1_2) else (addrset_greatest.j0 k 32 a0_0 a0_1 a0_2 a1_0 a1_1 a1_2)
theorem addrset_greatest.mono_l : ∀ k, (∀ y0 y1 y2 y3 y4 y5 y6, LeO (addrset_greatest.j0 k y0 y1 y2 y3 y4 y5 y6) (addrset_greatest.j0 (k + 1) y0 y1 y2 y3 y4 y5 y6)) ∧ (∀ y0 y1 y2 y3 y4 y5 y6 y7 y8 y9 y10, LeO (addrset_greatest.l0 k y0 y1 y2 y3 y4 y5 y6 y7 y8 y9 y10) (addrset_greatest.l0 (k + 1) y0 y1 y2 y3 y4 y5 y6 y7 y8 y9 y10))
  | 0 => ⟨fun _ _ _ _ _ _ _ r h => by simp [addrset_greatest.j0] at h, fun _ _ _ _ _ _ _ _ _ _ _ r h => by simp [addrset_greatest.l0] at h⟩
  | k + 1 => by
    obtain ⟨ih0, ih1⟩ := addrset_greatest.mono_l k
    refine ⟨?_, ?_⟩
    · intro y0 y1 y2 y3 y4 y5 y6
      unfold addrset_greatest.j0
      repeat' first
      | (with_reducible exact ih0 _ _ _ _ _ _ _)
      | (with_reducible exact ih1 _ _ _ _ _ _ _ _ _ _ _)
      | (with_reducible exact LeO.refl _)
      | (with_reducible exact LeO.none _)
      | (with_reducible refine LeO.ite ?_ ?_)
      | (with_reducible refine LeO.bind ?_ (fun _ => ?_))
      | exact ih0 _ _ _ _ _ _ _
      | exact ih1 _ _ _ _ _ _ _ _ _ _ _
      | exact LeO.none _
      | refine LeO.ite ?_ ?_
      | refine LeO.bind ?_ (fun _ => ?_)
    · intro y0 y1 y2 y3 y4 y5 y6 y7 y8 y9 y10
      unfold addrset_greatest.l0
      repeat' first
      | (with_reducible exact ih0 _ _ _ _ _ _ _)
      | (with_reducible exact ih1 _ _ _ _ _ _ _ _ _ _ _)
      | (with_reducible exact LeO.refl _)
      | (with_reducible exact LeO.none _)
      | (with_reducible refine LeO.ite ?_ ?_)
      | (with_reducible refine LeO.bind ?_ (fun _ => ?_))
      | exact ih0 _ _ _ _ _ _ _
      | exact ih1 _ _ _ _ _ _ _ _ _ _ _
      | exact LeO.none _
      | refine LeO.ite ?_ ?_
      | refine LeO.bind ?_ (fun _ => ?_)
theorem addrset_greatest.mono : ∀ a0 a1 a2 a3 a4 a5 k, LeO (addrset_greatest.f k a0 a1 a2 a3 a4 a5) (addrset_greatest.f (k + 1) a0 a1 a2 a3 a4 a5) := by
  intro a0 a1 a2 a3 a4 a5 k
  obtain ⟨ih0, ih1⟩ := addrset_greatest.mono_l k
  unfold addrset_greatest.f
  repeat' first
      | (with_reducible exact ih0 _ _ _ _ _ _ _)
      | (with_reducible exact ih1 _ _ _ _ _ _ _ _ _ _ _)
      | (with_reducible exact LeO.refl _)
      | (with_reducible exact LeO.none _)
      | (with_reducible refine LeO.ite ?_ ?_)
      | (with_reducible refine LeO.bind ?_ (fun _ => ?_))
      | exact ih0 _ _ _ _ _ _ _
      | exact ih1 _ _ _ _ _ _ _ _ _ _ _
      | exact LeO.none _
      | refine LeO.ite ?_ ?_
      | refine LeO.bind ?_ (fun _ => ?_)
def addrset_greatest.T8 : Bool × List (List Nat × List Nat) := (true, [([], []), ([0], [0]), ([1], [1]), ([2], [2]), ([3, 2], [2, 3]), ([2], [2]), ([4, 5, 2], [2, 4, 5]), ([2, 6], [2, 6]), ([7, 2], [7]), ([8], [8]), ([9, 8, 8], [8, 9]), ([10, 8], [8, 10]), ([8], [8]), ([11, 12, 10, 8], [8, 11, 12]), ([13, 8], [8, 13]), ([8, 14], [8, 14])])
def addrset_greatest.B8 : List Nat := [0, 1, 3, 7, 15, 7, 63, 127, 255, 511, 1023, 2047, 511, 8191, 16383, 32767]
theorem addrset_greatest.tab8 : rtab .any (opsOf Try.f86 8) = addrset_greatest.T8 := by kernel_rfl
theorem addrset_greatest.bits8 : waitsOk addrset_greatest.T8.2 addrset_greatest.B8 = true := by kernel_rfl
set_option maxHeartbeats 8000000 in
set_option maxRecDepth 100000 in
theorem addrset_greatest.calls (k : Nat) (a0_0 : Bool) (a0_1 : Int) (a0_2 : Int) (a1_0 : Bool) (a1_1 : Int) (a1_2 : Int) (r1 : Bool) (r2 : Int) (r3 : Int) (r4 : Int) (w : World) (h : addrset_greatest.f k a0_0 a0_1 a0_2 a1_0 a1_1 a1_2 = some (r1, r2, r3, r4)) :
 Calls Try.prog 86 #[.agg #[.bool a0_0, .int .u64 a0_1, .int .u64 a0_2], .agg #[.bool a1_0, .int .u64 a1_1, .int .u64 a1_2]] w fun e w' => e = .returned (.agg #[.bool r1, .int .u64 r2, .int .u64 r3, .int .i64 r4]) ∧ Below w.heap.size w w' := by
 have hfd66_1 : ∀ (a0 a1 a2 a3 a4 a5 : Value) (w' : World), (Instr.field 66 (.agg #[a0, a1, a2, a3, a4, a5]) 1).run Try.prog w' = .ok (.agg #[a3, a4, a5]) w' := fun _ _ _ _ _ _ _ => by kernel_rfl
 have hu66 := Try.underlying66
 have hu36 := Try.underlying36
 have hu45 := Try.underlying45
 have HB := Aside0.mk (Below.refl w.heap.size w)
 unfold addrset_greatest.f at h; have H := h
 clear h
 have HC3 := Aside0.mk H
 clear H
 go_enter Try.func86, Try.ntmps86
 go_upto_if 11 with (first | ((with_reducible refine gate_dst (N := 2) rfl ?_); refine zx 2 #[.bool a0_0, .int .u64 a0_1, .int .u64 a0_2] 36 ?_; intro gb521 hg w4 hbox hb; have BK521 := Aside0.mk (hbox); have GW521 := Aside0.mk ((by rw [hg]; exact (below_size (zB HB)) : w.heap.size ≤ gb521)); have GE521 := Aside0.mk ((by rw [hg]; exact (below_size (zB HB)) : w.heap.size ≤ gb521)); replace HB := Aside0.mk (below_step (zB HB) hb); clear hb hbox hg) | ((with_reducible refine gate_dst (N := 3) rfl ?_); refine zx 3 #[.bool a1_0, .int .u64 a1_1, .int .u64 a1_2] 36 ?_; intro gb522 hg w5 hbox hb; have BK522 := Aside0.mk (hbox); have GW522 := Aside0.mk ((by rw [hg]; exact (below_size (zB HB)) : w.heap.size ≤ gb522)); have GE522 := Aside0.mk ((by rw [hg]; exact (below_size (zB HB)) : w.heap.size ≤ gb522)); replace HB := Aside0.mk (below_step (zB HB) hb); have NB521_522 := Aside0.mk ((by rw [hg]; exact Nat.ne_of_lt (blk_lt (g := gb521) (o := .cells #[.bool a0_0, .int .u64 a0_1, .int .u64 a0_2] 36 (0, 0)) (zK BK521)) : gb521 ≠ gb522)); have NB522_521 := Aside0.mk ((by rw [hg]; exact Nat.ne_of_gt (blk_lt (g := gb521) (o := .cells #[.bool a0_0, .int .u64 a0_1, .int .u64 a0_2] 36 (0, 0)) (zK BK521)) : gb522 ≠ gb521)); replace BK521 := Aside0.mk (blk_below (g := gb521) (o := .cells #[.bool a0_0, .int .u64 a0_1, .int .u64 a0_2] 36 (0, 0)) (zK BK521) hb); clear hb hbox hg) | ((with_reducible refine gate_dst (N := 4) rfl ?_); refine zx 4 #[.bool false, .int .u64 0, .int .u64 0, .int .i64 0] 45 ?_; intro gb523 hg w6 hbox hb; have BK523 := Aside0.mk (hbox); have GW523 := Aside0.mk ((by rw [hg]; exact (below_size (zB HB)) : w.heap.size ≤ gb523)); have GE523 := Aside0.mk ((by rw [hg]; exact (below_size (zB HB)) : w.heap.size ≤ gb523)); replace HB := Aside0.mk (below_step (zB HB) hb); have NB521_523 := Aside0.mk ((by rw [hg]; exact Nat.ne_of_lt (blk_lt (g := gb521) (o := .cells #[.bool a0_0, .int .u64 a0_1, .int .u64 a0_2] 36 (0, 0)) (zK BK521)) : gb521 ≠ gb523)); have NB523_521 := Aside0.mk ((by rw [hg]; exact Nat.ne_of_gt (blk_lt (g := gb521) (o := .cells #[.bool a0_0, .int .u64 a0_1, .int .u64 a0_2] 36 (0, 0)) (zK BK521)) : gb523 ≠ gb521)); replace BK521 := Aside0.mk (blk_below (g := gb521) (o := .cells #[.bool a0_0, .int .u64 a0_1, .int .u64 a0_2] 36 (0, 0)) (zK BK521) hb); have NB522_523 := Aside0.mk ((by rw [hg]; exact Nat.ne_of_lt (blk_lt (g := gb522) (o := .cells #[.bool a1_0, .int .u64 a1_1, .int .u64 a1_2] 36 (0, 0)) (zK BK522)) : gb522 ≠ gb523)); have NB523_522 := Aside0.mk ((by rw [hg]; exact Nat.ne_of_gt (blk_lt (g := gb522) (o := .cells #[.bool a1_0, .int .u64 a1_1, .int .u64 a1_2] 36 (0, 0)) (zK BK522)) : gb523 ≠ gb522)); replace BK522 := Aside0.mk (blk_below (g := gb522) (o := .cells #[.bool a1_0, .int .u64 a1_1, .int .u64 a1_2] 36 (0, 0)) (zK BK522) hb); clear hb hbox hg; have hnb7 := NB521_522.out; have hnc7 := NB522_521.out; have hnb8 := NB521_523.out; have hnc8 := NB523_521.out; obtain ⟨hcz9_0, hcz9_1, hcz9_2⟩ := zc3 BK521; obtain ⟨hfz9_0, hfz9_1, hfz9_2⟩ := zf3 BK521))
 (try simp only [Act.put, List.setIfInBounds_toArray, List.set_cons_zero, List.set_cons_succ])
 go_cut [5] (fun v5 wc => ∃ (kq : Nat) (x5_2 : Int), v5 = .int .i64 x5_2 ∧ Aside0 (addrset_greatest.j0 kq x5_2 a0_0 a0_1 a0_2 a1_0 a1_1 a1_2 = some (r1, r2, r3, r4)) ∧ Aside0 (kq ≤ k) ∧ Aside0 (wc.heap[gb521]? = some (.cells #[.bool a0_0, .int .u64 a0_1, .int .u64 a0_2] 36 (0, 0))) ∧ Aside0 (wc.heap[gb522]? = some (.cells #[.bool a1_0, .int .u64 a1_1, .int .u64 a1_2] 36 (0, 0))) ∧ Aside0 (wc.heap[gb523]? = some (.cells #[.bool false, .int .u64 0, .int .u64 0, .int .i64 0] 45 (0, 0))) ∧ Aside0 (Below w.heap.size w wc))
 case first =>
  have H := HC3.out
  clear HC3
  by_cases c10 : a0_0 = true
  · subst c10
    rw [if_pos rfl] at H
    have H' := Aside0.mk H
    clear H
    go_wp2
    go_meet
    case rel => exact ⟨_, (128), (by first | rfl | (simp; done) | (simp [*]; done)), H', ⟨by first | omega | exact Nat.le_refl _⟩, ⟨zK BK521⟩, ⟨zK BK522⟩, ⟨zK BK523⟩, ⟨zB HB⟩⟩
  · replace c10 := Bool.eq_false_iff.mpr c10
    subst c10
    rw [if_neg zF] at H
    have H' := Aside0.mk H
    clear H
    go_wp2
    go_meet
    case rel => exact ⟨_, (32), (by first | rfl | (simp; done) | (simp [*]; done)), H', ⟨by first | omega | exact Nat.le_refl _⟩, ⟨zK BK521⟩, ⟨zK BK522⟩, ⟨zK BK523⟩, ⟨zB HB⟩⟩
 case rest =>
  clear HC3
  try clear c1
  try clear p2
  try clear c7
  try clear c8
  try clear c10
  try clear hcz9_0
  try clear hcz9_1
  try clear hcz9_2
  try clear hfz9_0
  try clear hfz9_1
  try clear hfz9_2
  obtain ⟨kq, x5_2, rfl, HA, HJ2, BK521, BK522, BK523, HB⟩ := hcut
  cases kq with
  | zero => exact absurd HA.out (by simp [addrset_greatest.j0])
  | succ kj2 =>
   have H := HA.out
   clear HA
   simp only [addrset_greatest.j0] at H
   replace H := Option.bind_eq_some_iff.mp H
   obtain ⟨⟨t524, t525, t526, t527, t528⟩, A110, H⟩ := H
   replace H : (addrset_greatest.l0 kj2 x5_2 a0_0 a0_1 a0_2 a1_0 a1_1 a1_2 t524 t525 t526 t527) = some (r1, r2, r3, r4) := H
   have A11 := Aside0.mk A110
   clear A110
   have H' := Aside0.mk H
   clear H
   have hnb12 := NB521_522.out
   have hnc12 := NB522_521.out
   have hnb13 := NB521_523.out
   have hnc13 := NB523_521.out
   obtain ⟨hcz14_0, hcz14_1, hcz14_2⟩ := zc3 BK521
   obtain ⟨hfz14_0, hfz14_1, hfz14_2⟩ := zf3 BK521
   go_wp2_with (first | ((with_reducible refine gate_callee (f := 108) rfl ?_); refine goesL_ (some 15) rfl rfl Try.func108 (by kernel_rfl) rfl #[.agg #[.bool a0_0, .int .u64 a0_1, .int .u64 a0_2], .int .i64 x5_2] rfl (by (try simp only [List.map_toArray, List.map_cons, List.map_nil]); first | done | rfl | (simp only [List.length_drop, List.length_take]; rfl)) ?_; (with_reducible refine (address_MakePrefix.calls a0_0 a0_1 a0_2 x5_2 t524 t525 t526 t527 t528 _ A11.out).mono ?_); rintro e w15 ⟨rfl, hb⟩; refine ⟨_, rfl, ?_⟩; replace BK521 := Aside0.mk (blk_below (g := gb521) (o := .cells #[.bool a0_0, .int .u64 a0_1, .int .u64 a0_2] 36 (0, 0)) (zK BK521) hb); replace BK522 := Aside0.mk (blk_below (g := gb522) (o := .cells #[.bool a1_0, .int .u64 a1_1, .int .u64 a1_2] 36 (0, 0)) (zK BK522) hb); replace BK523 := Aside0.mk (blk_below (g := gb523) (o := .cells #[.bool false, .int .u64 0, .int .u64 0, .int .i64 0] 45 (0, 0)) (zK BK523) hb); replace HB := Aside0.mk (below_step (zB HB) hb); (try clear hb)) | ((with_reducible refine gate_dst (N := 6) rfl ?_); refine zx 6 #[.bool false, .int .u64 0, .int .u64 0, .int .i64 0] 45 ?_; intro gb529 hg w16 hbox hb; have BK529 := Aside0.mk (hbox); have GW529 := Aside0.mk ((by rw [hg]; exact (below_size (zB HB)) : w.heap.size ≤ gb529)); have GE529 := Aside0.mk ((by rw [hg]; exact (below_size (zB HB)) : w.heap.size ≤ gb529)); replace HB := Aside0.mk (below_step (zB HB) hb); have NB521_529 := Aside0.mk ((by rw [hg]; exact Nat.ne_of_lt (blk_lt (g := gb521) (o := .cells #[.bool a0_0, .int .u64 a0_1, .int .u64 a0_2] 36 (0, 0)) (zK BK521)) : gb521 ≠ gb529)); have NB529_521 := Aside0.mk ((by rw [hg]; exact Nat.ne_of_gt (blk_lt (g := gb521) (o := .cells #[.bool a0_0, .int .u64 a0_1, .int .u64 a0_2] 36 (0, 0)) (zK BK521)) : gb529 ≠ gb521)); replace BK521 := Aside0.mk (blk_below (g := gb521) (o := .cells #[.bool a0_0, .int .u64 a0_1, .int .u64 a0_2] 36 (0, 0)) (zK BK521) hb); have NB522_529 := Aside0.mk ((by rw [hg]; exact Nat.ne_of_lt (blk_lt (g := gb522) (o := .cells #[.bool a1_0, .int .u64 a1_1, .int .u64 a1_2] 36 (0, 0)) (zK BK522)) : gb522 ≠ gb529)); have NB529_522 := Aside0.mk ((by rw [hg]; exact Nat.ne_of_gt (blk_lt (g := gb522) (o := .cells #[.bool a1_0, .int .u64 a1_1, .int .u64 a1_2] 36 (0, 0)) (zK BK522)) : gb529 ≠ gb522)); replace BK522 := Aside0.mk (blk_below (g := gb522) (o := .cells #[.bool a1_0, .int .u64 a1_1, .int .u64 a1_2] 36 (0, 0)) (zK BK522) hb); have NB523_529 := Aside0.mk ((by rw [hg]; exact Nat.ne_of_lt (blk_lt (g := gb523) (o := .cells #[.bool false, .int .u64 0, .int .u64 0, .int .i64 0] 45 (0, 0)) (zK BK523)) : gb523 ≠ gb529)); have NB529_523 := Aside0.mk ((by rw [hg]; exact Nat.ne_of_gt (blk_lt (g := gb523) (o := .cells #[.bool false, .int .u64 0, .int .u64 0, .int .i64 0] 45 (0, 0)) (zK BK523)) : gb529 ≠ gb523)); replace BK523 := Aside0.mk (blk_below (g := gb523) (o := .cells #[.bool false, .int .u64 0, .int .u64 0, .int .i64 0] 45 (0, 0)) (zK BK523) hb); clear hb hbox hg; have hnb17 := NB529_521.out; have hnc17 := NB521_529.out; have hnb18 := NB529_522.out; have hnc18 := NB522_529.out; have hnb19 := NB529_523.out; have hnc19 := NB523_529.out; obtain ⟨hcz20_0, hcz20_1, hcz20_2, hcz20_3⟩ := zc4 BK529; obtain ⟨hfz20_0, hfz20_1, hfz20_2, hfz20_3⟩ := zf4 BK529))
   go_loopg [5] kj2 (fun kq v5 w' => ∃ (x5_2 : Int) (x530000_2 : Bool) (x530001_2 : Int) (x530002_2 : Int) (x530003_2 : Int), v5 = .int .i64 x5_2 ∧ Aside0 (addrset_greatest.l0 kq x5_2 a0_0 a0_1 a0_2 a1_0 a1_1 a1_2 x530000_2 x530001_2 x530002_2 x530003_2 = some (r1, r2, r3, r4)) ∧ Aside0 (kq ≤ kj2) ∧ Aside0 (w'.heap[gb521]? = some (.cells #[.bool a0_0, .int .u64 a0_1, .int .u64 a0_2] 36 (0, 0))) ∧ Aside0 (w'.heap[gb522]? = some (.cells #[.bool a1_0, .int .u64 a1_1, .int .u64 a1_2] 36 (0, 0))) ∧ Aside0 (w'.heap[gb523]? = some (.cells #[.bool false, .int .u64 0, .int .u64 0, .int .i64 0] 45 (0, 0))) ∧ Aside0 (w'.heap[gb529]? = some (.cells #[.bool x530000_2, .int .u64 x530001_2, .int .u64 x530002_2, .int .i64 x530003_2] 45 (0, 0))) ∧ Aside0 (Below w.heap.size w w'))
   case atStart => exact ⟨(x5_2), (t524), (t525), (t526), (t527), (by first | rfl | (simp; done) | (simp [*]; done)), H', ⟨Nat.le_refl _⟩, ⟨by refine zL ?_; refine blk_far ?_ NB521_529.out _; refine zL ?_; refine blk_far ?_ NB521_529.out _; refine zL ?_; refine blk_far ?_ NB521_529.out _; refine zL ?_; refine blk_far ?_ NB521_529.out _; refine zL ?_; exact BK521.out⟩, ⟨by refine zL ?_; refine blk_far ?_ NB522_529.out _; refine zL ?_; refine blk_far ?_ NB522_529.out _; refine zL ?_; refine blk_far ?_ NB522_529.out _; refine zL ?_; refine blk_far ?_ NB522_529.out _; refine zL ?_; exact BK522.out⟩, ⟨by refine zL ?_; refine blk_far ?_ NB523_529.out _; refine zL ?_; refine blk_far ?_ NB523_529.out _; refine zL ?_; refine blk_far ?_ NB523_529.out _; refine zL ?_; refine blk_far ?_ NB523_529.out _; refine zL ?_; exact BK523.out⟩, ⟨by refine zL ?_; refine blk_put (cs := #[.bool t524, .int .u64 t525, .int .u64 t526, .int .i64 0]) ?_ 3 _ rfl; refine zL ?_; refine blk_put (cs := #[.bool t524, .int .u64 t525, .int .u64 0, .int .i64 0]) ?_ 2 _ rfl; refine zL ?_; refine blk_put (cs := #[.bool t524, .int .u64 0, .int .u64 0, .int .i64 0]) ?_ 1 _ rfl; refine zL ?_; refine blk_put (cs := #[.bool false, .int .u64 0, .int .u64 0, .int .i64 0]) ?_ 0 _ rfl; refine zL ?_; exact BK529.out⟩, ⟨zB HB⟩⟩
   case round =>
    clear H'
    try clear c1
    try clear p2
    try clear c7
    try clear c8
    try clear c10
    try clear c12
    try clear c13
    try clear c17
    try clear c18
    try clear c19
    try clear hcz14_0
    try clear hcz14_1
    try clear hcz14_2
    try clear hcz20_0
    try clear hcz20_1
    try clear hcz20_2
    try clear hcz20_3
    try clear hcz9_0
    try clear hcz9_1
    try clear hcz9_2
    try clear hfz14_0
    try clear hfz14_1
    try clear hfz14_2
    try clear hfz20_0
    try clear hfz20_1
    try clear hfz20_2
    try clear hfz20_3
    try clear hfz9_0
    try clear hfz9_1
    try clear hfz9_2
    try clear p2
    obtain ⟨x5_2, x530000_2, x530001_2, x530002_2, x530003_2, rfl, HA, HK2, BK521, BK522, BK523, BK529, HB⟩ := hrel
    cases gk with
    | zero => exact absurd HA.out (by simp [addrset_greatest.l0])
    | succ k2 =>
     have H := HA.out
     clear HA
     simp only [addrset_greatest.l0] at H
     by_cases c21 : x5_2 > 0
     · rw [if_pos c21] at H
       have c21b0 : decide (0 < x5_2) = true := decide_eq_true c21
       clear c21
       replace H := Option.bind_eq_some_iff.mp H
       obtain ⟨⟨t530, t531, t532, t533, t534⟩, A220, H⟩ := H
       replace H : (if t534 = 0 then (if (!(t530 == a0_0) || (!(t531 == a0_1) || (!(t532 == a0_2)))) = true then (some (x530000_2, x530001_2, x530002_2, x530003_2)) else ((address_Bounds.f t530 t531 t532 t533).bind fun bt536 => ((address_Compare.f bt536.2.2.2.1 bt536.2.2.2.2.1 bt536.2.2.2.2.2 a1_0 a1_1 a1_2).bind fun t542 => (if t542 > 0 then (some (x530000_2, x530001_2, x530002_2, x530003_2)) else (addrset_greatest.l0 k2 (wrap64 (x5_2 - 1)) a0_0 a0_1 a0_2 a1_0 a1_1 a1_2 t530 t531 t532 t533))))) else (some (x530000_2, x530001_2, x530002_2, x530003_2))) = some (r1, r2, r3, r4) := H
       have A22 := Aside0.mk A220
       clear A220
       by_cases c23 : t534 = 0
       · rw [if_pos c23] at H
         have c23b0 : (t534 == 0) = true := beq_iff_eq.mpr c23
         have c23b1 : (t534 != 0) = false := bne_eq_false_iff_eq.mpr c23
         clear c23
         by_cases c24 : (!(t530 == a0_0) || (!(t531 == a0_1) || (!(t532 == a0_2)))) = true
         · rw [if_pos c24] at H
           have c24b0 : (!(t530 == a0_0) || (!(t531 == a0_1) || (!(t532 == a0_2)))) = true := c24
           clear c24
           simp only [Option.some.injEq, Prod.mk.injEq] at H
           obtain ⟨rfl, rfl, rfl, rfl⟩ := H
           have hnb25 := NB521_522.out
           have hnc25 := NB522_521.out
           have hnb26 := NB521_523.out
           have hnc26 := NB523_521.out
           have hnb27 := NB521_529.out
           have hnc27 := NB529_521.out
           obtain ⟨hcz28_0, hcz28_1, hcz28_2⟩ := zc3 BK521
           obtain ⟨hfz28_0, hfz28_1, hfz28_2⟩ := zf3 BK521
           try go_wp2_with (first | ((with_reducible refine gate_callee (f := 108) rfl ?_); refine goesL_ (some 25) rfl rfl Try.func108 (by kernel_rfl) rfl #[.agg #[.bool a0_0, .int .u64 a0_1, .int .u64 a0_2], .int .i64 (wrap64 (x5_2 - 1))] rfl (by (try simp only [List.map_toArray, List.map_cons, List.map_nil]); first | done | rfl | (simp only [List.length_drop, List.length_take]; rfl)) ?_; (with_reducible refine (address_MakePrefix.calls a0_0 a0_1 a0_2 (wrap64 (x5_2 - 1)) t530 t531 t532 t533 t534 _ A22.out).mono ?_); rintro e w29 ⟨rfl, hb⟩; refine ⟨_, rfl, ?_⟩; replace BK521 := Aside0.mk (blk_below (g := gb521) (o := .cells #[.bool a0_0, .int .u64 a0_1, .int .u64 a0_2] 36 (0, 0)) (zK BK521) hb); replace BK522 := Aside0.mk (blk_below (g := gb522) (o := .cells #[.bool a1_0, .int .u64 a1_1, .int .u64 a1_2] 36 (0, 0)) (zK BK522) hb); replace BK523 := Aside0.mk (blk_below (g := gb523) (o := .cells #[.bool false, .int .u64 0, .int .u64 0, .int .i64 0] 45 (0, 0)) (zK BK523) hb); replace BK529 := Aside0.mk (blk_below (g := gb529) (o := .cells #[.bool x530000_2, .int .u64 x530001_2, .int .u64 x530002_2, .int .i64 x530003_2] 45 (0, 0)) (zK BK529) hb); replace HB := Aside0.mk (below_step (zB HB) hb); (try clear hb)) | ((with_reducible refine gate_dst (N := 8) rfl ?_); refine zx 8 #[.bool false, .int .u64 0, .int .u64 0, .int .i64 0] 45 ?_; intro gb535 hg w30 hbox hb; have BK535 := Aside0.mk (hbox); have GW535 := Aside0.mk ((by rw [hg]; exact (below_size (zB HB)) : w.heap.size ≤ gb535)); have GE535 := Aside0.mk ((by rw [hg]; exact (below_size (zB HB)) : w.heap.size ≤ gb535)); replace HB := Aside0.mk (below_step (zB HB) hb); have NB521_535 := Aside0.mk ((by rw [hg]; exact Nat.ne_of_lt (blk_lt (g := gb521) (o := .cells #[.bool a0_0, .int .u64 a0_1, .int .u64 a0_2] 36 (0, 0)) (zK BK521)) : gb521 ≠ gb535)); have NB535_521 := Aside0.mk ((by rw [hg]; exact Nat.ne_of_gt (blk_lt (g := gb521) (o := .cells #[.bool a0_0, .int .u64 a0_1, .int .u64 a0_2] 36 (0, 0)) (zK BK521)) : gb535 ≠ gb521)); replace BK521 := Aside0.mk (blk_below (g := gb521) (o := .cells #[.bool a0_0, .int .u64 a0_1, .int .u64 a0_2] 36 (0, 0)) (zK BK521) hb); have NB522_535 := Aside0.mk ((by rw [hg]; exact Nat.ne_of_lt (blk_lt (g := gb522) (o := .cells #[.bool a1_0, .int .u64 a1_1, .int .u64 a1_2] 36 (0, 0)) (zK BK522)) : gb522 ≠ gb535)); have NB535_522 := Aside0.mk ((by rw [hg]; exact Nat.ne_of_gt (blk_lt (g := gb522) (o := .cells #[.bool a1_0, .int .u64 a1_1, .int .u64 a1_2] 36 (0, 0)) (zK BK522)) : gb535 ≠ gb522)); replace BK522 := Aside0.mk (blk_below (g := gb522) (o := .cells #[.bool a1_0, .int .u64 a1_1, .int .u64 a1_2] 36 (0, 0)) (zK BK522) hb); have NB523_535 := Aside0.mk ((by rw [hg]; exact Nat.ne_of_lt (blk_lt (g := gb523) (o := .cells #[.bool false, .int .u64 0, .int .u64 0, .int .i64 0] 45 (0, 0)) (zK BK523)) : gb523 ≠ gb535)); have NB535_523 := Aside0.mk ((by rw [hg]; exact Nat.ne_of_gt (blk_lt (g := gb523) (o := .cells #[.bool false, .int .u64 0, .int .u64 0, .int .i64 0] 45 (0, 0)) (zK BK523)) : gb535 ≠ gb523)); replace BK523 := Aside0.mk (blk_below (g := gb523) (o := .cells #[.bool false, .int .u64 0, .int .u64 0, .int .i64 0] 45 (0, 0)) (zK BK523) hb); have NB529_535 := Aside0.mk ((by rw [hg]; exact Nat.ne_of_lt (blk_lt (g := gb529) (o := .cells #[.bool x530000_2, .int .u64 x530001_2, .int .u64 x530002_2, .int .i64 x530003_2] 45 (0, 0)) (zK BK529)) : gb529 ≠ gb535)); have NB535_529 := Aside0.mk ((by rw [hg]; exact Nat.ne_of_gt (blk_lt (g := gb529) (o := .cells #[.bool x530000_2, .int .u64 x530001_2, .int .u64 x530002_2, .int .i64 x530003_2] 45 (0, 0)) (zK BK529)) : gb535 ≠ gb529)); replace BK529 := Aside0.mk (blk_below (g := gb529) (o := .cells #[.bool x530000_2, .int .u64 x530001_2, .int .u64 x530002_2, .int .i64 x530003_2] 45 (0, 0)) (zK BK529) hb); clear hb hbox hg; have hnb31 := NB535_521.out; have hnc31 := NB521_535.out; have hnb32 := NB535_522.out; have hnc32 := NB522_535.out; have hnb33 := NB535_523.out; have hnc33 := NB523_535.out; have hnb34 := NB535_529.out; have hnc34 := NB529_535.out; obtain ⟨hcz35_0, hcz35_1, hcz35_2, hcz35_3⟩ := zc4 BK535; obtain ⟨hfz35_0, hfz35_1, hfz35_2, hfz35_3⟩ := zf4 BK535))
           have n0_ : Aside0 (((((w30.setCell ⟨gb535, 0, none⟩ (.bool t530)).setCell ⟨gb535, 1, none⟩ (.int .u64 t531)).setCell ⟨gb535, 2, none⟩ (.int .u64 t532)).setCell ⟨gb535, 3, none⟩ (.int .i64 t533)).heap[gb521]? = some (.cells #[.bool a0_0, .int .u64 a0_1, .int .u64 a0_2] 36 (0, 0))) := ⟨by refine zL ?_; refine blk_far ?_ NB521_535.out _; refine zL ?_; refine blk_far ?_ NB521_535.out _; refine zL ?_; refine blk_far ?_ NB521_535.out _; refine zL ?_; refine blk_far ?_ NB521_535.out _; refine zL ?_; exact BK521.out⟩
           have n1_ : Aside0 (((((w30.setCell ⟨gb535, 0, none⟩ (.bool t530)).setCell ⟨gb535, 1, none⟩ (.int .u64 t531)).setCell ⟨gb535, 2, none⟩ (.int .u64 t532)).setCell ⟨gb535, 3, none⟩ (.int .i64 t533)).heap[gb522]? = some (.cells #[.bool a1_0, .int .u64 a1_1, .int .u64 a1_2] 36 (0, 0))) := ⟨by refine zL ?_; refine blk_far ?_ NB522_535.out _; refine zL ?_; refine blk_far ?_ NB522_535.out _; refine zL ?_; refine blk_far ?_ NB522_535.out _; refine zL ?_; refine blk_far ?_ NB522_535.out _; refine zL ?_; exact BK522.out⟩
           have n2_ : Aside0 (((((w30.setCell ⟨gb535, 0, none⟩ (.bool t530)).setCell ⟨gb535, 1, none⟩ (.int .u64 t531)).setCell ⟨gb535, 2, none⟩ (.int .u64 t532)).setCell ⟨gb535, 3, none⟩ (.int .i64 t533)).heap[gb523]? = some (.cells #[.bool false, .int .u64 0, .int .u64 0, .int .i64 0] 45 (0, 0))) := ⟨by refine zL ?_; refine blk_far ?_ NB523_535.out _; refine zL ?_; refine blk_far ?_ NB523_535.out _; refine zL ?_; refine blk_far ?_ NB523_535.out _; refine zL ?_; refine blk_far ?_ NB523_535.out _; refine zL ?_; exact BK523.out⟩
           have n3_ : Aside0 (((((w30.setCell ⟨gb535, 0, none⟩ (.bool t530)).setCell ⟨gb535, 1, none⟩ (.int .u64 t531)).setCell ⟨gb535, 2, none⟩ (.int .u64 t532)).setCell ⟨gb535, 3, none⟩ (.int .i64 t533)).heap[gb529]? = some (.cells #[.bool x530000_2, .int .u64 x530001_2, .int .u64 x530002_2, .int .i64 x530003_2] 45 (0, 0))) := ⟨by refine zL ?_; refine blk_far ?_ NB529_535.out _; refine zL ?_; refine blk_far ?_ NB529_535.out _; refine zL ?_; refine blk_far ?_ NB529_535.out _; refine zL ?_; refine blk_far ?_ NB529_535.out _; refine zL ?_; exact BK529.out⟩
           have n4_ : Aside0 (((((w30.setCell ⟨gb535, 0, none⟩ (.bool t530)).setCell ⟨gb535, 1, none⟩ (.int .u64 t531)).setCell ⟨gb535, 2, none⟩ (.int .u64 t532)).setCell ⟨gb535, 3, none⟩ (.int .i64 t533)).heap[gb535]? = some (.cells #[.bool t530, .int .u64 t531, .int .u64 t532, .int .i64 t533] 45 (0, 0))) := ⟨by refine zL ?_; refine blk_put (cs := #[.bool t530, .int .u64 t531, .int .u64 t532, .int .i64 0]) ?_ 3 _ rfl; refine zL ?_; refine blk_put (cs := #[.bool t530, .int .u64 t531, .int .u64 0, .int .i64 0]) ?_ 2 _ rfl; refine zL ?_; refine blk_put (cs := #[.bool t530, .int .u64 0, .int .u64 0, .int .i64 0]) ?_ 1 _ rfl; refine zL ?_; refine blk_put (cs := #[.bool false, .int .u64 0, .int .u64 0, .int .i64 0]) ?_ 0 _ rfl; refine zL ?_; exact BK535.out⟩
           have n5_ : Aside0 (Below w.heap.size w ((((w30.setCell ⟨gb535, 0, none⟩ (.bool t530)).setCell ⟨gb535, 1, none⟩ (.int .u64 t531)).setCell ⟨gb535, 2, none⟩ (.int .u64 t532)).setCell ⟨gb535, 3, none⟩ (.int .i64 t533))) := ⟨zB HB⟩
           (try clear BK521)
           (try clear BK522)
           (try clear BK523)
           (try clear BK529)
           (try clear BK535)
           (try clear HB)
           generalize ((((w30.setCell ⟨gb535, 0, none⟩ (.bool t530)).setCell ⟨gb535, 1, none⟩ (.int .u64 t531)).setCell ⟨gb535, 2, none⟩ (.int .u64 t532)).setCell ⟨gb535, 3, none⟩ (.int .i64 t533)) = w36 at n0_ n1_ n2_ n3_ n4_ n5_ ⊢
           have BK521 := n0_
           have BK522 := n1_
           have BK523 := n2_
           have BK529 := n3_
           have BK535 := n4_
           have HB := n5_
           clear n0_ n1_ n2_ n3_ n4_ n5_
           replace BK521 := Aside0.mk (blk_drew BK521.out)
           replace BK522 := Aside0.mk (blk_drew BK522.out)
           replace BK523 := Aside0.mk (blk_drew BK523.out)
           replace BK529 := Aside0.mk (blk_drew BK529.out)
           replace BK535 := Aside0.mk (blk_drew BK535.out)
           replace HB := Aside0.mk (below_drew1 HB.out)
           refine start_ (n := 16) (S := fun w' => w'.cell? ⟨gb535, 0, none⟩ = some (.bool t530) ∧ w'.cell? ⟨gb535, 1, none⟩ = some (.int .u64 t531) ∧ w'.cell? ⟨gb535, 2, none⟩ = some (.int .u64 t532) ∧ w'.cell? ⟨gb535, 3, none⟩ = some (.int .i64 t533) ∧ w'.cell? ⟨gb521, 0, none⟩ = some (.bool a0_0) ∧ w'.cell? ⟨gb521, 1, none⟩ = some (.int .u64 a0_1) ∧ w'.cell? ⟨gb521, 2, none⟩ = some (.int .u64 a0_2)) (ds := []) #[false, false, false, false, false, false, false, false, false, false, false, false, false, false, false, false] (by kernel_rfl) rfl rfl ⟨zc BK535 0, zc BK535 1, zc BK535 2, zc BK535 3, zc BK521 0, zc BK521 1, zc BK521 2⟩ (fun hHeld => ?_); refine with_tabW addrset_greatest.tab8 addrset_greatest.bits8 (fun HT_ HW_ => ?_)
           generalize w36.drew = w37 at BK521 BK522 BK523 BK529 BK535 HB hHeld ⊢
           refine zp 0 28 HT_ ?_; refine zp 1 29 HT_ ?_; refine zp 2 30 HT_ ?_; refine zp 3 31 HT_ ?_; refine zt 4 32 HT_ HW_ hHeld ?_; refine zt 5 33 HT_ HW_ hHeld ?_; refine zp 6 34 HT_ ?_; refine zp 7 35 HT_ ?_; refine zp 8 36 HT_ ?_; refine zu 9 37 HT_ ?_; refine zu 10 38 HT_ ?_; refine zu 11 39 HT_ ?_; refine zu 12 40 HT_ ?_; refine zu 13 41 HT_ ?_; refine zu 14 42 HT_ ?_; refine zp 15 43 HT_ ?_; refine zd HT_ ?_
           have hnb38 := NB529_522.out
           have hnc38 := NB522_529.out
           have hnb39 := NB529_523.out
           have hnc39 := NB523_529.out
           obtain ⟨hcz40_0, hcz40_1, hcz40_2, hcz40_3⟩ := zc4 BK529
           obtain ⟨hfz40_0, hfz40_1, hfz40_2, hfz40_3⟩ := zf4 BK529
           have hnb41 := NB523_522.out
           have hnc41 := NB522_523.out
           obtain ⟨hcz42_0, hcz42_1, hcz42_2, hcz42_3⟩ := zc4 BK523
           obtain ⟨hfz42_0, hfz42_1, hfz42_2, hfz42_3⟩ := zf4 BK523
           try go_wp2
           refine bodyPost_ret (results_cell_row rfl _ _ gb523 45 #[.bool x530000_2, .int .u64 x530001_2, .int .u64 x530002_2, .int .i64 x530003_2] (0, 0) _ rfl (by refine zL ?_; refine blk_put (cs := #[.bool x530000_2, .int .u64 x530001_2, .int .u64 x530002_2, .int .i64 0]) ?_ 3 _ rfl; refine zL ?_; refine blk_put (cs := #[.bool x530000_2, .int .u64 x530001_2, .int .u64 0, .int .i64 0]) ?_ 2 _ rfl; refine zL ?_; refine blk_put (cs := #[.bool x530000_2, .int .u64 0, .int .u64 0, .int .i64 0]) ?_ 1 _ rfl; refine zL ?_; refine blk_put (cs := #[.bool false, .int .u64 0, .int .u64 0, .int .i64 0]) ?_ 0 _ rfl; refine zL ?_; exact BK523.out) Try.underlying45 rfl (by kernel_rfl)) rfl ?_
           exact ⟨by first | rfl | (simp [errW_none, errW_some] <;> rfl) | (simp [*, errW_none, errW_some] <;> rfl), by repeat (first | (with_reducible first | exact HB.out | apply below_alloc | apply pw_below_drewN | apply below_drew1 | refine below_set ?_ GE521.out | refine below_set ?_ GE522.out | refine below_set ?_ GE523.out | refine below_set ?_ GE529.out | refine below_set ?_ GE535.out) | exact HB.out)⟩
         · rw [if_neg c24] at H
           have c24b0 : (!(t530 == a0_0) || (!(t531 == a0_1) || (!(t532 == a0_2)))) = false := by simpa using c24
           clear c24
           replace H := Option.bind_eq_some_iff.mp H
           obtain ⟨⟨t536, t537, t538, t539, t540, t541⟩, A430, H⟩ := H
           replace H : ((address_Compare.f t539 t540 t541 a1_0 a1_1 a1_2).bind fun t542 => (if t542 > 0 then (some (x530000_2, x530001_2, x530002_2, x530003_2)) else (addrset_greatest.l0 k2 (wrap64 (x5_2 - 1)) a0_0 a0_1 a0_2 a1_0 a1_1 a1_2 t530 t531 t532 t533))) = some (r1, r2, r3, r4) := H
           have A43 := Aside0.mk A430
           clear A430
           replace H := Option.bind_eq_some_iff.mp H
           obtain ⟨t542, A440, H⟩ := H
           replace H : (if t542 > 0 then (some (x530000_2, x530001_2, x530002_2, x530003_2)) else (addrset_greatest.l0 k2 (wrap64 (x5_2 - 1)) a0_0 a0_1 a0_2 a1_0 a1_1 a1_2 t530 t531 t532 t533)) = some (r1, r2, r3, r4) := H
           have A44 := Aside0.mk A440
           clear A440
           by_cases c45 : t542 > 0
           · rw [if_pos c45] at H
             have c45b0 : decide (0 < t542) = true := decide_eq_true c45
             clear c45
             simp only [Option.some.injEq, Prod.mk.injEq] at H
             obtain ⟨rfl, rfl, rfl, rfl⟩ := H
             have hnb46 := NB521_522.out
             have hnc46 := NB522_521.out
             have hnb47 := NB521_523.out
             have hnc47 := NB523_521.out
             have hnb48 := NB521_529.out
             have hnc48 := NB529_521.out
             obtain ⟨hcz49_0, hcz49_1, hcz49_2⟩ := zc3 BK521
             obtain ⟨hfz49_0, hfz49_1, hfz49_2⟩ := zf3 BK521
             try go_wp2_with (first | ((with_reducible refine gate_callee (f := 108) rfl ?_); refine goesL_ (some 25) rfl rfl Try.func108 (by kernel_rfl) rfl #[.agg #[.bool a0_0, .int .u64 a0_1, .int .u64 a0_2], .int .i64 (wrap64 (x5_2 - 1))] rfl (by (try simp only [List.map_toArray, List.map_cons, List.map_nil]); first | done | rfl | (simp only [List.length_drop, List.length_take]; rfl)) ?_; (with_reducible refine (address_MakePrefix.calls a0_0 a0_1 a0_2 (wrap64 (x5_2 - 1)) t530 t531 t532 t533 t534 _ A22.out).mono ?_); rintro e w50 ⟨rfl, hb⟩; refine ⟨_, rfl, ?_⟩; replace BK521 := Aside0.mk (blk_below (g := gb521) (o := .cells #[.bool a0_0, .int .u64 a0_1, .int .u64 a0_2] 36 (0, 0)) (zK BK521) hb); replace BK522 := Aside0.mk (blk_below (g := gb522) (o := .cells #[.bool a1_0, .int .u64 a1_1, .int .u64 a1_2] 36 (0, 0)) (zK BK522) hb); replace BK523 := Aside0.mk (blk_below (g := gb523) (o := .cells #[.bool false, .int .u64 0, .int .u64 0, .int .i64 0] 45 (0, 0)) (zK BK523) hb); replace BK529 := Aside0.mk (blk_below (g := gb529) (o := .cells #[.bool x530000_2, .int .u64 x530001_2, .int .u64 x530002_2, .int .i64 x530003_2] 45 (0, 0)) (zK BK529) hb); replace HB := Aside0.mk (below_step (zB HB) hb); (try clear hb)) | ((with_reducible refine gate_dst (N := 8) rfl ?_); refine zx 8 #[.bool false, .int .u64 0, .int .u64 0, .int .i64 0] 45 ?_; intro gb535 hg w51 hbox hb; have BK535 := Aside0.mk (hbox); have GW535 := Aside0.mk ((by rw [hg]; exact (below_size (zB HB)) : w.heap.size ≤ gb535)); have GE535 := Aside0.mk ((by rw [hg]; exact (below_size (zB HB)) : w.heap.size ≤ gb535)); replace HB := Aside0.mk (below_step (zB HB) hb); have NB521_535 := Aside0.mk ((by rw [hg]; exact Nat.ne_of_lt (blk_lt (g := gb521) (o := .cells #[.bool a0_0, .int .u64 a0_1, .int .u64 a0_2] 36 (0, 0)) (zK BK521)) : gb521 ≠ gb535)); have NB535_521 := Aside0.mk ((by rw [hg]; exact Nat.ne_of_gt (blk_lt (g := gb521) (o := .cells #[.bool a0_0, .int .u64 a0_1, .int .u64 a0_2] 36 (0, 0)) (zK BK521)) : gb535 ≠ gb521)); replace BK521 := Aside0.mk (blk_below (g := gb521) (o := .cells #[.bool a0_0, .int .u64 a0_1, .int .u64 a0_2] 36 (0, 0)) (zK BK521) hb); have NB522_535 := Aside0.mk ((by rw [hg]; exact Nat.ne_of_lt (blk_lt (g := gb522) (o := .cells #[.bool a1_0, .int .u64 a1_1, .int .u64 a1_2] 36 (0, 0)) (zK BK522)) : gb522 ≠ gb535)); have NB535_522 := Aside0.mk ((by rw [hg]; exact Nat.ne_of_gt (blk_lt (g := gb522) (o := .cells #[.bool a1_0, .int .u64 a1_1, .int .u64 a1_2] 36 (0, 0)) (zK BK522)) : gb535 ≠ gb522)); replace BK522 := Aside0.mk (blk_below (g := gb522) (o := .cells #[.bool a1_0, .int .u64 a1_1, .int .u64 a1_2] 36 (0, 0)) (zK BK522) hb); have NB523_535 := Aside0.mk ((by rw [hg]; exact Nat.ne_of_lt (blk_lt (g := gb523) (o := .cells #[.bool false, .int .u64 0, .int .u64 0, .int .i64 0] 45 (0, 0)) (zK BK523)) : gb523 ≠ gb535)); have NB535_523 := Aside0.mk ((by rw [hg]; exact Nat.ne_of_gt (blk_lt (g := gb523) (o := .cells #[.bool false, .int .u64 0, .int .u64 0, .int .i64 0] 45 (0, 0)) (zK BK523)) : gb535 ≠ gb523)); replace BK523 := Aside0.mk (blk_below (g := gb523) (o := .cells #[.bool false, .int .u64 0, .int .u64 0, .int .i64 0] 45 (0, 0)) (zK BK523) hb); have NB529_535 := Aside0.mk ((by rw [hg]; exact Nat.ne_of_lt (blk_lt (g := gb529) (o := .cells #[.bool x530000_2, .int .u64 x530001_2, .int .u64 x530002_2, .int .i64 x530003_2] 45 (0, 0)) (zK BK529)) : gb529 ≠ gb535)); have NB535_529 := Aside0.mk ((by rw [hg]; exact Nat.ne_of_gt (blk_lt (g := gb529) (o := .cells #[.bool x530000_2, .int .u64 x530001_2, .int .u64 x530002_2, .int .i64 x530003_2] 45 (0, 0)) (zK BK529)) : gb535 ≠ gb529)); replace BK529 := Aside0.mk (blk_below (g := gb529) (o := .cells #[.bool x530000_2, .int .u64 x530001_2, .int .u64 x530002_2, .int .i64 x530003_2] 45 (0, 0)) (zK BK529) hb); clear hb hbox hg; have hnb52 := NB535_521.out; have hnc52 := NB521_535.out; have hnb53 := NB535_522.out; have hnc53 := NB522_535.out; have hnb54 := NB535_523.out; have hnc54 := NB523_535.out; have hnb55 := NB535_529.out; have hnc55 := NB529_535.out; obtain ⟨hcz56_0, hcz56_1, hcz56_2, hcz56_3⟩ := zc4 BK535; obtain ⟨hfz56_0, hfz56_1, hfz56_2, hfz56_3⟩ := zf4 BK535))
             have n0_ : Aside0 (((((w51.setCell ⟨gb535, 0, none⟩ (.bool t530)).setCell ⟨gb535, 1, none⟩ (.int .u64 t531)).setCell ⟨gb535, 2, none⟩ (.int .u64 t532)).setCell ⟨gb535, 3, none⟩ (.int .i64 t533)).heap[gb521]? = some (.cells #[.bool a0_0, .int .u64 a0_1, .int .u64 a0_2] 36 (0, 0))) := ⟨by refine zL ?_; refine blk_far ?_ NB521_535.out _; refine zL ?_; refine blk_far ?_ NB521_535.out _; refine zL ?_; refine blk_far ?_ NB521_535.out _; refine zL ?_; refine blk_far ?_ NB521_535.out _; refine zL ?_; exact BK521.out⟩
             have n1_ : Aside0 (((((w51.setCell ⟨gb535, 0, none⟩ (.bool t530)).setCell ⟨gb535, 1, none⟩ (.int .u64 t531)).setCell ⟨gb535, 2, none⟩ (.int .u64 t532)).setCell ⟨gb535, 3, none⟩ (.int .i64 t533)).heap[gb522]? = some (.cells #[.bool a1_0, .int .u64 a1_1, .int .u64 a1_2] 36 (0, 0))) := ⟨by refine zL ?_; refine blk_far ?_ NB522_535.out _; refine zL ?_; refine blk_far ?_ NB522_535.out _; refine zL ?_; refine blk_far ?_ NB522_535.out _; refine zL ?_; refine blk_far ?_ NB522_535.out _; refine zL ?_; exact BK522.out⟩
             have n2_ : Aside0 (((((w51.setCell ⟨gb535, 0, none⟩ (.bool t530)).setCell ⟨gb535, 1, none⟩ (.int .u64 t531)).setCell ⟨gb535, 2, none⟩ (.int .u64 t532)).setCell ⟨gb535, 3, none⟩ (.int .i64 t533)).heap[gb523]? = some (.cells #[.bool false, .int .u64 0, .int .u64 0, .int .i64 0] 45 (0, 0))) := ⟨by refine zL ?_; refine blk_far ?_ NB523_535.out _; refine zL ?_; refine blk_far ?_ NB523_535.out _; refine zL ?_; refine blk_far ?_ NB523_535.out _; refine zL ?_; refine blk_far ?_ NB523_535.out _; refine zL ?_; exact BK523.out⟩
             have n3_ : Aside0 (((((w51.setCell ⟨gb535, 0, none⟩ (.bool t530)).setCell ⟨gb535, 1, none⟩ (.int .u64 t531)).setCell ⟨gb535, 2, none⟩ (.int .u64 t532)).setCell ⟨gb535, 3, none⟩ (.int .i64 t533)).heap[gb529]? = some (.cells #[.bool x530000_2, .int .u64 x530001_2, .int .u64 x530002_2, .int .i64 x530003_2] 45 (0, 0))) := ⟨by refine zL ?_; refine blk_far ?_ NB529_535.out _; refine zL ?_; refine blk_far ?_ NB529_535.out _; refine zL ?_; refine blk_far ?_ NB529_535.out _; refine zL ?_; refine blk_far ?_ NB529_535.out _; refine zL ?_; exact BK529.out⟩
             have n4_ : Aside0 (((((w51.setCell ⟨gb535, 0, none⟩ (.bool t530)).setCell ⟨gb535, 1, none⟩ (.int .u64 t531)).setCell ⟨gb535, 2, none⟩ (.int .u64 t532)).setCell ⟨gb535, 3, none⟩ (.int .i64 t533)).heap[gb535]? = some (.cells #[.bool t530, .int .u64 t531, .int .u64 t532, .int .i64 t533] 45 (0, 0))) := ⟨by refine zL ?_; refine blk_put (cs := #[.bool t530, .int .u64 t531, .int .u64 t532, .int .i64 0]) ?_ 3 _ rfl; refine zL ?_; refine blk_put (cs := #[.bool t530, .int .u64 t531, .int .u64 0, .int .i64 0]) ?_ 2 _ rfl; refine zL ?_; refine blk_put (cs := #[.bool t530, .int .u64 0, .int .u64 0, .int .i64 0]) ?_ 1 _ rfl; refine zL ?_; refine blk_put (cs := #[.bool false, .int .u64 0, .int .u64 0, .int .i64 0]) ?_ 0 _ rfl; refine zL ?_; exact BK535.out⟩
             have n5_ : Aside0 (Below w.heap.size w ((((w51.setCell ⟨gb535, 0, none⟩ (.bool t530)).setCell ⟨gb535, 1, none⟩ (.int .u64 t531)).setCell ⟨gb535, 2, none⟩ (.int .u64 t532)).setCell ⟨gb535, 3, none⟩ (.int .i64 t533))) := ⟨zB HB⟩
             (try clear BK521)
             (try clear BK522)
             (try clear BK523)
             (try clear BK529)
             (try clear BK535)
             (try clear HB)
             generalize ((((w51.setCell ⟨gb535, 0, none⟩ (.bool t530)).setCell ⟨gb535, 1, none⟩ (.int .u64 t531)).setCell ⟨gb535, 2, none⟩ (.int .u64 t532)).setCell ⟨gb535, 3, none⟩ (.int .i64 t533)) = w57 at n0_ n1_ n2_ n3_ n4_ n5_ ⊢
             have BK521 := n0_
             have BK522 := n1_
             have BK523 := n2_
             have BK529 := n3_
             have BK535 := n4_
             have HB := n5_
             clear n0_ n1_ n2_ n3_ n4_ n5_
             replace BK521 := Aside0.mk (blk_drew BK521.out)
             replace BK522 := Aside0.mk (blk_drew BK522.out)
             replace BK523 := Aside0.mk (blk_drew BK523.out)
             replace BK529 := Aside0.mk (blk_drew BK529.out)
             replace BK535 := Aside0.mk (blk_drew BK535.out)
             replace HB := Aside0.mk (below_drew1 HB.out)
             refine start_ (n := 16) (S := fun w' => w'.cell? ⟨gb535, 0, none⟩ = some (.bool t530) ∧ w'.cell? ⟨gb535, 1, none⟩ = some (.int .u64 t531) ∧ w'.cell? ⟨gb535, 2, none⟩ = some (.int .u64 t532) ∧ w'.cell? ⟨gb535, 3, none⟩ = some (.int .i64 t533) ∧ w'.cell? ⟨gb521, 0, none⟩ = some (.bool a0_0) ∧ w'.cell? ⟨gb521, 1, none⟩ = some (.int .u64 a0_1) ∧ w'.cell? ⟨gb521, 2, none⟩ = some (.int .u64 a0_2) ∧ w'.cell? ⟨gb522, 0, none⟩ = some (.bool a1_0) ∧ w'.cell? ⟨gb522, 1, none⟩ = some (.int .u64 a1_1) ∧ w'.cell? ⟨gb522, 2, none⟩ = some (.int .u64 a1_2)) (ds := []) #[false, false, false, false, false, false, false, false, false, false, false, false, false, false, false, false] (by kernel_rfl) rfl rfl ⟨zc BK535 0, zc BK535 1, zc BK535 2, zc BK535 3, zc BK521 0, zc BK521 1, zc BK521 2, zc BK522 0, zc BK522 1, zc BK522 2⟩ (fun hHeld => ?_); refine with_tabW addrset_greatest.tab8 addrset_greatest.bits8 (fun HT_ HW_ => ?_)
             generalize w57.drew = w58 at BK521 BK522 BK523 BK529 BK535 HB hHeld ⊢
             refine zp 0 28 HT_ ?_; refine zp 1 29 HT_ ?_; refine zp 2 30 HT_ ?_; refine zp 3 31 HT_ ?_; refine zt 4 32 HT_ HW_ hHeld ?_; refine zt 5 33 HT_ HW_ hHeld ?_; refine zp 6 34 HT_ ?_; refine zp 7 35 HT_ ?_; refine zp 8 36 HT_ ?_; refine zt 9 37 HT_ HW_ hHeld ?_; refine zt 12 40 HT_ HW_ hHeld ?_; refine zo 10 38 HT_ (fun K hK => ?_)
             refine zg Try.func87 #[.agg #[.bool t530, .int .u64 t531, .int .u64 t532, .int .i64 t533]] ?_
             with_reducible refine (address_Bounds.calls t530 t531 t532 t533 t536 t537 t538 t539 t540 t541 _ A43.out).mono ?_
             rintro e w59 ⟨rfl, hb⟩
             refine ⟨_, rfl, ?_⟩
             replace BK521 := Aside0.mk (blk_below (g := gb521) (o := .cells #[.bool a0_0, .int .u64 a0_1, .int .u64 a0_2] 36 (0, 0)) (zK BK521) hb)
             replace BK522 := Aside0.mk (blk_below (g := gb522) (o := .cells #[.bool a1_0, .int .u64 a1_1, .int .u64 a1_2] 36 (0, 0)) (zK BK522) hb)
             replace BK523 := Aside0.mk (blk_below (g := gb523) (o := .cells #[.bool false, .int .u64 0, .int .u64 0, .int .i64 0] 45 (0, 0)) (zK BK523) hb)
             replace BK529 := Aside0.mk (blk_below (g := gb529) (o := .cells #[.bool x530000_2, .int .u64 x530001_2, .int .u64 x530002_2, .int .i64 x530003_2] 45 (0, 0)) (zK BK529) hb)
             replace BK535 := Aside0.mk (blk_below (g := gb535) (o := .cells #[.bool t530, .int .u64 t531, .int .u64 t532, .int .i64 t533] 45 (0, 0)) (zK BK535) hb)
             replace HB := Aside0.mk (below_step (zB HB) hb)
             (try clear hb)
             refine hK.out _ _ ⟨zc BK535 0, zc BK535 1, zc BK535 2, zc BK535 3, zc BK521 0, zc BK521 1, zc BK521 2, zc BK522 0, zc BK522 1, zc BK522 2⟩ (fun hHeld => ?_)
             clear hK K
             refine zn 38 ?_; refine zp 11 39 HT_ ?_; refine zo 13 41 HT_ (fun K hK => ?_)
             refine zg Try.func75 #[.agg #[.bool t539, .int .u64 t540, .int .u64 t541], .agg #[.bool a1_0, .int .u64 a1_1, .int .u64 a1_2]] ?_
             with_reducible refine (address_Compare.calls t539 t540 t541 a1_0 a1_1 a1_2 t542 _ A44.out).mono ?_
             rintro e w60 ⟨rfl, hb⟩
             refine ⟨_, rfl, ?_⟩
             replace BK521 := Aside0.mk (blk_below (g := gb521) (o := .cells #[.bool a0_0, .int .u64 a0_1, .int .u64 a0_2] 36 (0, 0)) (zK BK521) hb)
             replace BK522 := Aside0.mk (blk_below (g := gb522) (o := .cells #[.bool a1_0, .int .u64 a1_1, .int .u64 a1_2] 36 (0, 0)) (zK BK522) hb)
             replace BK523 := Aside0.mk (blk_below (g := gb523) (o := .cells #[.bool false, .int .u64 0, .int .u64 0, .int .i64 0] 45 (0, 0)) (zK BK523) hb)
             replace BK529 := Aside0.mk (blk_below (g := gb529) (o := .cells #[.bool x530000_2, .int .u64 x530001_2, .int .u64 x530002_2, .int .i64 x530003_2] 45 (0, 0)) (zK BK529) hb)
             replace BK535 := Aside0.mk (blk_below (g := gb535) (o := .cells #[.bool t530, .int .u64 t531, .int .u64 t532, .int .i64 t533] 45 (0, 0)) (zK BK535) hb)
             replace HB := Aside0.mk (below_step (zB HB) hb)
             (try clear hb)
             refine hK.out _ _ ⟨zc BK535 0, zc BK535 1, zc BK535 2, zc BK535 3, zc BK521 0, zc BK521 1, zc BK521 2, zc BK522 0, zc BK522 1, zc BK522 2⟩ (fun hHeld => ?_)
             clear hK K
             refine zn 41 ?_; refine zp 14 42 HT_ ?_; refine zp 15 43 HT_ ?_; refine zd HT_ ?_
             have hnb61 := NB529_522.out
             have hnc61 := NB522_529.out
             have hnb62 := NB529_523.out
             have hnc62 := NB523_529.out
             obtain ⟨hcz63_0, hcz63_1, hcz63_2, hcz63_3⟩ := zc4 BK529
             obtain ⟨hfz63_0, hfz63_1, hfz63_2, hfz63_3⟩ := zf4 BK529
             have hnb64 := NB523_522.out
             have hnc64 := NB522_523.out
             obtain ⟨hcz65_0, hcz65_1, hcz65_2, hcz65_3⟩ := zc4 BK523
             obtain ⟨hfz65_0, hfz65_1, hfz65_2, hfz65_3⟩ := zf4 BK523
             try go_wp2
             refine bodyPost_ret (results_cell_row rfl _ _ gb523 45 #[.bool x530000_2, .int .u64 x530001_2, .int .u64 x530002_2, .int .i64 x530003_2] (0, 0) _ rfl (by refine zL ?_; refine blk_put (cs := #[.bool x530000_2, .int .u64 x530001_2, .int .u64 x530002_2, .int .i64 0]) ?_ 3 _ rfl; refine zL ?_; refine blk_put (cs := #[.bool x530000_2, .int .u64 x530001_2, .int .u64 0, .int .i64 0]) ?_ 2 _ rfl; refine zL ?_; refine blk_put (cs := #[.bool x530000_2, .int .u64 0, .int .u64 0, .int .i64 0]) ?_ 1 _ rfl; refine zL ?_; refine blk_put (cs := #[.bool false, .int .u64 0, .int .u64 0, .int .i64 0]) ?_ 0 _ rfl; refine zL ?_; exact BK523.out) Try.underlying45 rfl (by kernel_rfl)) rfl ?_
             exact ⟨by first | rfl | (simp [errW_none, errW_some] <;> rfl) | (simp [*, errW_none, errW_some] <;> rfl), by repeat (first | (with_reducible first | exact HB.out | apply below_alloc | apply pw_below_drewN | apply below_drew1 | refine below_set ?_ GE521.out | refine below_set ?_ GE522.out | refine below_set ?_ GE523.out | refine below_set ?_ GE529.out | refine below_set ?_ GE535.out) | exact HB.out)⟩
           · rw [if_neg c45] at H
             have c45b0 : decide (0 < t542) = false := decide_eq_false c45
             clear c45
             have H' := Aside0.mk H
             clear H
             have hnb66 := NB521_522.out
             have hnc66 := NB522_521.out
             have hnb67 := NB521_523.out
             have hnc67 := NB523_521.out
             have hnb68 := NB521_529.out
             have hnc68 := NB529_521.out
             obtain ⟨hcz69_0, hcz69_1, hcz69_2⟩ := zc3 BK521
             obtain ⟨hfz69_0, hfz69_1, hfz69_2⟩ := zf3 BK521
             try go_wp2_with (first | ((with_reducible refine gate_callee (f := 108) rfl ?_); refine goesL_ (some 25) rfl rfl Try.func108 (by kernel_rfl) rfl #[.agg #[.bool a0_0, .int .u64 a0_1, .int .u64 a0_2], .int .i64 (wrap64 (x5_2 - 1))] rfl (by (try simp only [List.map_toArray, List.map_cons, List.map_nil]); first | done | rfl | (simp only [List.length_drop, List.length_take]; rfl)) ?_; (with_reducible refine (address_MakePrefix.calls a0_0 a0_1 a0_2 (wrap64 (x5_2 - 1)) t530 t531 t532 t533 t534 _ A22.out).mono ?_); rintro e w70 ⟨rfl, hb⟩; refine ⟨_, rfl, ?_⟩; replace BK521 := Aside0.mk (blk_below (g := gb521) (o := .cells #[.bool a0_0, .int .u64 a0_1, .int .u64 a0_2] 36 (0, 0)) (zK BK521) hb); replace BK522 := Aside0.mk (blk_below (g := gb522) (o := .cells #[.bool a1_0, .int .u64 a1_1, .int .u64 a1_2] 36 (0, 0)) (zK BK522) hb); replace BK523 := Aside0.mk (blk_below (g := gb523) (o := .cells #[.bool false, .int .u64 0, .int .u64 0, .int .i64 0] 45 (0, 0)) (zK BK523) hb); replace BK529 := Aside0.mk (blk_below (g := gb529) (o := .cells #[.bool x530000_2, .int .u64 x530001_2, .int .u64 x530002_2, .int .i64 x530003_2] 45 (0, 0)) (zK BK529) hb); replace HB := Aside0.mk (below_step (zB HB) hb); (try clear hb)) | ((with_reducible refine gate_dst (N := 8) rfl ?_); refine zx 8 #[.bool false, .int .u64 0, .int .u64 0, .int .i64 0] 45 ?_; intro gb535 hg w71 hbox hb; have BK535 := Aside0.mk (hbox); have GW535 := Aside0.mk ((by rw [hg]; exact (below_size (zB HB)) : w.heap.size ≤ gb535)); have GE535 := Aside0.mk ((by rw [hg]; exact (below_size (zB HB)) : w.heap.size ≤ gb535)); replace HB := Aside0.mk (below_step (zB HB) hb); have NB521_535 := Aside0.mk ((by rw [hg]; exact Nat.ne_of_lt (blk_lt (g := gb521) (o := .cells #[.bool a0_0, .int .u64 a0_1, .int .u64 a0_2] 36 (0, 0)) (zK BK521)) : gb521 ≠ gb535)); have NB535_521 := Aside0.mk ((by rw [hg]; exact Nat.ne_of_gt (blk_lt (g := gb521) (o := .cells #[.bool a0_0, .int .u64 a0_1, .int .u64 a0_2] 36 (0, 0)) (zK BK521)) : gb535 ≠ gb521)); replace BK521 := Aside0.mk (blk_below (g := gb521) (o := .cells #[.bool a0_0, .int .u64 a0_1, .int .u64 a0_2] 36 (0, 0)) (zK BK521) hb); have NB522_535 := Aside0.mk ((by rw [hg]; exact Nat.ne_of_lt (blk_lt (g := gb522) (o := .cells #[.bool a1_0, .int .u64 a1_1, .int .u64 a1_2] 36 (0, 0)) (zK BK522)) : gb522 ≠ gb535)); have NB535_522 := Aside0.mk ((by rw [hg]; exact Nat.ne_of_gt (blk_lt (g := gb522) (o := .cells #[.bool a1_0, .int .u64 a1_1, .int .u64 a1_2] 36 (0, 0)) (zK BK522)) : gb535 ≠ gb522)); replace BK522 := Aside0.mk (blk_below (g := gb522) (o := .cells #[.bool a1_0, .int .u64 a1_1, .int .u64 a1_2] 36 (0, 0)) (zK BK522) hb); have NB523_535 := Aside0.mk ((by rw [hg]; exact Nat.ne_of_lt (blk_lt (g := gb523) (o := .cells #[.bool false, .int .u64 0, .int .u64 0, .int .i64 0] 45 (0, 0)) (zK BK523)) : gb523 ≠ gb535)); have NB535_523 := Aside0.mk ((by rw [hg]; exact Nat.ne_of_gt (blk_lt (g := gb523) (o := .cells #[.bool false, .int .u64 0, .int .u64 0, .int .i64 0] 45 (0, 0)) (zK BK523)) : gb535 ≠ gb523)); replace BK523 := Aside0.mk (blk_below (g := gb523) (o := .cells #[.bool false, .int .u64 0, .int .u64 0, .int .i64 0] 45 (0, 0)) (zK BK523) hb); have NB529_535 := Aside0.mk ((by rw [hg]; exact Nat.ne_of_lt (blk_lt (g := gb529) (o := .cells #[.bool x530000_2, .int .u64 x530001_2, .int .u64 x530002_2, .int .i64 x530003_2] 45 (0, 0)) (zK BK529)) : gb529 ≠ gb535)); have NB535_529 := Aside0.mk ((by rw [hg]; exact Nat.ne_of_gt (blk_lt (g := gb529) (o := .cells #[.bool x530000_2, .int .u64 x530001_2, .int .u64 x530002_2, .int .i64 x530003_2] 45 (0, 0)) (zK BK529)) : gb535 ≠ gb529)); replace BK529 := Aside0.mk (blk_below (g := gb529) (o := .cells #[.bool x530000_2, .int .u64 x530001_2, .int .u64 x530002_2, .int .i64 x530003_2] 45 (0, 0)) (zK BK529) hb); clear hb hbox hg; have hnb72 := NB535_521.out; have hnc72 := NB521_535.out; have hnb73 := NB535_522.out; have hnc73 := NB522_535.out; have hnb74 := NB535_523.out; have hnc74 := NB523_535.out; have hnb75 := NB535_529.out; have hnc75 := NB529_535.out; obtain ⟨hcz76_0, hcz76_1, hcz76_2, hcz76_3⟩ := zc4 BK535; obtain ⟨hfz76_0, hfz76_1, hfz76_2, hfz76_3⟩ := zf4 BK535))
             have n0_ : Aside0 (((((w71.setCell ⟨gb535, 0, none⟩ (.bool t530)).setCell ⟨gb535, 1, none⟩ (.int .u64 t531)).setCell ⟨gb535, 2, none⟩ (.int .u64 t532)).setCell ⟨gb535, 3, none⟩ (.int .i64 t533)).heap[gb521]? = some (.cells #[.bool a0_0, .int .u64 a0_1, .int .u64 a0_2] 36 (0, 0))) := ⟨by refine zL ?_; refine blk_far ?_ NB521_535.out _; refine zL ?_; refine blk_far ?_ NB521_535.out _; refine zL ?_; refine blk_far ?_ NB521_535.out _; refine zL ?_; refine blk_far ?_ NB521_535.out _; refine zL ?_; exact BK521.out⟩
             have n1_ : Aside0 (((((w71.setCell ⟨gb535, 0, none⟩ (.bool t530)).setCell ⟨gb535, 1, none⟩ (.int .u64 t531)).setCell ⟨gb535, 2, none⟩ (.int .u64 t532)).setCell ⟨gb535, 3, none⟩ (.int .i64 t533)).heap[gb522]? = some (.cells #[.bool a1_0, .int .u64 a1_1, .int .u64 a1_2] 36 (0, 0))) := ⟨by refine zL ?_; refine blk_far ?_ NB522_535.out _; refine zL ?_; refine blk_far ?_ NB522_535.out _; refine zL ?_; refine blk_far ?_ NB522_535.out _; refine zL ?_; refine blk_far ?_ NB522_535.out _; refine zL ?_; exact BK522.out⟩
             have n2_ : Aside0 (((((w71.setCell ⟨gb535, 0, none⟩ (.bool t530)).setCell ⟨gb535, 1, none⟩ (.int .u64 t531)).setCell ⟨gb535, 2, none⟩ (.int .u64 t532)).setCell ⟨gb535, 3, none⟩ (.int .i64 t533)).heap[gb523]? = some (.cells #[.bool false, .int .u64 0, .int .u64 0, .int .i64 0] 45 (0, 0))) := ⟨by refine zL ?_; refine blk_far ?_ NB523_535.out _; refine zL ?_; refine blk_far ?_ NB523_535.out _; refine zL ?_; refine blk_far ?_ NB523_535.out _; refine zL ?_; refine blk_far ?_ NB523_535.out _; refine zL ?_; exact BK523.out⟩
             have n3_ : Aside0 (((((w71.setCell ⟨gb535, 0, none⟩ (.bool t530)).setCell ⟨gb535, 1, none⟩ (.int .u64 t531)).setCell ⟨gb535, 2, none⟩ (.int .u64 t532)).setCell ⟨gb535, 3, none⟩ (.int .i64 t533)).heap[gb529]? = some (.cells #[.bool x530000_2, .int .u64 x530001_2, .int .u64 x530002_2, .int .i64 x530003_2] 45 (0, 0))) := ⟨by refine zL ?_; refine blk_far ?_ NB529_535.out _; refine zL ?_; refine blk_far ?_ NB529_535.out _; refine zL ?_; refine blk_far ?_ NB529_535.out _; refine zL ?_; refine blk_far ?_ NB529_535.out _; refine zL ?_; exact BK529.out⟩
             have n4_ : Aside0 (((((w71.setCell ⟨gb535, 0, none⟩ (.bool t530)).setCell ⟨gb535, 1, none⟩ (.int .u64 t531)).setCell ⟨gb535, 2, none⟩ (.int .u64 t532)).setCell ⟨gb535, 3, none⟩ (.int .i64 t533)).heap[gb535]? = some (.cells #[.bool t530, .int .u64 t531, .int .u64 t532, .int .i64 t533] 45 (0, 0))) := ⟨by refine zL ?_; refine blk_put (cs := #[.bool t530, .int .u64 t531, .int .u64 t532, .int .i64 0]) ?_ 3 _ rfl; refine zL ?_; refine blk_put (cs := #[.bool t530, .int .u64 t531, .int .u64 0, .int .i64 0]) ?_ 2 _ rfl; refine zL ?_; refine blk_put (cs := #[.bool t530, .int .u64 0, .int .u64 0, .int .i64 0]) ?_ 1 _ rfl; refine zL ?_; refine blk_put (cs := #[.bool false, .int .u64 0, .int .u64 0, .int .i64 0]) ?_ 0 _ rfl; refine zL ?_; exact BK535.out⟩
             have n5_ : Aside0 (Below w.heap.size w ((((w71.setCell ⟨gb535, 0, none⟩ (.bool t530)).setCell ⟨gb535, 1, none⟩ (.int .u64 t531)).setCell ⟨gb535, 2, none⟩ (.int .u64 t532)).setCell ⟨gb535, 3, none⟩ (.int .i64 t533))) := ⟨zB HB⟩
             (try clear BK521)
             (try clear BK522)
             (try clear BK523)
             (try clear BK529)
             (try clear BK535)
             (try clear HB)
             generalize ((((w71.setCell ⟨gb535, 0, none⟩ (.bool t530)).setCell ⟨gb535, 1, none⟩ (.int .u64 t531)).setCell ⟨gb535, 2, none⟩ (.int .u64 t532)).setCell ⟨gb535, 3, none⟩ (.int .i64 t533)) = w77 at n0_ n1_ n2_ n3_ n4_ n5_ ⊢
             have BK521 := n0_
             have BK522 := n1_
             have BK523 := n2_
             have BK529 := n3_
             have BK535 := n4_
             have HB := n5_
             clear n0_ n1_ n2_ n3_ n4_ n5_
             replace BK521 := Aside0.mk (blk_drew BK521.out)
             replace BK522 := Aside0.mk (blk_drew BK522.out)
             replace BK523 := Aside0.mk (blk_drew BK523.out)
             replace BK529 := Aside0.mk (blk_drew BK529.out)
             replace BK535 := Aside0.mk (blk_drew BK535.out)
             replace HB := Aside0.mk (below_drew1 HB.out)
             refine start_ (n := 16) (S := fun w' => w'.cell? ⟨gb535, 0, none⟩ = some (.bool t530) ∧ w'.cell? ⟨gb535, 1, none⟩ = some (.int .u64 t531) ∧ w'.cell? ⟨gb535, 2, none⟩ = some (.int .u64 t532) ∧ w'.cell? ⟨gb535, 3, none⟩ = some (.int .i64 t533) ∧ w'.cell? ⟨gb521, 0, none⟩ = some (.bool a0_0) ∧ w'.cell? ⟨gb521, 1, none⟩ = some (.int .u64 a0_1) ∧ w'.cell? ⟨gb521, 2, none⟩ = some (.int .u64 a0_2) ∧ w'.cell? ⟨gb522, 0, none⟩ = some (.bool a1_0) ∧ w'.cell? ⟨gb522, 1, none⟩ = some (.int .u64 a1_1) ∧ w'.cell? ⟨gb522, 2, none⟩ = some (.int .u64 a1_2)) (ds := []) #[false, false, false, false, false, false, false, false, false, false, false, false, false, false, false, false] (by kernel_rfl) rfl rfl ⟨zc BK535 0, zc BK535 1, zc BK535 2, zc BK535 3, zc BK521 0, zc BK521 1, zc BK521 2, zc BK522 0, zc BK522 1, zc BK522 2⟩ (fun hHeld => ?_); refine with_tabW addrset_greatest.tab8 addrset_greatest.bits8 (fun HT_ HW_ => ?_)
             generalize w77.drew = w78 at BK521 BK522 BK523 BK529 BK535 HB hHeld ⊢
             refine zp 0 28 HT_ ?_; refine zp 1 29 HT_ ?_; refine zp 2 30 HT_ ?_; refine zp 3 31 HT_ ?_; refine zt 4 32 HT_ HW_ hHeld ?_; refine zt 5 33 HT_ HW_ hHeld ?_; refine zp 6 34 HT_ ?_; refine zp 7 35 HT_ ?_; refine zp 8 36 HT_ ?_; refine zt 9 37 HT_ HW_ hHeld ?_; refine zt 12 40 HT_ HW_ hHeld ?_; refine zo 10 38 HT_ (fun K hK => ?_)
             refine zg Try.func87 #[.agg #[.bool t530, .int .u64 t531, .int .u64 t532, .int .i64 t533]] ?_
             with_reducible refine (address_Bounds.calls t530 t531 t532 t533 t536 t537 t538 t539 t540 t541 _ A43.out).mono ?_
             rintro e w79 ⟨rfl, hb⟩
             refine ⟨_, rfl, ?_⟩
             replace BK521 := Aside0.mk (blk_below (g := gb521) (o := .cells #[.bool a0_0, .int .u64 a0_1, .int .u64 a0_2] 36 (0, 0)) (zK BK521) hb)
             replace BK522 := Aside0.mk (blk_below (g := gb522) (o := .cells #[.bool a1_0, .int .u64 a1_1, .int .u64 a1_2] 36 (0, 0)) (zK BK522) hb)
             replace BK523 := Aside0.mk (blk_below (g := gb523) (o := .cells #[.bool false, .int .u64 0, .int .u64 0, .int .i64 0] 45 (0, 0)) (zK BK523) hb)
             replace BK529 := Aside0.mk (blk_below (g := gb529) (o := .cells #[.bool x530000_2, .int .u64 x530001_2, .int .u64 x530002_2, .int .i64 x530003_2] 45 (0, 0)) (zK BK529) hb)
             replace BK535 := Aside0.mk (blk_below (g := gb535) (o := .cells #[.bool t530, .int .u64 t531, .int .u64 t532, .int .i64 t533] 45 (0, 0)) (zK BK535) hb)
             replace HB := Aside0.mk (below_step (zB HB) hb)
             (try clear hb)
             refine hK.out _ _ ⟨zc BK535 0, zc BK535 1, zc BK535 2, zc BK535 3, zc BK521 0, zc BK521 1, zc BK521 2, zc BK522 0, zc BK522 1, zc BK522 2⟩ (fun hHeld => ?_)
             clear hK K
             refine zn 38 ?_; refine zp 11 39 HT_ ?_; refine zo 13 41 HT_ (fun K hK => ?_)
             refine zg Try.func75 #[.agg #[.bool t539, .int .u64 t540, .int .u64 t541], .agg #[.bool a1_0, .int .u64 a1_1, .int .u64 a1_2]] ?_
             with_reducible refine (address_Compare.calls t539 t540 t541 a1_0 a1_1 a1_2 t542 _ A44.out).mono ?_
             rintro e w80 ⟨rfl, hb⟩
             refine ⟨_, rfl, ?_⟩
             replace BK521 := Aside0.mk (blk_below (g := gb521) (o := .cells #[.bool a0_0, .int .u64 a0_1, .int .u64 a0_2] 36 (0, 0)) (zK BK521) hb)
             replace BK522 := Aside0.mk (blk_below (g := gb522) (o := .cells #[.bool a1_0, .int .u64 a1_1, .int .u64 a1_2] 36 (0, 0)) (zK BK522) hb)
             replace BK523 := Aside0.mk (blk_below (g := gb523) (o := .cells #[.bool false, .int .u64 0, .int .u64 0, .int .i64 0] 45 (0, 0)) (zK BK523) hb)
             replace BK529 := Aside0.mk (blk_below (g := gb529) (o := .cells #[.bool x530000_2, .int .u64 x530001_2, .int .u64 x530002_2, .int .i64 x530003_2] 45 (0, 0)) (zK BK529) hb)
             replace BK535 := Aside0.mk (blk_below (g := gb535) (o := .cells #[.bool t530, .int .u64 t531, .int .u64 t532, .int .i64 t533] 45 (0, 0)) (zK BK535) hb)
             replace HB := Aside0.mk (below_step (zB HB) hb)
             (try clear hb)
             refine hK.out _ _ ⟨zc BK535 0, zc BK535 1, zc BK535 2, zc BK535 3, zc BK521 0, zc BK521 1, zc BK521 2, zc BK522 0, zc BK522 1, zc BK522 2⟩ (fun hHeld => ?_)
             clear hK K
             refine zn 41 ?_; refine zp 14 42 HT_ ?_; refine zp 15 43 HT_ ?_; refine zd HT_ ?_
             obtain ⟨hcz81_0, hcz81_1, hcz81_2, hcz81_3⟩ := zc4 BK535
             obtain ⟨hfz81_0, hfz81_1, hfz81_2, hfz81_3⟩ := zf4 BK535
             have hnb82 := NB529_522.out
             have hnc82 := NB522_529.out
             have hnb83 := NB529_523.out
             have hnc83 := NB523_529.out
             obtain ⟨hcz84_0, hcz84_1, hcz84_2, hcz84_3⟩ := zc4 BK529
             obtain ⟨hfz84_0, hfz84_1, hfz84_2, hfz84_3⟩ := zf4 BK529
             try go_wp2
             go_roundg k2
             case measure => have := HJ2.out; have := HK2.out; omega
             case rel => exact ⟨(wrap64 (x5_2 - 1)), (t530), (t531), (t532), (t533), (by first | rfl | (simp; done) | (simp [*]; done)), H', ⟨by have := HJ2.out; have := HK2.out; omega⟩, ⟨by refine zL ?_; refine blk_far ?_ NB521_529.out _; refine zL ?_; refine blk_far ?_ NB521_529.out _; refine zL ?_; refine blk_far ?_ NB521_529.out _; refine zL ?_; refine blk_far ?_ NB521_529.out _; refine zL ?_; exact BK521.out⟩, ⟨by refine zL ?_; refine blk_far ?_ NB522_529.out _; refine zL ?_; refine blk_far ?_ NB522_529.out _; refine zL ?_; refine blk_far ?_ NB522_529.out _; refine zL ?_; refine blk_far ?_ NB522_529.out _; refine zL ?_; exact BK522.out⟩, ⟨by refine zL ?_; refine blk_far ?_ NB523_529.out _; refine zL ?_; refine blk_far ?_ NB523_529.out _; refine zL ?_; refine blk_far ?_ NB523_529.out _; refine zL ?_; refine blk_far ?_ NB523_529.out _; refine zL ?_; exact BK523.out⟩, ⟨by refine zL ?_; refine blk_put (cs := #[.bool t530, .int .u64 t531, .int .u64 t532, .int .i64 x530003_2]) ?_ 3 _ rfl; refine zL ?_; refine blk_put (cs := #[.bool t530, .int .u64 t531, .int .u64 x530002_2, .int .i64 x530003_2]) ?_ 2 _ rfl; refine zL ?_; refine blk_put (cs := #[.bool t530, .int .u64 x530001_2, .int .u64 x530002_2, .int .i64 x530003_2]) ?_ 1 _ rfl; refine zL ?_; refine blk_put (cs := #[.bool x530000_2, .int .u64 x530001_2, .int .u64 x530002_2, .int .i64 x530003_2]) ?_ 0 _ rfl; refine zL ?_; exact BK529.out⟩, ⟨zB HB⟩⟩
       · rw [if_neg c23] at H
         have c23b0 : (t534 == 0) = false := beq_eq_false_iff_ne.mpr c23
         have c23b1 : (t534 != 0) = true := bne_iff_ne.mpr c23
         simp only [Option.some.injEq, Prod.mk.injEq] at H
         obtain ⟨rfl, rfl, rfl, rfl⟩ := H
         have hnb85 := NB521_522.out
         have hnc85 := NB522_521.out
         have hnb86 := NB521_523.out
         have hnc86 := NB523_521.out
         have hnb87 := NB521_529.out
         have hnc87 := NB529_521.out
         obtain ⟨hcz88_0, hcz88_1, hcz88_2⟩ := zc3 BK521
         obtain ⟨hfz88_0, hfz88_1, hfz88_2⟩ := zf3 BK521
         try go_wp2_with (first | ((with_reducible refine gate_callee (f := 108) rfl ?_); refine goesL_ (some 25) rfl rfl Try.func108 (by kernel_rfl) rfl #[.agg #[.bool a0_0, .int .u64 a0_1, .int .u64 a0_2], .int .i64 (wrap64 (x5_2 - 1))] rfl (by (try simp only [List.map_toArray, List.map_cons, List.map_nil]); first | done | rfl | (simp only [List.length_drop, List.length_take]; rfl)) ?_; (with_reducible refine (address_MakePrefix.calls a0_0 a0_1 a0_2 (wrap64 (x5_2 - 1)) t530 t531 t532 t533 t534 _ A22.out).mono ?_); rintro e w89 ⟨rfl, hb⟩; refine ⟨_, rfl, ?_⟩; replace BK521 := Aside0.mk (blk_below (g := gb521) (o := .cells #[.bool a0_0, .int .u64 a0_1, .int .u64 a0_2] 36 (0, 0)) (zK BK521) hb); replace BK522 := Aside0.mk (blk_below (g := gb522) (o := .cells #[.bool a1_0, .int .u64 a1_1, .int .u64 a1_2] 36 (0, 0)) (zK BK522) hb); replace BK523 := Aside0.mk (blk_below (g := gb523) (o := .cells #[.bool false, .int .u64 0, .int .u64 0, .int .i64 0] 45 (0, 0)) (zK BK523) hb); replace BK529 := Aside0.mk (blk_below (g := gb529) (o := .cells #[.bool x530000_2, .int .u64 x530001_2, .int .u64 x530002_2, .int .i64 x530003_2] 45 (0, 0)) (zK BK529) hb); replace HB := Aside0.mk (below_step (zB HB) hb); (try clear hb)) | ((with_reducible refine gate_dst (N := 8) rfl ?_); refine zx 8 #[.bool false, .int .u64 0, .int .u64 0, .int .i64 0] 45 ?_; intro gb535 hg w90 hbox hb; have BK535 := Aside0.mk (hbox); have GW535 := Aside0.mk ((by rw [hg]; exact (below_size (zB HB)) : w.heap.size ≤ gb535)); have GE535 := Aside0.mk ((by rw [hg]; exact (below_size (zB HB)) : w.heap.size ≤ gb535)); replace HB := Aside0.mk (below_step (zB HB) hb); have NB521_535 := Aside0.mk ((by rw [hg]; exact Nat.ne_of_lt (blk_lt (g := gb521) (o := .cells #[.bool a0_0, .int .u64 a0_1, .int .u64 a0_2] 36 (0, 0)) (zK BK521)) : gb521 ≠ gb535)); have NB535_521 := Aside0.mk ((by rw [hg]; exact Nat.ne_of_gt (blk_lt (g := gb521) (o := .cells #[.bool a0_0, .int .u64 a0_1, .int .u64 a0_2] 36 (0, 0)) (zK BK521)) : gb535 ≠ gb521)); replace BK521 := Aside0.mk (blk_below (g := gb521) (o := .cells #[.bool a0_0, .int .u64 a0_1, .int .u64 a0_2] 36 (0, 0)) (zK BK521) hb); have NB522_535 := Aside0.mk ((by rw [hg]; exact Nat.ne_of_lt (blk_lt (g := gb522) (o := .cells #[.bool a1_0, .int .u64 a1_1, .int .u64 a1_2] 36 (0, 0)) (zK BK522)) : gb522 ≠ gb535)); have NB535_522 := Aside0.mk ((by rw [hg]; exact Nat.ne_of_gt (blk_lt (g := gb522) (o := .cells #[.bool a1_0, .int .u64 a1_1, .int .u64 a1_2] 36 (0, 0)) (zK BK522)) : gb535 ≠ gb522)); replace BK522 := Aside0.mk (blk_below (g := gb522) (o := .cells #[.bool a1_0, .int .u64 a1_1, .int .u64 a1_2] 36 (0, 0)) (zK BK522) hb); have NB523_535 := Aside0.mk ((by rw [hg]; exact Nat.ne_of_lt (blk_lt (g := gb523) (o := .cells #[.bool false, .int .u64 0, .int .u64 0, .int .i64 0] 45 (0, 0)) (zK BK523)) : gb523 ≠ gb535)); have NB535_523 := Aside0.mk ((by rw [hg]; exact Nat.ne_of_gt (blk_lt (g := gb523) (o := .cells #[.bool false, .int .u64 0, .int .u64 0, .int .i64 0] 45 (0, 0)) (zK BK523)) : gb535 ≠ gb523)); replace BK523 := Aside0.mk (blk_below (g := gb523) (o := .cells #[.bool false, .int .u64 0, .int .u64 0, .int .i64 0] 45 (0, 0)) (zK BK523) hb); have NB529_535 := Aside0.mk ((by rw [hg]; exact Nat.ne_of_lt (blk_lt (g := gb529) (o := .cells #[.bool x530000_2, .int .u64 x530001_2, .int .u64 x530002_2, .int .i64 x530003_2] 45 (0, 0)) (zK BK529)) : gb529 ≠ gb535)); have NB535_529 := Aside0.mk ((by rw [hg]; exact Nat.ne_of_gt (blk_lt (g := gb529) (o := .cells #[.bool x530000_2, .int .u64 x530001_2, .int .u64 x530002_2, .int .i64 x530003_2] 45 (0, 0)) (zK BK529)) : gb535 ≠ gb529)); replace BK529 := Aside0.mk (blk_below (g := gb529) (o := .cells #[.bool x530000_2, .int .u64 x530001_2, .int .u64 x530002_2, .int .i64 x530003_2] 45 (0, 0)) (zK BK529) hb); clear hb hbox hg; have hnb91 := NB535_521.out; have hnc91 := NB521_535.out; have hnb92 := NB535_522.out; have hnc92 := NB522_535.out; have hnb93 := NB535_523.out; have hnc93 := NB523_535.out; have hnb94 := NB535_529.out; have hnc94 := NB529_535.out; obtain ⟨hcz95_0, hcz95_1, hcz95_2, hcz95_3⟩ := zc4 BK535; obtain ⟨hfz95_0, hfz95_1, hfz95_2, hfz95_3⟩ := zf4 BK535))
         have n0_ : Aside0 (((((w90.setCell ⟨gb535, 0, none⟩ (.bool t530)).setCell ⟨gb535, 1, none⟩ (.int .u64 t531)).setCell ⟨gb535, 2, none⟩ (.int .u64 t532)).setCell ⟨gb535, 3, none⟩ (.int .i64 t533)).heap[gb521]? = some (.cells #[.bool a0_0, .int .u64 a0_1, .int .u64 a0_2] 36 (0, 0))) := ⟨by refine zL ?_; refine blk_far ?_ NB521_535.out _; refine zL ?_; refine blk_far ?_ NB521_535.out _; refine zL ?_; refine blk_far ?_ NB521_535.out _; refine zL ?_; refine blk_far ?_ NB521_535.out _; refine zL ?_; exact BK521.out⟩
         have n1_ : Aside0 (((((w90.setCell ⟨gb535, 0, none⟩ (.bool t530)).setCell ⟨gb535, 1, none⟩ (.int .u64 t531)).setCell ⟨gb535, 2, none⟩ (.int .u64 t532)).setCell ⟨gb535, 3, none⟩ (.int .i64 t533)).heap[gb522]? = some (.cells #[.bool a1_0, .int .u64 a1_1, .int .u64 a1_2] 36 (0, 0))) := ⟨by refine zL ?_; refine blk_far ?_ NB522_535.out _; refine zL ?_; refine blk_far ?_ NB522_535.out _; refine zL ?_; refine blk_far ?_ NB522_535.out _; refine zL ?_; refine blk_far ?_ NB522_535.out _; refine zL ?_; exact BK522.out⟩
         have n2_ : Aside0 (((((w90.setCell ⟨gb535, 0, none⟩ (.bool t530)).setCell ⟨gb535, 1, none⟩ (.int .u64 t531)).setCell ⟨gb535, 2, none⟩ (.int .u64 t532)).setCell ⟨gb535, 3, none⟩ (.int .i64 t533)).heap[gb523]? = some (.cells #[.bool false, .int .u64 0, .int .u64 0, .int .i64 0] 45 (0, 0))) := ⟨by refine zL ?_; refine blk_far ?_ NB523_535.out _; refine zL ?_; refine blk_far ?_ NB523_535.out _; refine zL ?_; refine blk_far ?_ NB523_535.out _; refine zL ?_; refine blk_far ?_ NB523_535.out _; refine zL ?_; exact BK523.out⟩
         have n3_ : Aside0 (((((w90.setCell ⟨gb535, 0, none⟩ (.bool t530)).setCell ⟨gb535, 1, none⟩ (.int .u64 t531)).setCell ⟨gb535, 2, none⟩ (.int .u64 t532)).setCell ⟨gb535, 3, none⟩ (.int .i64 t533)).heap[gb529]? = some (.cells #[.bool x530000_2, .int .u64 x530001_2, .int .u64 x530002_2, .int .i64 x530003_2] 45 (0, 0))) := ⟨by refine zL ?_; refine blk_far ?_ NB529_535.out _; refine zL ?_; refine blk_far ?_ NB529_535.out _; refine zL ?_; refine blk_far ?_ NB529_535.out _; refine zL ?_; refine blk_far ?_ NB529_535.out _; refine zL ?_; exact BK529.out⟩
         have n4_ : Aside0 (((((w90.setCell ⟨gb535, 0, none⟩ (.bool t530)).setCell ⟨gb535, 1, none⟩ (.int .u64 t531)).setCell ⟨gb535, 2, none⟩ (.int .u64 t532)).setCell ⟨gb535, 3, none⟩ (.int .i64 t533)).heap[gb535]? = some (.cells #[.bool t530, .int .u64 t531, .int .u64 t532, .int .i64 t533] 45 (0, 0))) := ⟨by refine zL ?_; refine blk_put (cs := #[.bool t530, .int .u64 t531, .int .u64 t532, .int .i64 0]) ?_ 3 _ rfl; refine zL ?_; refine blk_put (cs := #[.bool t530, .int .u64 t531, .int .u64 0, .int .i64 0]) ?_ 2 _ rfl; refine zL ?_; refine blk_put (cs := #[.bool t530, .int .u64 0, .int .u64 0, .int .i64 0]) ?_ 1 _ rfl; refine zL ?_; refine blk_put (cs := #[.bool false, .int .u64 0, .int .u64 0, .int .i64 0]) ?_ 0 _ rfl; refine zL ?_; exact BK535.out⟩
         have n5_ : Aside0 (Below w.heap.size w ((((w90.setCell ⟨gb535, 0, none⟩ (.bool t530)).setCell ⟨gb535, 1, none⟩ (.int .u64 t531)).setCell ⟨gb535, 2, none⟩ (.int .u64 t532)).setCell ⟨gb535, 3, none⟩ (.int .i64 t533))) := ⟨zB HB⟩
         (try clear BK521)
         (try clear BK522)
         (try clear BK523)
         (try clear BK529)
         (try clear BK535)
         (try clear HB)
         generalize ((((w90.setCell ⟨gb535, 0, none⟩ (.bool t530)).setCell ⟨gb535, 1, none⟩ (.int .u64 t531)).setCell ⟨gb535, 2, none⟩ (.int .u64 t532)).setCell ⟨gb535, 3, none⟩ (.int .i64 t533)) = w96 at n0_ n1_ n2_ n3_ n4_ n5_ ⊢
         have BK521 := n0_
         have BK522 := n1_
         have BK523 := n2_
         have BK529 := n3_
         have BK535 := n4_
         have HB := n5_
         clear n0_ n1_ n2_ n3_ n4_ n5_
         replace BK521 := Aside0.mk (blk_drew BK521.out)
         replace BK522 := Aside0.mk (blk_drew BK522.out)
         replace BK523 := Aside0.mk (blk_drew BK523.out)
         replace BK529 := Aside0.mk (blk_drew BK529.out)
         replace BK535 := Aside0.mk (blk_drew BK535.out)
         replace HB := Aside0.mk (below_drew1 HB.out)
         refine start_ (n := 16) (S := fun w' => True) (ds := []) #[false, false, false, false, false, false, false, false, false, false, false, false, false, false, false, false] (by kernel_rfl) rfl rfl trivial (fun hHeld => ?_); refine with_tabW addrset_greatest.tab8 addrset_greatest.bits8 (fun HT_ HW_ => ?_)
         generalize w96.drew = w97 at BK521 BK522 BK523 BK529 BK535 HB hHeld ⊢
         refine zp 0 28 HT_ ?_; refine zp 1 29 HT_ ?_; refine zp 2 30 HT_ ?_; refine zu 3 31 HT_ ?_; refine zu 4 32 HT_ ?_; refine zu 5 33 HT_ ?_; refine zu 6 34 HT_ ?_; refine zp 7 35 HT_ ?_; refine zp 8 36 HT_ ?_; refine zu 9 37 HT_ ?_; refine zu 10 38 HT_ ?_; refine zu 11 39 HT_ ?_; refine zu 12 40 HT_ ?_; refine zu 13 41 HT_ ?_; refine zu 14 42 HT_ ?_; refine zp 15 43 HT_ ?_; refine zd HT_ ?_
         have hnb98 := NB529_522.out
         have hnc98 := NB522_529.out
         have hnb99 := NB529_523.out
         have hnc99 := NB523_529.out
         obtain ⟨hcz100_0, hcz100_1, hcz100_2, hcz100_3⟩ := zc4 BK529
         obtain ⟨hfz100_0, hfz100_1, hfz100_2, hfz100_3⟩ := zf4 BK529
         have hnb101 := NB523_522.out
         have hnc101 := NB522_523.out
         obtain ⟨hcz102_0, hcz102_1, hcz102_2, hcz102_3⟩ := zc4 BK523
         obtain ⟨hfz102_0, hfz102_1, hfz102_2, hfz102_3⟩ := zf4 BK523
         try go_wp2
         refine bodyPost_ret (results_cell_row rfl _ _ gb523 45 #[.bool x530000_2, .int .u64 x530001_2, .int .u64 x530002_2, .int .i64 x530003_2] (0, 0) _ rfl (by refine zL ?_; refine blk_put (cs := #[.bool x530000_2, .int .u64 x530001_2, .int .u64 x530002_2, .int .i64 0]) ?_ 3 _ rfl; refine zL ?_; refine blk_put (cs := #[.bool x530000_2, .int .u64 x530001_2, .int .u64 0, .int .i64 0]) ?_ 2 _ rfl; refine zL ?_; refine blk_put (cs := #[.bool x530000_2, .int .u64 0, .int .u64 0, .int .i64 0]) ?_ 1 _ rfl; refine zL ?_; refine blk_put (cs := #[.bool false, .int .u64 0, .int .u64 0, .int .i64 0]) ?_ 0 _ rfl; refine zL ?_; exact BK523.out) Try.underlying45 rfl (by kernel_rfl)) rfl ?_
         exact ⟨by first | rfl | (simp [errW_none, errW_some] <;> rfl) | (simp [*, errW_none, errW_some] <;> rfl), by repeat (first | (with_reducible first | exact HB.out | apply below_alloc | apply pw_below_drewN | apply below_drew1 | refine below_set ?_ GE521.out | refine below_set ?_ GE522.out | refine below_set ?_ GE523.out | refine below_set ?_ GE529.out | refine below_set ?_ GE535.out) | exact HB.out)⟩
     · rw [if_neg c21] at H
       have c21b0 : decide (0 < x5_2) = false := decide_eq_false c21
       clear c21
       simp only [Option.some.injEq, Prod.mk.injEq] at H
       obtain ⟨rfl, rfl, rfl, rfl⟩ := H
       have hnb103 := NB529_521.out
       have hnc103 := NB521_529.out
       have hnb104 := NB529_522.out
       have hnc104 := NB522_529.out
       have hnb105 := NB529_523.out
       have hnc105 := NB523_529.out
       obtain ⟨hcz106_0, hcz106_1, hcz106_2, hcz106_3⟩ := zc4 BK529
       obtain ⟨hfz106_0, hfz106_1, hfz106_2, hfz106_3⟩ := zf4 BK529
       have hnb107 := NB523_521.out
       have hnc107 := NB521_523.out
       have hnb108 := NB523_522.out
       have hnc108 := NB522_523.out
       obtain ⟨hcz109_0, hcz109_1, hcz109_2, hcz109_3⟩ := zc4 BK523
       obtain ⟨hfz109_0, hfz109_1, hfz109_2, hfz109_3⟩ := zf4 BK523
       go_wp2
       refine bodyPost_ret (results_cell_row rfl _ _ gb523 45 #[.bool x530000_2, .int .u64 x530001_2, .int .u64 x530002_2, .int .i64 x530003_2] (0, 0) _ rfl (by refine zL ?_; refine blk_put (cs := #[.bool x530000_2, .int .u64 x530001_2, .int .u64 x530002_2, .int .i64 0]) ?_ 3 _ rfl; refine zL ?_; refine blk_put (cs := #[.bool x530000_2, .int .u64 x530001_2, .int .u64 0, .int .i64 0]) ?_ 2 _ rfl; refine zL ?_; refine blk_put (cs := #[.bool x530000_2, .int .u64 0, .int .u64 0, .int .i64 0]) ?_ 1 _ rfl; refine zL ?_; refine blk_put (cs := #[.bool false, .int .u64 0, .int .u64 0, .int .i64 0]) ?_ 0 _ rfl; refine zL ?_; exact BK523.out) Try.underlying45 rfl (by kernel_rfl)) rfl ?_
       exact ⟨by first | rfl | (simp [errW_none, errW_some] <;> rfl) | (simp [*, errW_none, errW_some] <;> rfl), by repeat (first | (with_reducible first | exact HB.out | apply below_alloc | apply pw_below_drewN | apply below_drew1 | refine below_set ?_ GE521.out | refine below_set ?_ GE522.out | refine below_set ?_ GE523.out | refine below_set ?_ GE529.out) | exact HB.out)⟩
end Go.Proofs.Ytcgfpffgiimgmaa.Q
end

section
set_option linter.unusedVariables false
set_option linter.unusedSimpArgs false
namespace Go.Proofs.Ytcgfpffgiimgmaa.Q
open Go.RowKit Go.Proofs.YtcgfpffgiimgmaaW.PrintWords Go.Proofs.YtcgfpffgiimgmaaW.PrintLast Go.Proofs.YtcgfpffgiimgmaaW.PrintMore
def pRow (g : Nat) (hi : S36) : Nat → List S45 → S36 → Option (Option (List S45))
  | 0, _, _ => none
  | n + 1, out, at_ => (addrset_greatest.f g at_.f0 at_.f1 at_.f2 hi.f0 hi.f1 hi.f2).bind fun p => if out.length + 1 > 256 then some none else (address_Bounds.f p.1 p.2.1 p.2.2.1 p.2.2.2).bind fun b => if (b.2.2.2.1 == hi.f0 && (b.2.2.2.2.1 == hi.f1 && (b.2.2.2.2.2 == hi.f2))) = true then some (some (out ++ [(⟨⟨p.1, p.2.1, p.2.2.1⟩, p.2.2.2⟩ : S45)])) else (address_Next.f b.2.2.2.1 b.2.2.2.2.1 b.2.2.2.2.2).bind fun x => if x.2.2.2 = true then pRow g hi n (out ++ [(⟨⟨p.1, p.2.1, p.2.2.1⟩, p.2.2.2⟩ : S45)]) ⟨x.1, x.2.1, x.2.2.1⟩ else some (some (out ++ [(⟨⟨p.1, p.2.1, p.2.2.1⟩, p.2.2.2⟩ : S45)]))
def pAll (g : Nat) : List S66 → List S45 → Option (Option (List S45))
  | [], out => some (some out)
  | r :: t, out => (pRow g r.f1 g out r.f0).bind fun o => match o with
    | none => some none
    | some out' => pAll g t out'
def addrset_Prefixes.f (k : Nat) (l0 : List S66) : Option (List S45) := (addrset_Normal.f k l0).bind fun x => (pAll k x []).bind fun o => some (o.getD [])
theorem pRow_mono (g : Nat) (hi : S36) : ∀ (n : Nat) (out : List S45) (at_ : S36), LeO (pRow g hi n out at_) (pRow (g + 1) hi (n + 1) out at_)
  | 0, out, at_ => LeO.none _
  | n + 1, out, at_ => by
    unfold pRow
    refine LeO.bind (addrset_greatest.mono _ _ _ _ _ _ _) (fun p => ?_)
    exact LeO.ite (LeO.refl _) (LeO.bind (LeO.refl _) (fun b => LeO.ite (LeO.refl _) (LeO.bind (LeO.refl _) (fun x => LeO.ite (pRow_mono g hi n _ _) (LeO.refl _)))))
theorem pAll_mono (g : Nat) : ∀ (l : List S66) (out : List S45), LeO (pAll g l out) (pAll (g + 1) l out)
  | [], out => LeO.refl _
  | r :: t, out => by
    unfold pAll
    refine LeO.bind (pRow_mono g r.f1 g out r.f0) (fun o => ?_)
    cases o with
    | none => exact LeO.refl _
    | some out' => exact pAll_mono g t out'
theorem addrset_Prefixes.mono : ∀ a0 k, LeO (addrset_Prefixes.f k a0) (addrset_Prefixes.f (k + 1) a0) := by
  intro a0 k
  unfold addrset_Prefixes.f
  exact LeO.bind (addrset_Normal.mono _ _) (fun x => LeO.bind (pAll_mono k x []) (fun o => LeO.refl _))
structure PreAt (W1 wr : World) (v : Value) (xs : List S45) : Prop where
  row : Kd.R k45 45 wr W1.heap.size (fun _ => True) v xs
  bel : Below W1.heap.size W1 wr
  len : xs.length ≤ 256
theorem PreAt.below {W1 wr W : World} {v : Value} {xs : List S45} (h : PreAt W1 wr v xs) (hb : Below wr.heap.size wr W) : PreAt W1 W v xs := ⟨Kd.R_below h.row hb, h.bel.trans (hb.mono h.bel.size), h.len⟩
theorem PreAt.put {W1 wr : World} {v : Value} {xs : List S45} (h : PreAt W1 wr v xs) {g t : Nat} {cs : Array Value} (hb : wr.heap[g]? = some (.cells cs t (0, 0))) (hne : ∀ q, q ∈ 45 :: k45.E → q ≠ t) (hg : W1.heap.size ≤ g) (i : Nat) (u : Value) : PreAt W1 (wr.setCell ⟨g, i, none⟩ u) v xs :=
  ⟨Kd.R_set h.row hb hne i u, h.bel.setCell hg _, h.len⟩
set_option maxHeartbeats 8000000 in
set_option maxRecDepth 100000 in
theorem addrset_Prefixes.calls (k : Nat) (A0 : Option Addr) (c0 : Nat) (l0 : List S66) (r : List S45) (w : World) (hr0 : Kd.C k66 w A0 l0.length l0) (hc0 : l0.length ≤ c0) (h : addrset_Prefixes.f k l0 = some r) :
    Calls Try.prog 46 #[.slice A0 l0.length c0] w fun e w' => ∃ v0_ : Value, e = .returned (v0_) ∧ Kd.R k45 45 w' w.heap.size (fun _ => True) v0_ r ∧ Below w.heap.size w w' := by
  unfold addrset_Prefixes.f at h
  obtain ⟨x, hx, h⟩ := Option.bind_eq_some_iff.1 h
  obtain ⟨o, ho, h⟩ := Option.bind_eq_some_iff.1 h
  injection h with h
  have HX := Aside0.mk hx
  have HP := Aside0.mk ho
  have HF := Aside0.mk h
  have HR0 := Aside0.mk hr0
  have HC0 := Aside0.mk hc0
  have hu45 := Try.underlying45
  have hu66 := Try.underlying66
  have hu36 := Try.underlying36
  have hfd : ∀ (a b c d e f : Value) (w' : World), (Instr.field 66 (.agg #[a, b, c, d, e, f]) 1).run Try.prog w' = .ok (.agg #[d, e, f]) w' := fun _ _ _ _ _ _ _ => by kernel_rfl
  clear hx ho h hr0 hc0
  go_enter Try.func46, Try.ntmps46
  go_wp2_with fail
  refine (addrset_Normal.calls k A0 c0 l0 x _ HR0.out HC0.out HX.out).mono ?_
  rintro e W1 ⟨vX, rfl, hoX, hbX⟩
  obtain ⟨AX, cX, rfl⟩ := Kd.R_slice hoX
  have HOX := Aside0.mk hoX
  have HBX := Aside0.mk hbX
  have HMX : Aside0 (x.length ≤ 9223372036854775807) := ⟨(Kd.R_reads' hoX).2.2.2.1⟩
  have hmx := HMX.out
  have H00 : Aside0 (PreAt W1 W1 (.slice none 0 0) []) := ⟨⟨Kd.R_nil _ _ _ _ _, Below.refl _ _, by simp⟩⟩
  clear hoX hbX
  go_wp2_with fail
  go_loopg [3, 13] x.length (fun gg v3 v13 wr => ∃ (kk : Nat) (out : List S45), kk ≤ x.length ∧ x.length - kk ≤ gg ∧ v13 = .int .i64 kk ∧ Aside0 (PreAt W1 wr v3 out) ∧ Aside0 (pAll k (x.drop kk) out = some o))
  case atStart => exact ⟨0, [], Nat.zero_le _, by omega, rfl, H00, HP⟩
  case round =>
    obtain ⟨kk, out, hkk, hg, rfl, HV, HA⟩ := hrel
    clear H00 HP
    by_cases hlt : kk < x.length
    · have hltz : (kk : Int) < (x.length : Int) := by omega
      obtain ⟨ad, e, hx0, hx1, hx2, hx3, hx4, hx5⟩ := at_T66 (Kd.C_below (Kd.R_reads' HOX.out).2.2 HV.out.bel) kk (by omega) hltz
      cases e
      have hrd : rd_T66 x (kk : Int) = x[kk] := by simp [rd_T66, List.getD_eq_getElem?_getD, List.getElem?_eq_getElem hlt]
      rw [hrd] at hx0 hx1 hx2 hx3 hx4 hx5
      simp only [Int.toNat_natCast] at hx0 hx1 hx2 hx3 hx4 hx5
      have hall := HA.out
      rw [List.drop_eq_getElem_cons hlt] at hall
      clear hrd HA
      generalize x[kk] = rr at hx0 hx1 hx2 hx3 hx4 hx5 hall
      unfold pAll at hall
      obtain ⟨o1, h1, hall⟩ := Option.bind_eq_some_iff.1 hall
      have HO1 := Aside0.mk h1
      have HAL := Aside0.mk hall
      clear h1 hall
      go_wp2_with fail
      obtain ⟨g5, hg5⟩ : ∃ g, wr.heap.size = g := ⟨_, rfl⟩
      have HX5 : Aside0 (((wr.alloc (.cells #[.bool rr.f0.f0, .int .u64 rr.f0.f1, .int .u64 rr.f0.f2, .bool rr.f1.f0, .int .u64 rr.f1.f1, .int .u64 rr.f1.f2] 66)).alloc (.cells #[.bool rr.f0.f0, .int .u64 rr.f0.f1, .int .u64 rr.f0.f2] 36)).heap[g5]? = some (.cells #[.bool rr.f0.f0, .int .u64 rr.f0.f1, .int .u64 rr.f0.f2, .bool rr.f1.f0, .int .u64 rr.f1.f1, .int .u64 rr.f1.f2] 66 (0, 0))) := ⟨by rw [← hg5]; exact blk_alloc (heap_alloc_new _ _) _⟩
      have HX6 : Aside0 (((wr.alloc (.cells #[.bool rr.f0.f0, .int .u64 rr.f0.f1, .int .u64 rr.f0.f2, .bool rr.f1.f0, .int .u64 rr.f1.f1, .int .u64 rr.f1.f2] 66)).alloc (.cells #[.bool rr.f0.f0, .int .u64 rr.f0.f1, .int .u64 rr.f0.f2] 36)).heap[g5 + 1]? = some (.cells #[.bool rr.f0.f0, .int .u64 rr.f0.f1, .int .u64 rr.f0.f2] 36 (0, 0))) := ⟨by rw [← hg5, show wr.heap.size + 1 = (wr.alloc (.cells #[.bool rr.f0.f0, .int .u64 rr.f0.f1, .int .u64 rr.f0.f2, .bool rr.f1.f0, .int .u64 rr.f1.f1, .int .u64 rr.f1.f2] 66)).heap.size from by simp]; exact heap_alloc_new _ _⟩
      have HVI := Aside0.mk (HV.out.below (((Below.refl _ _).alloc (Nat.le_refl _) (.cells #[.bool rr.f0.f0, .int .u64 rr.f0.f1, .int .u64 rr.f0.f2, .bool rr.f1.f0, .int .u64 rr.f1.f1, .int .u64 rr.f1.f2] 66)).alloc (by simp) (.cells #[.bool rr.f0.f0, .int .u64 rr.f0.f1, .int .u64 rr.f0.f2] 36)))
      have HG5 : Aside0 (W1.heap.size ≤ g5) := ⟨by rw [← hg5]; exact HV.out.bel.size⟩
      clear hx0 hx1 hx2 hx3 hx4 hx5 HV
      simp only [hg5]
      generalize (wr.alloc (.cells #[.bool rr.f0.f0, .int .u64 rr.f0.f1, .int .u64 rr.f0.f2, .bool rr.f1.f0, .int .u64 rr.f1.f1, .int .u64 rr.f1.f2] 66)).alloc (.cells #[.bool rr.f0.f0, .int .u64 rr.f0.f1, .int .u64 rr.f0.f2] 36) = wo at HX5 HX6 HVI ⊢
      clear hg5
      go_loopg [3, 6, 7] k (fun gg v3 v6 v7 wi => ∃ (n g6 : Nat) (more : Bool) (out : List S45) (aa : S36), n ≤ gg ∧ v6 = .pointer (some ⟨g6, 0, none⟩) ∧ v7 = .bool more ∧ Aside0 ((if more = true then pRow k rr.f1 n out aa else some (some out)) = some o1) ∧ Aside0 (PreAt W1 wi v3 out) ∧ Aside0 (wi.heap[g5]? = some (.cells #[.bool rr.f0.f0, .int .u64 rr.f0.f1, .int .u64 rr.f0.f2, .bool rr.f1.f0, .int .u64 rr.f1.f1, .int .u64 rr.f1.f2] 66 (0, 0))) ∧ Aside0 (wi.heap[g6]? = some (.cells #[.bool aa.f0, .int .u64 aa.f1, .int .u64 aa.f2] 36 (0, 0))) ∧ Aside0 (W1.heap.size ≤ g6))
      case atStart => exact ⟨k, g5 + 1, true, out, rr.f0, Nat.le_refl _, rfl, rfl, HO1, HVI, HX5, HX6, ⟨by have := HG5.out; omega⟩⟩
      case round =>
        obtain ⟨n, g6, more, out2, aa, hng, rfl, rfl, HQ, HV, HX5, HX6, HG6⟩ := hrel
        clear HO1 HVI
        cases more with
        | false =>
          have ho1 := HQ.out
          rw [if_neg (by decide)] at ho1
          injection ho1 with ho1
          subst ho1
          clear HQ
          go_wp2_with fail
          go_roundg (x.length - (kk + 1))
          case measure => omega
          case rel => exact ⟨kk + 1, out2, by omega, by omega, by go_num, HV, HAL⟩
        | true =>
          have hq := HQ.out
          rw [if_pos rfl] at hq
          cases n with
          | zero => simp [pRow] at hq
          | succ n =>
            unfold pRow at hq
            obtain ⟨⟨p0, p1, p2, p3⟩, hp, hq⟩ := Option.bind_eq_some_iff.1 hq
            dsimp only at hq
            have HPG := Aside0.mk hp
            have HQ2 := Aside0.mk hq
            obtain ⟨hc0, hc1, hc2⟩ := zc3 HX6
            have hd3 := zc HX5 3
            have hd4 := zc HX5 4
            have hd5 := zc HX5 5
            clear hp hq HQ
            go_wp2_with fail
            refine (addrset_greatest.calls k aa.f0 aa.f1 aa.f2 rr.f1.f0 rr.f1.f1 rr.f1.f2 p0 p1 p2 p3 _ HPG.out).mono ?_
            rintro e w4 ⟨rfl, hb⟩
            have HX5b := Aside0.mk (blk_below HX5.out hb)
            have HX6b := Aside0.mk (blk_below HX6.out hb)
            have HVb := Aside0.mk (HV.out.below hb)
            clear hb hc0 hc1 hc2 hd3 hd4 hd5
            obtain ⟨A3, c3, he3⟩ := Kd.R_slice HVb.out.row
            subst he3
            have HLN := Aside0.mk HVb.out.len
            have HX8 : Aside0 ((w4.alloc (.cells #[.bool p0, .int .u64 p1, .int .u64 p2, .int .i64 p3] 45)).heap[w4.heap.size]? = some (.cells #[.bool p0, .int .u64 p1, .int .u64 p2, .int .i64 p3] 45 (0, 0))) := ⟨heap_alloc_new _ _⟩
            have HVc := Aside0.mk (HVb.out.below ((Below.refl _ _).alloc (Nat.le_refl _) (.cells #[.bool p0, .int .u64 p1, .int .u64 p2, .int .i64 p3] 45)))
            have HX5c := Aside0.mk (blk_alloc HX5b.out (.cells #[.bool p0, .int .u64 p1, .int .u64 p2, .int .i64 p3] 45))
            have HX6c := Aside0.mk (blk_alloc HX6b.out (.cells #[.bool p0, .int .u64 p1, .int .u64 p2, .int .i64 p3] 45))
            have HN8 : Aside0 (some w4.heap.size ≠ (Value.slice A3 out2.length c3).ownBlock) := ⟨fun e => Nat.lt_irrefl _ (Kd.R_lt HVb.out.row _ e.symm)⟩
            clear HX5b HX6b HVb HX5 HX6 HV
            go_upto_region 8 with (fail)
            obtain ⟨g8, hg8⟩ : ∃ g, w4.heap.size = g := ⟨_, rfl⟩
            rw [hg8] at HX8 HN8
            simp only [hg8]
            generalize w4.alloc (.cells #[.bool p0, .int .u64 p1, .int .u64 p2, .int .i64 p3] 45) = w4b at HX8 HVc HX5c HX6c ⊢
            clear hg8
            obtain ⟨hs0, hs1, hs2, hs3⟩ := zc4 HX8
            have hq3 := HQ2.out
            clear HQ2
            by_cases hbig : out2.length + 1 > 256
            · rw [if_pos hbig] at hq3
              injection hq3 with hq3
              subst hq3
              have hal := HAL.out
              injection hal with hal
              subst hal
              have HFI := HF
              have HBIG := Aside0.mk hbig
              clear HAL HF hbig
              go_wp2_with (at_builtin; refine Kd.R_append k45 (w0 := W1) W1.heap.size rfl (.tmp 24) (.tmp 26) 42 45 (.agg #[.bool false, .int .u64 0, .int .u64 0, .int .i64 0]) 32 rfl Try.underlying42 info45 rfl (by decide) (by decide) (.slice A3 out2.length c3) out2 ⟨⟨p0, p1, p2⟩, p3⟩ [.bool p0, .int .u64 p1, .int .u64 p2, .int .i64 p3] (fun _ => True) (fun _ => False) rfl rfl (k45_mkM _ _ _ _) (fun _ h => h.elim) (fun _ _ => trivial) HVc.out.row HVc.out.bel HVc.out.bel.size (by have := HLN.out; omega) ?_; intro v1 w5 ho hb2 hg hat; obtain ⟨A4, n4, c4, hv4⟩ : ∃ A n c, v1 = .slice A n c := (by obtain ⟨A, c, h⟩ := Kd.R_slice ho; exact ⟨A, _, c, h⟩); subst hv4; have HN4 : Aside0 (n4 = out2.length + 1) := ⟨(by have h9 := (Kd.R_reads' ho).1; simpa using h9)⟩; have HO := Aside0.mk ho; have HB2 := Aside0.mk hb2; have HX5 := Aside0.mk (blk_grown HX5c.out hg (Kd.R_ne HVc.out.row HX5c.out (by decide))); have HX6 := Aside0.mk (blk_grown HX6c.out hg (Kd.R_ne HVc.out.row HX6c.out (by decide))); have HX8b := Aside0.mk (blk_grown HX8.out hg HN8.out); clear ho hb2 hg hat HX5c HX6c HX8 HVc HN8 hs0 hs1 hs2 hs3; have hn4 : (256 : Int) < (n4 : Int) := (by have h7 := HN4.out; have h8 := HBIG.out; omega))
              go_ret
              refine ⟨_, rfl, ?_, HBX.out.trans (HB2.out.mono HBX.out.size)⟩
              rw [← HFI.out]
              exact Kd.R_nil _ _ _ _ _
            · rw [if_neg hbig] at hq3
              obtain ⟨⟨b0, b1, b2, b3, b4, b5⟩, hbd, hq3⟩ := Option.bind_eq_some_iff.1 hq3
              dsimp only at hq3
              have HBD := Aside0.mk hbd
              have HQ3 := Aside0.mk hq3
              have HLB : Aside0 (out2.length + 1 ≤ 256) := ⟨by omega⟩
              clear hbd hq3 hbig
              go_wp2_with (at_builtin; refine Kd.R_append k45 (w0 := W1) W1.heap.size rfl (.tmp 24) (.tmp 26) 42 45 (.agg #[.bool false, .int .u64 0, .int .u64 0, .int .i64 0]) 32 rfl Try.underlying42 info45 rfl (by decide) (by decide) (.slice A3 out2.length c3) out2 ⟨⟨p0, p1, p2⟩, p3⟩ [.bool p0, .int .u64 p1, .int .u64 p2, .int .i64 p3] (fun _ => True) (fun _ => False) rfl rfl (k45_mkM _ _ _ _) (fun _ h => h.elim) (fun _ _ => trivial) HVc.out.row HVc.out.bel HVc.out.bel.size (by have := HLN.out; omega) ?_; intro v1 w5 ho hb2 hg hat; obtain ⟨A4, n4, c4, hv4⟩ : ∃ A n c, v1 = .slice A n c := (by obtain ⟨A, c, h⟩ := Kd.R_slice ho; exact ⟨A, _, c, h⟩); subst hv4; have HN4 : Aside0 (n4 = out2.length + 1) := ⟨(by have h9 := (Kd.R_reads' ho).1; simpa using h9)⟩; have HO := Aside0.mk ho; have HB2 := Aside0.mk hb2; have HX5 := Aside0.mk (blk_grown HX5c.out hg (Kd.R_ne HVc.out.row HX5c.out (by decide))); have HX6 := Aside0.mk (blk_grown HX6c.out hg (Kd.R_ne HVc.out.row HX6c.out (by decide))); have HX8b := Aside0.mk (blk_grown HX8.out hg HN8.out); clear ho hb2 hg hat HX5c HX6c HX8 HVc HN8 hs0 hs1 hs2 hs3; have hn4 : ¬ (256 : Int) < (n4 : Int) := (by have h7 := HN4.out; have h8 := HLB.out; omega); obtain ⟨he0, he1, he2, he3⟩ := zc4 HX8b)
              have HV5 : Aside0 (PreAt W1 w5 (.slice A4 n4 c4) (out2 ++ [(⟨⟨p0, p1, p2⟩, p3⟩ : S45)])) := ⟨⟨HO.out, HB2.out, by simpa using HLB.out⟩⟩
              clear HO HB2
              refine (address_Bounds.calls p0 p1 p2 p3 b0 b1 b2 b3 b4 b5 _ HBD.out).mono ?_
              rintro e w6 ⟨rfl, hb⟩
              replace HX5 := Aside0.mk (blk_below HX5.out hb)
              replace HX6 := Aside0.mk (blk_below HX6.out hb)
              replace HV5 := Aside0.mk (HV5.out.below hb)
              clear hb he0 he1 he2 he3 HX8b
              have hd3 := zc HX5 3
              have hd4 := zc HX5 4
              have hd5 := zc HX5 5
              have hl5 := lt_of_block HX5.out
              have hq4 := HQ3.out
              clear HQ3
              by_cases hcmp : (b3 == rr.f1.f0 && (b4 == rr.f1.f1 && (b5 == rr.f1.f2))) = true
              · rw [if_pos hcmp] at hq4
                injection hq4 with hq4
                subst hq4
                simp only [Bool.and_eq_true, beq_iff_eq] at hcmp
                obtain ⟨rfl, rfl, rfl⟩ := hcmp
                go_wp2_with fail
                go_roundg (x.length - (kk + 1))
                case measure => omega
                case rel => exact ⟨kk + 1, _, by omega, by omega, by go_num, ⟨HV5.out.below ((Below.refl _ _).alloc (Nat.le_refl _) _)⟩, HAL⟩
              · rw [if_neg hcmp] at hq4
                obtain ⟨⟨y0, y1, y2, y3⟩, hnx, hq4⟩ := Option.bind_eq_some_iff.1 hq4
                dsimp only at hq4
                have HNX := Aside0.mk hnx
                have HQ4 := Aside0.mk hq4
                have hcs : ((b3 == rr.f1.f0) = false ∧ decide (b3 = rr.f1.f0) = false) ∨ ((b3 == rr.f1.f0) = true ∧ decide (b3 = rr.f1.f0) = true ∧ (b4 == rr.f1.f1) = false ∧ decide (b4 = rr.f1.f1) = false) ∨ ((b3 == rr.f1.f0) = true ∧ decide (b3 = rr.f1.f0) = true ∧ (b4 == rr.f1.f1) = true ∧ decide (b4 = rr.f1.f1) = true ∧ (b5 == rr.f1.f2) = false ∧ decide (b5 = rr.f1.f2) = false) := by
                  by_cases e3 : b3 = rr.f1.f0
                  · by_cases e4 : b4 = rr.f1.f1
                    · by_cases e5 : b5 = rr.f1.f2
                      · exact absurd (by rw [e3, e4, e5]; simp) hcmp
                      · exact .inr (.inr ⟨beq_iff_eq.2 e3, decide_eq_true e3, beq_iff_eq.2 e4, decide_eq_true e4, beq_eq_false_iff_ne.2 e5, decide_eq_false e5⟩)
                    · exact .inr (.inl ⟨beq_iff_eq.2 e3, decide_eq_true e3, beq_eq_false_iff_ne.2 e4, decide_eq_false e4⟩)
                  · exact .inl ⟨beq_eq_false_iff_ne.2 e3, decide_eq_false e3⟩
                clear hnx hq4 hcmp
                rcases hcs with ⟨i1, i2⟩ | ⟨i1, i2, i3, i4⟩ | ⟨i1, i2, i3, i4, i5, i6⟩ <;>
                · go_wp2_with fail
                  refine (address_Next.calls b3 b4 b5 y0 y1 y2 y3 _ HNX.out).mono ?_
                  rintro e w8 ⟨rfl, hb⟩
                  have HX5d := Aside0.mk (blk_below (blk_alloc HX5.out _) hb)
                  have HX6d := Aside0.mk (blk_below (blk_alloc HX6.out _) hb)
                  have HV6 := Aside0.mk ((HV5.out.below ((Below.refl _ _).alloc (Nat.le_refl _) _)).below hb)
                  clear hb hd3 hd4 hd5 hl5 HX5 HX6 HV5
                  obtain ⟨hc0, hc1, hc2⟩ := zc3 HX6d
                  obtain ⟨hf0, hf1, hf2⟩ := zf3 HX6d
                  have hl6 := lt_of_block HX6d.out
                  have HNE := Aside0.mk (blk_ne HX5d.out HX6d.out (by decide))
                  have HZ6 : Aside0 (W1.heap.size ≤ w8.heap.size) := ⟨HV6.out.bel.size⟩
                  go_wp2_with fail
                  go_roundg n
                  case measure => omega
                  case rel =>
                    have q1 := HV6.out.put HX6d.out (by decide) HG6.out 0 (.bool y0)
                    have b1 := blk_put HX6d.out 0 (.bool y0) rfl
                    have q2 := q1.put b1 (by decide) HG6.out 1 (.int .u64 y1)
                    have b2 := blk_put b1 1 (.int .u64 y1) rfl
                    have q3 := q2.put b2 (by decide) HG6.out 2 (.int .u64 y2)
                    have f3 := blk_far (blk_far (blk_far HX5d.out (p := ⟨g6, 0, none⟩) HNE.out (.bool y0)) (p := ⟨g6, 1, none⟩) HNE.out (.int .u64 y1)) (p := ⟨g6, 2, none⟩) HNE.out (.int .u64 y2)
                    exact ⟨n, w8.heap.size, y3, _, ⟨y0, y1, y2⟩, Nat.le_refl _, rfl, rfl, HQ4, ⟨q3.below ((Below.refl _ _).alloc (Nat.le_refl _) _)⟩, ⟨blk_alloc f3 _⟩, ⟨by have h9 := heap_alloc_new (((w8.setCell ⟨g6, 0, none⟩ (.bool y0)).setCell ⟨g6, 1, none⟩ (.int .u64 y1)).setCell ⟨g6, 2, none⟩ (.int .u64 y2)) (.cells #[.bool y0, .int .u64 y1, .int .u64 y2] 36); simpa using h9⟩, HZ6⟩
    · have hltz : ¬ (kk : Int) < (x.length : Int) := by omega
      have hall := HA.out
      rw [List.drop_eq_nil_of_le (by omega)] at hall
      unfold pAll at hall
      injection hall with hall
      subst hall
      have hfin := HF.out
      clear HA
      go_wp2_with fail
      go_ret
      refine ⟨_, rfl, ?_, HBX.out.trans (HV.out.bel.mono HBX.out.size)⟩
      rw [← hfin]
      exact Kd.R_lower HV.out.row HBX.out.size
end Go.Proofs.Ytcgfpffgiimgmaa.Q
end
