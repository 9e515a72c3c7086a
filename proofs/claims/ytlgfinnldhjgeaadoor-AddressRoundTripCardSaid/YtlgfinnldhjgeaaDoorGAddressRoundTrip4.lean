/- The law AddressRoundTrip answers true for every input and leaves its arguments as they were. No condition. (Part 4 of 4: the kit's printed words and walks, hand-made contracts and plain laws, joined in build order, without what the theorem does not reach.) -/
import Derived.Test.YtlgfinnldhjgeaaDoorRows
import Derived.ProofKit
import Derived.OpenShut
import Derived.LaidMore
import Derived.Lay
import Derived.SevenTiedAt
import Derived.Stop.Joined
import Derived.Lib.LaidTab
import Derived.Shelf.Vars
import Derived.HandedShaped
import Derived.WalkKit
import Derived.ShutString
import Derived.ChangeOld
import Derived.Below
import Derived.SizedLaws
import Derived.Carry
import Derived.Test.YtlgfinnldhjgeaaDoorTie
import Derived.Test.YtlgfinnldhjgeaaDoorCards
import Derived.Test.YtlgfinnldhjgeaaDoorGAddressRoundTrip3
section
set_option linter.unusedVariables false
set_option linter.unusedSimpArgs false
namespace Go.Proofs.YtlgfinnldhjgeaaDoor.Q
open Go.RowKit Go.Proofs.YtlgfinnldhjgeaaDoorW.PrintWords Go.Proofs.YtlgfinnldhjgeaaDoorW.PrintLast Go.Proofs.YtlgfinnldhjgeaaDoorW.PrintMore
def mkB (l : List UInt8) : ByteArray := ⟨l.toArray⟩
theorem mkB_list (l : List UInt8) : (mkB l).data.toList = l := rfl
theorem mkB_of (s : ByteArray) : mkB s.data.toList = s := by
  apply ByteArray.ext
  simp [mkB]
def spl (c : UInt8) : List UInt8 → List UInt8 → List (List UInt8)
  | cur, [] => [cur]
  | cur, x :: t => if x = c then cur :: spl c [] t else spl c (cur ++ [x]) t
theorem spl_cur (c : UInt8) : ∀ (t cur : List UInt8), ∃ h r, spl c [] t = h :: r ∧ spl c cur t = (cur ++ h) :: r
  | [], cur => ⟨[], [], rfl, by simp [spl]⟩
  | x :: t, cur => by
    by_cases hx : x = c
    · exact ⟨[], spl c [] t, by rw [spl, if_pos hx], by rw [spl, if_pos hx, List.append_nil]⟩
    · obtain ⟨h1, r1, e1, e2⟩ := spl_cur c t [x]
      obtain ⟨h2, r2, e3, e4⟩ := spl_cur c t (cur ++ [x])
      rw [e1] at e3
      injection e3 with g1 g2
      subst g1 g2
      refine ⟨[x] ++ h1, r1, ?_, ?_⟩
      · rw [spl, if_neg hx, List.nil_append, e2]
      · rw [spl, if_neg hx, e4, List.append_assoc]
theorem splitK_spl (c : UInt8) : ∀ (l : List UInt8), Lib.splitK [c] 0 (Lib.count l [c]) l = spl c [] l
  | [] => by
    unfold spl
    cases h : Lib.count [] [c] with
    | zero => rfl
    | succ n =>
      rw [Lib.count_one] at h
      simp at h
  | b :: l => by
    have ih := splitK_spl c l
    by_cases hb : b = c
    · subst hb
      rw [Lib.count_cons_eq, show 1 + Lib.count l [b] = Lib.count l [b] + 1 from Nat.add_comm _ _, Lib.splitK]
      have e : Lib.index (b :: l) [b] = 0 := Lib.index_first (i := 0) (Nat.zero_le _) (by simp [Lib.occAt, List.isPrefixOf]) (fun _ h => absurd h (Nat.not_lt_zero _))
      rw [e, if_neg (by decide), spl, if_pos rfl]
      show [] :: Lib.splitK [b] 0 (Lib.count l [b]) l = _
      rw [ih]
    · rw [Lib.count_cons_ne b c l hb, spl, if_neg hb, List.nil_append]
      obtain ⟨h, r, e1, e2⟩ := spl_cur c l [b]
      rw [e2]
      rw [e1] at ih
      have hno : ∀ j : Nat, Lib.occAt (b :: l) [c] (j + 1) = Lib.occAt l [c] j := fun j => rfl
      have hz : Lib.occAt (b :: l) [c] 0 = false := by
        unfold Lib.occAt
        simp [List.isPrefixOf]
        exact fun e => hb e.symm
      have hidx : Lib.index (b :: l) [c] = if Lib.index l [c] == -1 then -1 else Lib.index l [c] + 1 := by
        have := Lib.index_drop (s := b :: l) (sub := [c]) (i := 1) (fun j hj => by obtain rfl : j = 0 := (by omega); exact hz) (by simp)
        simpa using this
      cases hn : Lib.count l [c] with
      | zero =>
        rw [hn, Lib.splitK] at ih
        injection ih with g1 g2
        subst g1 g2
        rfl
      | succ n =>
        rw [hn, Lib.splitK] at ih
        rw [Lib.splitK, hidx]
        by_cases hi : (Lib.index l [c] == -1) = true
        · rw [if_pos hi] at ih ⊢
          injection ih with g1 g2
          subst g1 g2
          rfl
        · have hge := Lib.index_ge l [c]
          have hne : Lib.index l [c] ≠ -1 := fun e => hi (beq_iff_eq.2 e)
          rw [if_neg hi] at ih ⊢
          injection ih with g1 g2
          rw [if_neg (by rw [beq_iff_eq]; omega)]
          have e3 : (Lib.index l [c] + 1).toNat = (Lib.index l [c]).toNat + 1 := by omega
          rw [e3, ← g1, ← g2]
          rfl
theorem split_eq (s : ByteArray) (c : UInt8) (hs : s.size < 4294967281) : strings_Split.f s (⟨#[c]⟩ : ByteArray) = some ((spl c [] s.data.toList).map mkB) := by
  unfold strings_Split.f
  rw [if_pos hs, if_pos (show 1 ≤ (⟨#[c]⟩ : ByteArray).size from Nat.le_refl 1)]
  congr 1
  have h := Lib.splitB_data (⟨#[c]⟩ : ByteArray) 0 (Lib.countB s ⟨#[c]⟩) s
  have h2 : Lib.splitK [c] 0 (Lib.countB s ⟨#[c]⟩) s.data.toList = spl c [] s.data.toList := splitK_spl c s.data.toList
  have h3 : (Lib.splitB ⟨#[c]⟩ 0 (Lib.countB s ⟨#[c]⟩) s).map (·.data.toList) = spl c [] s.data.toList := h.trans h2
  rw [← h3, List.map_map]
  have : (mkB ∘ fun x : ByteArray => x.data.toList) = id := by
    funext x
    exact mkB_of x
  rw [this, List.map_id]
theorem bt_u8 (s : ByteArray) (i : Nat) (h : i < s.data.toList.length) (c : UInt8) : bt s (i : Int) = ((c.toNat : Nat) : Int) ↔ s.data.toList[i]'h = c := by
  rw [bt_list s i h]
  constructor
  · intro e; apply UInt8.toNat_inj.1; omega
  · intro e; rw [e]
theorem rdOf_mk (L : List (List UInt8)) (i : Nat) (h : i < L.length) : rdOf ByteArray.empty (L.map mkB) (i : Int) = mkB (L[i]'h) := by
  unfold rdOf
  rw [Int.toNat_natCast, List.getD_eq_getElem?_getD, List.getElem?_map, List.getElem?_eq_getElem h]
  rfl
def numL : List UInt8 → Nat → Option Nat
  | [], n => some n
  | c :: t, n => if 48 ≤ c.toNat ∧ c.toNat ≤ 57 then numL t (10 * n + (c.toNat - 48)) else none
theorem numL_ge : ∀ (l : List UInt8) (n v : Nat), numL l n = some v → n * 10 ^ l.length ≤ v ∧ v < (n + 1) * 10 ^ l.length
  | [], n, v, h => by
    rw [numL] at h
    injection h with h
    simp
    omega
  | c :: t, n, v, h => by
    rw [numL] at h
    split at h
    · rename_i hc
      have := numL_ge t _ v h
      rw [List.length_cons, Nat.pow_succ]
      generalize 10 ^ t.length = p at *
      have e1 : n * (p * 10) = (10 * n) * p := by rw [Nat.mul_comm p 10, ← Nat.mul_assoc, Nat.mul_comm n 10]
      have e2 : (n + 1) * (p * 10) = (10 * n + 10) * p := by rw [Nat.mul_comm p 10, ← Nat.mul_assoc]; congr 1; omega
      have g1 : (10 * n) * p ≤ (10 * n + (c.toNat - 48)) * p := Nat.mul_le_mul_right _ (by omega)
      have g2 : (10 * n + (c.toNat - 48) + 1) * p ≤ (10 * n + 10) * p := Nat.mul_le_mul_right _ (by omega)
      omega
    · cases h
def canL (l : List UInt8) : Bool := !(l == []) && !(decide (1 < l.length) && l.head? == some 48)
def decL (l : List UInt8) : Option Nat := if canL l = true then numL l 0 else none
theorem dec_long {l : List UInt8} {v : Nat} (h : decL l = some v) (hl : 9 < l.length) : 1000 < v := by
  unfold decL at h
  split at h
  · rename_i hc
    cases l with
    | nil => simp at hl
    | cons c t =>
      unfold canL at hc
      have h1 : ¬ c = 48 := by
        intro e
        subst e
        simp at hc hl
        rw [hc] at hl
        simp at hl
      rw [numL] at h
      split at h
      · rename_i hd
        have h2 : c.toNat ≠ 48 := fun e => h1 (UInt8.toNat_inj.1 e)
        have := (numL_ge t _ v h).1
        have h3 := Nat.pow_le_pow_right (show 0 < 10 by decide) (show 9 ≤ t.length by simp at hl; omega)
        have h4 : 1 * 10 ^ t.length ≤ (10 * 0 + (c.toNat - 48)) * 10 ^ t.length := Nat.mul_le_mul_right _ (by omega)
        rw [show (10 : Nat) ^ 9 = 1000000000 from by decide] at h3
        have h5 := Nat.le_trans h4 this
        rw [Nat.one_mul] at h5
        exact Nat.lt_of_lt_of_le (by decide) (Nat.le_trans h3 h5)
      · cases h
  · cases h
theorem b48 {c : Nat} (h : 48 ≤ c) (h2 : c ≤ 57) : ((c : Int) - 48) % 256 = ((c - 48 : Nat) : Int) := by omega
theorem number0 (s : ByteArray) (most : Nat) (hs : s.data.toList.length ≤ 9) : ∀ (d i n : Nat), s.data.toList.length - i = d → i ≤ s.data.toList.length → n < 10 ^ i → Ev (fun k => address_number.l0 k s (most : Int) (n : Int) (s.data.toList.length : Int) (i : Int)) (match numL (s.data.toList.drop i) n with | none => ((0 : Int), false) | some v => ((v : Int), decide (v ≤ most)))
  | 0, i, n, hd, hi, hn => by
    rw [List.drop_of_length_le (by omega), numL]
    refine Ev.step (f := fun _ => some ((n : Int), decide (n ≤ most))) (fun k => ?_) (Ev.now _)
    rw [address_number.l0, if_neg (by omega)]
    congr 2
    rw [decide_eq_decide]
    omega
  | d + 1, i, n, hd, hi, hn => by
    have hl : i < s.data.toList.length := by omega
    have hsp : s.data.toList.drop i = s.data.toList[i] :: s.data.toList.drop (i + 1) := List.drop_eq_getElem_cons hl
    have hb := bt_list s i hl
    have hn9 := Nat.pow_le_pow_right (show 0 < 10 by decide) (show i ≤ 8 by omega)
    rw [show (10 : Nat) ^ 8 = 100000000 from by decide] at hn9
    rw [hsp, numL]
    by_cases hc : 48 ≤ (s.data.toList[i]).toNat ∧ (s.data.toList[i]).toNat ≤ 57
    · rw [if_pos hc]
      have ih := number0 s most hs d (i + 1) (10 * n + ((s.data.toList[i]).toNat - 48)) (by omega) (by omega) (by rw [Nat.pow_succ]; omega)
      refine Ev.step (fun k => ?_) ih
      rw [address_number.l0, if_pos (by omega), if_pos (by omega), if_pos (by rw [size_list]; omega), hb, if_neg (by omega), if_neg (by omega), b48 hc.1 hc.2, up_i (by omega), wid (x := (n : Int) * 10) (by omega) (by omega), wid (by omega) (by omega)]
      congr 1
      omega
    · rw [if_neg hc]
      refine Ev.step (f := fun _ => some ((0 : Int), false)) (fun k => ?_) (Ev.now _)
      rw [address_number.l0, if_pos (by omega), if_pos (by omega), if_pos (by rw [size_list]; omega), hb]
      by_cases c1 : ((s.data.toList[i]).toNat : Int) < 48
      · rw [if_pos c1]
      · rw [if_neg c1, if_pos (by omega)]
def upTo (l : List UInt8) (most : Nat) : Option Nat := match decL l with | none => none | some v => if v ≤ most then some v else none
theorem bt0 (s : ByteArray) (h : 0 < s.data.toList.length) : bt s 0 = 48 ↔ s.data.toList.head? = some 48 := by
  have := bt_u8 s 0 h 48
  rw [show ((0 : Nat) : Int) = 0 from rfl, show (((48 : UInt8).toNat : Nat) : Int) = 48 from rfl] at this
  rw [this]
  rw [List.head?_eq_getElem?, List.getElem?_eq_getElem h]
  simp
theorem number_ev (s : ByteArray) (most : Nat) (hm : most ≤ 1000) : ∃ r : Int × Bool, Ev (fun k => address_number.f k s (most : Int)) r ∧ r.2 = (upTo s.data.toList most).isSome ∧ (∀ v, upTo s.data.toList most = some v → r.1 = (v : Int)) := by
  have fail : ∀ (h : upTo s.data.toList most = none) (e : ∀ k, address_number.f (k + 1) s (most : Int) = some ((0 : Int), false)), ∃ r : Int × Bool, Ev (fun k => address_number.f k s (most : Int)) r ∧ r.2 = (upTo s.data.toList most).isSome ∧ (∀ v, upTo s.data.toList most = some v → r.1 = (v : Int)) := fun h e =>
    ⟨_, Ev.step (f := fun _ => some ((0 : Int), false)) e (Ev.now _), by rw [h]; rfl, fun v hv => by rw [h] at hv; cases hv⟩
  by_cases hn : s.data.toList = []
  · refine fail (by unfold upTo decL canL; rw [hn]; rfl) (fun k => ?_)
    unfold address_number.f
    rw [if_pos ((ByteArray.toList_eq s).trans hn), address_number.j0, if_pos rfl]
  · have hpos := List.length_pos_iff.2 hn
    have hne : ¬ s.toList = [] := fun e => hn ((ByteArray.toList_eq s).symm.trans e)
    by_cases h9 : 9 < s.data.toList.length
    · refine fail ?_ (fun k => ?_)
      · unfold upTo
        cases hd : decL s.data.toList with
        | none => rfl
        | some v =>
          have := dec_long hd h9
          exact if_neg (by omega)
      · unfold address_number.f
        rw [if_neg hne, if_pos (by rw [size_list]; omega), address_number.j0, if_pos rfl]
    · by_cases hz : s.data.toList.head? = some 48 ∧ 1 < s.data.toList.length
      · refine fail ?_ (fun k => ?_)
        · have hc : canL s.data.toList = false := by
            unfold canL
            rw [hz.1, decide_eq_true hz.2]
            simp
          unfold upTo decL
          rw [hc]
          rfl
        · unfold address_number.f
          rw [if_neg hne, if_neg (by rw [size_list]; omega), if_pos (by rw [size_list]; omega), if_pos ((bt0 s hpos).2 hz.1), decide_eq_true (by rw [size_list]; omega), address_number.j0, if_pos rfl]
      · have hcan : canL s.data.toList = true := by
          unfold canL
          rw [Bool.and_eq_true, Bool.not_eq_true', Bool.not_eq_true', beq_eq_false_iff_ne, Bool.and_eq_false_iff, decide_eq_false_iff_not, beq_eq_false_iff_ne]
          refine ⟨hn, ?_⟩
          by_cases h1 : 1 < s.data.toList.length
          · exact .inr (fun e => hz ⟨e, h1⟩)
          · exact .inl h1
        have ev := number0 s most (by omega) _ 0 0 rfl (by omega) (by decide)
        rw [List.drop_zero] at ev
        refine ⟨_, Ev.step (fun k => ?_) ev, ?_, ?_⟩
        · have hj : address_number.j0 (k + 1) s (most : Int) false = address_number.l0 k s (most : Int) ((0 : Nat) : Int) (s.data.toList.length : Int) ((0 : Nat) : Int) := by
            rw [address_number.j0, if_neg Bool.false_ne_true, size_list]
            rfl
          unfold address_number.f
          rw [if_neg hne, if_neg (by rw [size_list]; omega), if_pos (by rw [size_list]; omega)]
          by_cases h48 : bt s 0 = 48
          · have : ¬ ((s.size : Int) > 1) := by rw [size_list]; intro h; exact hz ⟨(bt0 s hpos).1 h48, by omega⟩
            rw [if_pos h48, decide_eq_false this]
            exact hj
          · rw [if_neg h48]
            exact hj
        · unfold upTo decL
          rw [if_pos hcan]
          cases numL s.data.toList 0 with
          | none => rfl
          | some v =>
            by_cases hv : v ≤ most
            · simp [hv]
            · simp [hv]
        · intro v hv
          unfold upTo decL at hv
          rw [if_pos hcan] at hv
          cases hu : numL s.data.toList 0 with
          | none => rw [hu] at hv; cases hv
          | some u =>
            rw [hu] at hv
            by_cases h : u ≤ most
            · simp [h] at hv
              rw [hv]
            · simp [h] at hv
end Go.Proofs.YtlgfinnldhjgeaaDoor.Q
end

section
namespace Go.Proofs.YtlgfinnldhjgeaaDoor.Q
open Go.RowKit Go.Proofs.YtlgfinnldhjgeaaDoorW.PrintWords Go.Proofs.YtlgfinnldhjgeaaDoorW.PrintLast Go.Proofs.YtlgfinnldhjgeaaDoorW.PrintMore
attribute [local go_sem] max2_int min2_int max_two min_two max_three min_three max_four min_four
set_option linter.unusedVariables false
set_option linter.unusedSimpArgs false
def intrusionref06_groups.l0 : Nat → List Int → List ByteArray → Int → Option (List Int × Bool)
  | 0, _, _, _ => none
  | k + 1, x4, x5, x6 => if x6 < (x5.length : Int) then (if 0 ≤ x6 then ((intrusionref06_group.f k (rdOf ByteArray.empty x5 x6)).bind fun t203 => (if t203 < 0 then (some (([] : List Int), false)) else (if x4.length < 17592186044416 then (intrusionref06_groups.l0 k (x4 ++ [t203]) x5 (wrap64 (x6 + 1))) else (none)))) else (none)) else (some (x4, true))
def intrusionref06_groups.f (k : Nat) (a0 : ByteArray) : Option (List Int × Bool) := if a0.toList = ([] : List UInt8) then (some (([] : List Int), true)) else ((intrusionref06_Split.f k a0 58).bind fun t199 => (intrusionref06_groups.l0 k ([] : List Int) t199 0))
theorem intrusionref06_groups.mono_l : ∀ k, (∀ y0 y1 y2, LeO (intrusionref06_groups.l0 k y0 y1 y2) (intrusionref06_groups.l0 (k + 1) y0 y1 y2))
  | 0 => fun _ _ _ r h => by simp [intrusionref06_groups.l0] at h
  | k + 1 => by
    have ih0 := intrusionref06_groups.mono_l k
    · intro y0 y1 y2
      unfold intrusionref06_groups.l0
      repeat' first
      | (with_reducible exact ih0 _ _ _)
      | (with_reducible exact intrusionref06_Split.mono _ _ _)
      | (with_reducible exact intrusionref06_group.mono _ _)
      | (with_reducible exact LeO.refl _)
      | (with_reducible exact LeO.none _)
      | (with_reducible refine LeO.ite ?_ ?_)
      | (with_reducible refine LeO.bind ?_ (fun _ => ?_))
      | exact ih0 _ _ _
      | exact intrusionref06_Split.mono _ _ _
      | exact intrusionref06_group.mono _ _
      | exact LeO.none _
      | refine LeO.ite ?_ ?_
      | refine LeO.bind ?_ (fun _ => ?_)
theorem intrusionref06_groups.mono : ∀ a0 k, LeO (intrusionref06_groups.f k a0) (intrusionref06_groups.f (k + 1) a0) := by
  intro a0 k
  have ih0 := intrusionref06_groups.mono_l k
  unfold intrusionref06_groups.f
  repeat' first
      | (with_reducible exact ih0 _ _ _)
      | (with_reducible exact intrusionref06_Split.mono _ _ _)
      | (with_reducible exact intrusionref06_group.mono _ _)
      | (with_reducible exact LeO.refl _)
      | (with_reducible exact LeO.none _)
      | (with_reducible refine LeO.ite ?_ ?_)
      | (with_reducible refine LeO.bind ?_ (fun _ => ?_))
      | exact ih0 _ _ _
      | exact intrusionref06_Split.mono _ _ _
      | exact intrusionref06_group.mono _ _
      | exact LeO.none _
      | refine LeO.ite ?_ ?_
      | refine LeO.bind ?_ (fun _ => ?_)
end Go.Proofs.YtlgfinnldhjgeaaDoor.Q
end

section
set_option linter.unusedVariables false
set_option linter.unusedSimpArgs false
namespace Go.Proofs.YtlgfinnldhjgeaaDoor.Q
open Go.RowKit Go.Proofs.YtlgfinnldhjgeaaDoorW.PrintWords Go.Proofs.YtlgfinnldhjgeaaDoorW.PrintLast Go.Proofs.YtlgfinnldhjgeaaDoorW.PrintMore
theorem rdec0 (s : ByteArray) (most : Nat) (hm : most ≤ 1000) (hs : s.data.toList.length ≤ 100) : ∀ (d i n : Nat), s.data.toList.length - i = d → i ≤ s.data.toList.length → Ev (fun k => intrusionref06_Decimal.l0 k s (most : Int) ((min n (most + 1) : Nat) : Int) (i : Int)) (match numL (s.data.toList.drop i) n with | none => (-1 : Int) | some v => if v ≤ most then (v : Int) else -2)
  | 0, i, n, hd, hi => by
    rw [List.drop_of_length_le (by omega), numL]
    refine Ev.step (f := fun _ => some (if n ≤ most then (n : Int) else -2)) (fun k => ?_) (Ev.now _)
    rw [intrusionref06_Decimal.l0, size_list, if_neg (by omega)]
    by_cases h : n ≤ most
    · rw [if_pos h, if_neg (by omega)]
      congr 1
      omega
    · rw [if_neg h, if_pos (by omega)]
  | d + 1, i, n, hd, hi => by
    have hl : i < s.data.toList.length := by omega
    have hsp : s.data.toList.drop i = s.data.toList[i] :: s.data.toList.drop (i + 1) := List.drop_eq_getElem_cons hl
    have hb := bt_list s i hl
    rw [hsp, numL]
    by_cases hc : 48 ≤ (s.data.toList[i]).toNat ∧ (s.data.toList[i]).toNat ≤ 57
    · rw [if_pos hc]
      have ih := rdec0 s most hm hs d (i + 1) (10 * n + ((s.data.toList[i]).toNat - 48)) (by omega) (by omega)
      refine Ev.step (fun k => ?_) ih
      rw [intrusionref06_Decimal.l0, size_list, if_pos (by omega), if_pos (by omega), hb, if_neg (by omega), if_neg (by omega), up_i (i := i) (by omega)]
      rw [wid (x := 10 * ((min n (most + 1) : Nat) : Int)) (by omega) (by omega), wid (x := ((s.data.toList[i]).toNat : Int)) (by omega) (by omega), wid (x := 10 * ((min n (most + 1) : Nat) : Int) + _) (by omega) (by omega), wid (x := 10 * ((min n (most + 1) : Nat) : Int) + _ - 48) (by omega) (by omega), wid (x := (most : Int) + 1) (by omega) (by omega)]
      congr 1
      unfold mn
      split <;> omega
    · rw [if_neg hc]
      refine Ev.step (f := fun _ => some (-1 : Int)) (fun k => ?_) (Ev.now _)
      rw [intrusionref06_Decimal.l0, size_list, if_pos (by omega), if_pos (by omega), hb]
      by_cases c1 : ((s.data.toList[i]).toNat : Int) < 48
      · rw [if_pos c1]
      · rw [if_neg c1, if_pos (by omega)]
theorem can_iff (l : List UInt8) : canL l = true ↔ l ≠ [] ∧ ¬ (1 < l.length ∧ l.head? = some 48) := by
  unfold canL
  rw [Bool.and_eq_true, Bool.not_eq_true', Bool.not_eq_true', beq_eq_false_iff_ne, Bool.and_eq_false_iff, decide_eq_false_iff_not, beq_eq_false_iff_ne]
  constructor
  · rintro ⟨h1, h2 | h2⟩
    · exact ⟨h1, fun h => h2 h.1⟩
    · exact ⟨h1, fun h => h2 h.2⟩
  · rintro ⟨h1, h2⟩
    refine ⟨h1, ?_⟩
    by_cases h : 1 < l.length
    · exact .inr (fun e => h2 ⟨h, e⟩)
    · exact .inl h
theorem dig_mn {n q c : Nat} (hq : min n 1000 = q) (h1 : 48 ≤ c) (h2 : c ≤ 57) : mn 1000 ((q : Int) * 10 + ((c - 48 : Nat) : Int)) = ((min (10 * n + (c - 48)) 1000 : Nat) : Int) := by
  unfold mn
  split <;> omega
theorem dig0 (s : ByteArray) (hs : s.data.toList.length ≤ 100) : ∀ (d i n : Nat), s.data.toList.length - i = d → i ≤ s.data.toList.length → Ev (fun k => address_digits.l0 k s ((min n 1000 : Nat) : Int) (s.data.toList.length : Int) (i : Int)) (match numL (s.data.toList.drop i) n with | none => ((0 : Int), false) | some v => (((min v 1000 : Nat) : Int), true))
  | 0, i, n, hd, hi => by
    rw [List.drop_of_length_le (by omega), numL]
    refine Ev.step (f := fun _ => some (((min n 1000 : Nat) : Int), true)) (fun k => ?_) (Ev.now _)
    rw [address_digits.l0, if_neg (by omega)]
  | d + 1, i, n, hd, hi => by
    have hl : i < s.data.toList.length := by omega
    have hsp : s.data.toList.drop i = s.data.toList[i] :: s.data.toList.drop (i + 1) := List.drop_eq_getElem_cons hl
    have hb := bt_list s i hl
    rw [hsp, numL]
    by_cases hc : 48 ≤ (s.data.toList[i]).toNat ∧ (s.data.toList[i]).toNat ≤ 57
    · rw [if_pos hc]
      have ih := dig0 s hs d (i + 1) (10 * n + ((s.data.toList[i]).toNat - 48)) (by omega) (by omega)
      refine Ev.step (fun k => ?_) ih
      generalize hq : min n 1000 = q
      have hq2 : q ≤ 1000 := by omega
      rw [address_digits.l0, if_pos (by omega), if_pos (by omega), if_pos (by rw [size_list]; omega), hb, if_neg (by omega), if_neg (by omega), up_i (i := i) (by omega), b48 hc.1 hc.2, wid (x := (q : Int) * 10) (by omega) (by omega), wid (x := (q : Int) * 10 + _) (by omega) (by omega)]
      exact congrArg (fun z => address_digits.l0 k s z (s.data.toList.length : Int) ((i + 1 : Nat) : Int)) (dig_mn hq hc.1 hc.2)
    · rw [if_neg hc]
      refine Ev.step (f := fun _ => some ((0 : Int), false)) (fun k => ?_) (Ev.now _)
      rw [address_digits.l0, if_pos (by omega), if_pos (by omega), if_pos (by rw [size_list]; omega), hb]
      by_cases c1 : ((s.data.toList[i]).toNat : Int) < 48
      · rw [if_pos c1]
      · rw [if_neg c1, if_pos (by omega)]
def digV (l : List UInt8) : Int × Bool := match decL l with | none => (0, false) | some v => (((min v 1000 : Nat) : Int), true)
theorem dig_ev (s : ByteArray) (hs : s.data.toList.length ≤ 100) : Ev (fun k => address_digits.f k s) (digV s.data.toList) := by
  have h0 := dig0 s hs _ 0 0 rfl (by omega)
  rw [List.drop_zero] at h0
  have hj : ∀ k, address_digits.j0 (k + 1) s false = address_digits.l0 k s ((min 0 1000 : Nat) : Int) (s.data.toList.length : Int) ((0 : Nat) : Int) := fun k => by
    rw [address_digits.j0, if_neg Bool.false_ne_true, size_list, Nat.zero_min]
    rfl
  by_cases hc : canL s.data.toList = true
  · have hr : digV s.data.toList = (match numL s.data.toList 0 with | none => ((0 : Int), false) | some v => (((min v 1000 : Nat) : Int), true)) := by
      unfold digV decL
      rw [if_pos hc]
    rw [hr]
    obtain ⟨hne, h48⟩ := (can_iff _).1 hc
    have hpos := List.length_pos_iff.2 hne
    refine Ev.step (fun k => ?_) h0
    unfold address_digits.f
    rw [if_neg (fun e => hne ((ByteArray.toList_eq s).symm.trans e)), if_pos (by rw [size_list]; omega)]
    by_cases hb : bt s 0 = 48
    · have : ¬ ((s.size : Int) > 1) := by rw [size_list]; intro h; exact h48 ⟨by omega, (bt0 s hpos).1 hb⟩
      rw [if_pos hb, decide_eq_false this]
      exact hj k
    · rw [if_neg hb]
      exact hj k
  · have hr : digV s.data.toList = (0, false) := by
      unfold digV decL
      rw [if_neg hc]
    rw [hr]
    refine Ev.step (f := fun _ => some ((0 : Int), false)) (fun k => ?_) (Ev.now _)
    have hjt : address_digits.j0 (k + 1) s true = some ((0 : Int), false) := by rw [address_digits.j0, if_pos rfl]
    unfold address_digits.f
    by_cases hn : s.data.toList = []
    · rw [if_pos ((ByteArray.toList_eq s).trans hn)]
      exact hjt
    · have hpos := List.length_pos_iff.2 hn
      have h48 : 1 < s.data.toList.length ∧ s.data.toList.head? = some 48 := by
        by_cases h : 1 < s.data.toList.length ∧ s.data.toList.head? = some 48
        · exact h
        · exact absurd ((can_iff _).2 ⟨hn, h⟩) hc
      rw [if_neg (fun e => hn ((ByteArray.toList_eq s).symm.trans e)), if_pos (by rw [size_list]; omega), if_pos ((bt0 s hpos).2 h48.2), decide_eq_true (by rw [size_list]; omega)]
      exact hjt
def hexV (c : Nat) : Option Nat := if 48 ≤ c ∧ c ≤ 57 then some (c - 48) else if 65 ≤ c ∧ c ≤ 70 then some (c - 55) else if 97 ≤ c ∧ c ≤ 102 then some (c - 87) else none
theorem hexV_lt {c v : Nat} (h : hexV c = some v) : v < 16 := by
  unfold hexV at h
  split at h
  · injection h with h; omega
  · split at h
    · injection h with h; omega
    · split at h
      · injection h with h; omega
      · cases h
def hxL : List UInt8 → Nat → Option Nat
  | [], n => some n
  | c :: t, n => match hexV c.toNat with | none => none | some v => hxL t (n * 16 + v)
theorem hxL_lt : ∀ (l : List UInt8) (n v : Nat), hxL l n = some v → v < (n + 1) * 16 ^ l.length
  | [], n, v, h => by
    rw [hxL] at h
    injection h with h
    simp
    omega
  | c :: t, n, v, h => by
    rw [hxL] at h
    cases hv : hexV c.toNat with
    | none => rw [hv] at h; cases h
    | some x =>
      rw [hv] at h
      have hx := hexV_lt hv
      have := hxL_lt t _ v h
      rw [List.length_cons, Nat.pow_succ]
      generalize 16 ^ t.length = p at *
      have e2 : (n + 1) * (p * 16) = (16 * n + 16) * p := by rw [Nat.mul_comm p 16, ← Nat.mul_assoc]; congr 1; omega
      have g2 : (n * 16 + x + 1) * p ≤ (16 * n + 16) * p := Nat.mul_le_mul_right _ (by omega)
      omega
def grpV (l : List UInt8) : Option Nat := if l ≠ [] ∧ l.length ≤ 4 then hxL l 0 else none
theorem grpV_lt {l : List UInt8} {v : Nat} (h : grpV l = some v) : v < 65536 := by
  unfold grpV at h
  split at h
  · rename_i hc
    have := hxL_lt l 0 v h
    have h2 := Nat.pow_le_pow_right (show 0 < 16 by decide) hc.2
    rw [show (16 : Nat) ^ 4 = 65536 from by decide] at h2
    omega
  · cases h
theorem or_16 {x b : Nat} (hb : b < 16) (hx : x * 16 + b < 18446744073709551616) : Go.bits .or .u64 (IntKind.u64.wrap ((x : Int) * 16)) (b : Int) = ((x * 16 + b : Nat) : Int) := or_under x b 4 hb hx
theorem agroup0 (s : ByteArray) (hs : s.data.toList.length ≤ 4) : ∀ (d i n : Nat), s.data.toList.length - i = d → i ≤ s.data.toList.length → n < 16 ^ i → Ev (fun k => address_group.l0 k s (n : Int) (s.data.toList.length : Int) (i : Int)) (match hxL (s.data.toList.drop i) n with | none => ((0 : Int), false) | some v => ((v : Int), true))
  | 0, i, n, hd, hi, hn => by
    rw [List.drop_of_length_le (by omega), hxL]
    refine Ev.step (f := fun _ => some ((n : Int), true)) (fun k => ?_) (Ev.now _)
    rw [address_group.l0, if_neg (by omega)]
  | d + 1, i, n, hd, hi, hn => by
    have hl : i < s.data.toList.length := by omega
    have hsp : s.data.toList.drop i = s.data.toList[i] :: s.data.toList.drop (i + 1) := List.drop_eq_getElem_cons hl
    have hb := bt_list s i hl
    have hc256 := (s.data.toList[i]).toNat_lt
    have hp := Nat.pow_le_pow_right (show 0 < 16 by decide) (show i ≤ 3 by omega)
    rw [show (16 : Nat) ^ 3 = 4096 from by decide] at hp
    rw [hsp, hxL]
    have step : ∀ v, hexV (s.data.toList[i]).toNat = some v → Ev (fun k => address_group.l0 k s (Go.bits .or .u64 (IntKind.u64.wrap ((n : Int) * 16)) (v : Int)) (s.data.toList.length : Int) (wrap64 ((i : Int) + 1))) (match hxL (s.data.toList.drop (i + 1)) (n * 16 + v) with | none => ((0 : Int), false) | some v => ((v : Int), true)) := fun v hv => by
      have hv16 := hexV_lt hv
      rw [or_16 hv16 (by omega), up_i (by omega)]
      exact agroup0 s hs d (i + 1) (n * 16 + v) (by omega) (by omega) (by rw [Nat.pow_succ]; omega)
    generalize hcc : (s.data.toList[i]).toNat = c at *
    by_cases h1 : 48 ≤ c ∧ c ≤ 57
    · have hv : hexV c = some (c - 48) := by unfold hexV; rw [if_pos h1]
      rw [hv]
      obtain ⟨K, e⟩ := step _ hv
      refine ⟨K + 3, fun k hk => ?_⟩
      obtain ⟨m, rfl⟩ : ∃ m, k = m + 2 := ⟨k - 2, by omega⟩
      dsimp only
      rw [address_group.l0, if_pos (by omega), if_pos (by omega), if_pos (by rw [size_list]; omega), hb, if_pos (by omega), decide_eq_true (by omega), address_group.j2, if_pos rfl, b48 h1.1 h1.2]
      exact e m (by omega)
    ·
      have hj2 : ∀ m, address_group.l0 (m + 2) s (n : Int) (s.data.toList.length : Int) (i : Int) = (if (c : Int) ≥ 65 then address_group.j3 m s (n : Int) (c : Int) (s.data.toList.length : Int) (i : Int) (decide ((c : Int) ≤ 70)) else address_group.j3 m s (n : Int) (c : Int) (s.data.toList.length : Int) (i : Int) false) := fun m => by
        rw [address_group.l0, if_pos (by omega), if_pos (by omega), if_pos (by rw [size_list]; omega), hb]
        by_cases h48 : (c : Int) ≥ 48
        · rw [if_pos h48, decide_eq_false (by omega), address_group.j2, if_neg Bool.false_ne_true]
        · rw [if_neg h48, address_group.j2, if_neg Bool.false_ne_true]
      by_cases h2 : 65 ≤ c ∧ c ≤ 70
      · have hv : hexV c = some (c - 55) := by unfold hexV; rw [if_neg h1, if_pos h2]
        rw [hv]
        obtain ⟨K, e⟩ := step _ hv
        refine ⟨K + 3, fun k hk => ?_⟩
        obtain ⟨m, rfl⟩ : ∃ m, k = m + 1 + 2 := ⟨k - 3, by omega⟩
        dsimp only
        rw [hj2, if_pos (by omega), decide_eq_true (by omega), address_group.j3, if_pos rfl, show ((((((c : Int) + 32) % 256) - 97) % 256) + 10) % 256 = ((c - 55 : Nat) : Int) from by omega]
        exact e m (by omega)
      · have hj3 : ∀ m, address_group.l0 (m + 1 + 2) s (n : Int) (s.data.toList.length : Int) (i : Int) = (if (c : Int) ≥ 97 then (if (c : Int) ≤ 102 then (address_group.l0 m s (Go.bits .or .u64 (IntKind.u64.wrap ((n : Int) * 16)) (((((c : Int) - 97) % 256) + 10) % 256)) (s.data.toList.length : Int) (wrap64 ((i : Int) + 1))) else (some (0, false))) else (some (0, false))) := fun m => by
          rw [hj2]
          by_cases h65 : (c : Int) ≥ 65
          · rw [if_pos h65, decide_eq_false (by omega), address_group.j3, if_neg Bool.false_ne_true]
          · rw [if_neg h65, address_group.j3, if_neg Bool.false_ne_true]
        by_cases h3 : 97 ≤ c ∧ c ≤ 102
        · have hv : hexV c = some (c - 87) := by unfold hexV; rw [if_neg h1, if_neg h2, if_pos h3]
          rw [hv]
          obtain ⟨K, e⟩ := step _ hv
          refine ⟨K + 3, fun k hk => ?_⟩
          obtain ⟨m, rfl⟩ : ∃ m, k = m + 1 + 2 := ⟨k - 3, by omega⟩
          dsimp only
          rw [hj3, if_pos (by omega), if_pos (by omega), show (((((c : Int) - 97) % 256) + 10) % 256) = ((c - 87 : Nat) : Int) from by omega]
          exact e m (by omega)
        · have hv : hexV c = none := by unfold hexV; rw [if_neg h1, if_neg h2, if_neg h3]
          rw [hv]
          refine ⟨3, fun k hk => ?_⟩
          obtain ⟨m, rfl⟩ : ∃ m, k = m + 1 + 2 := ⟨k - 3, by omega⟩
          dsimp only
          rw [hj3]
          by_cases h97 : (c : Int) ≥ 97
          · rw [if_pos h97, if_neg (by omega)]
          · rw [if_neg h97]
def aGrp (l : List UInt8) : Int × Bool := match grpV l with | none => (0, false) | some v => ((v : Int), true)
theorem agroup_ev (s : ByteArray) : Ev (fun k => address_group.f k s) (aGrp s.data.toList) := by
  have hjt : ∀ k, address_group.j0 (k + 1) s true = some ((0 : Int), false) := fun k => by rw [address_group.j0, if_pos rfl]
  by_cases hn : s.data.toList = []
  · refine Ev.step (f := fun _ => some ((0 : Int), false)) (fun k => ?_) ?_
    · unfold address_group.f
      rw [if_pos ((ByteArray.toList_eq s).trans hn)]
      exact hjt k
    · unfold aGrp grpV
      rw [if_neg (fun h => h.1 hn)]
      exact Ev.now _
  · have hne : ¬ s.toList = [] := fun e => hn ((ByteArray.toList_eq s).symm.trans e)
    by_cases h4 : s.data.toList.length ≤ 4
    · have h0 := agroup0 s h4 _ 0 0 rfl (by omega) (by decide)
      rw [List.drop_zero] at h0
      unfold aGrp grpV
      rw [if_pos ⟨hn, h4⟩]
      refine Ev.step (fun k => ?_) h0
      unfold address_group.f
      rw [if_neg hne, decide_eq_false (by rw [size_list]; omega), address_group.j0, if_neg Bool.false_ne_true, size_list]
      rfl
    · unfold aGrp grpV
      rw [if_neg (fun h => h4 h.2)]
      refine Ev.step (f := fun _ => some ((0 : Int), false)) (fun k => ?_) (Ev.now _)
      unfold address_group.f
      rw [if_neg hne, decide_eq_true (by rw [size_list]; omega)]
      exact hjt k
def mapO : List (List UInt8) → Option (List Nat)
  | [] => some []
  | x :: t => match grpV x with | none => none | some v => (mapO t).map (v :: ·)
def grps (l : List UInt8) : Option (List Nat) := if l = [] then some [] else mapO (spl 58 [] l)
theorem mapO_len : ∀ {L : List (List UInt8)} {r : List Nat}, mapO L = some r → r.length = L.length ∧ ∀ x ∈ r, x < 65536
  | [], r, h => by
    rw [mapO] at h
    injection h with h
    subst h
    simp
  | x :: t, r, h => by
    rw [mapO] at h
    cases hv : grpV x with
    | none => rw [hv] at h; cases h
    | some v =>
      rw [hv] at h
      obtain ⟨r', h1, rfl⟩ := Option.map_eq_some_iff.1 h
      have := mapO_len h1
      refine ⟨by simp [this.1], ?_⟩
      intro y hy
      rcases List.mem_cons.1 hy with rfl | hy
      · exact grpV_lt hv
      · exact this.2 y hy
def natI (L : List Nat) : List Int := L.map Int.ofNat
def grpsV (l : List UInt8) : List Int × Bool := match grps l with | none => ([], false) | some L => (natI L, true)
theorem spl_len (c : UInt8) : ∀ (l cur : List UInt8), (spl c cur l).length ≤ l.length + 1
  | [], cur => by simp [spl]
  | x :: t, cur => by
    rw [spl]
    split
    · have := spl_len c t []
      simp; omega
    · have := spl_len c t (cur ++ [x])
      simp; omega
theorem agroups0 (L : List (List UInt8)) (hL : L.length ≤ 101) : ∀ (d i : Nat) (out : List Nat), L.length - i = d → i ≤ L.length → out.length ≤ i → Ev (fun k => address_groups.l0 k (natI out) (L.map mkB) (L.length : Int) (i : Int)) (match mapO (L.drop i) with | none => (([] : List Int), false) | some r => (natI (out ++ r), true))
  | 0, i, out, hd, hi, ho => by
    rw [List.drop_of_length_le (by omega), mapO]
    refine Ev.step (f := fun _ => some (natI (out ++ []), true)) (fun k => ?_) (Ev.now _)
    rw [address_groups.l0, if_neg (by omega), List.append_nil]
  | d + 1, i, out, hd, hi, ho => by
    have hl : i < L.length := by omega
    have hsp : L.drop i = L[i] :: L.drop (i + 1) := List.drop_eq_getElem_cons hl
    have hg := agroup_ev (mkB L[i])
    rw [mkB_list] at hg
    obtain ⟨K, e⟩ := hg
    rw [hsp, mapO]
    cases hv : grpV L[i] with
    | none =>
      refine ⟨K + 1, fun k hk => ?_⟩
      obtain ⟨m, rfl⟩ : ∃ m, k = m + 1 := ⟨k - 1, by omega⟩
      have f := e m (by omega)
      unfold aGrp at f
      rw [hv] at f
      dsimp only at f ⊢
      rw [address_groups.l0, if_pos (by omega), if_pos (by omega), if_pos (by rw [List.length_map]; omega), rdOf_mk L i hl, f, Option.bind_some, if_neg Bool.false_ne_true]
    | some v =>
      obtain ⟨K2, e2⟩ := agroups0 L hL d (i + 1) (out ++ [v]) (by omega) (by omega) (by simp; omega)
      refine ⟨K + K2 + 1, fun k hk => ?_⟩
      obtain ⟨m, rfl⟩ : ∃ m, k = m + 1 := ⟨k - 1, by omega⟩
      have f := e m (by omega)
      have f2 := e2 m (by omega)
      unfold aGrp at f
      rw [hv] at f
      dsimp only at f f2 ⊢
      rw [address_groups.l0, if_pos (by omega), if_pos (by omega), if_pos (by rw [List.length_map]; omega), rdOf_mk L i hl, f, Option.bind_some, if_pos rfl, if_pos (by unfold natI; rw [List.length_map]; omega), up_i (by omega)]
      rw [show natI out ++ [(v : Int)] = natI (out ++ [v]) from by unfold natI; rw [List.map_append]; rfl, f2]
      cases mapO (L.drop (i + 1)) with
      | none => rfl
      | some r => simp
theorem agroups_ev (s : ByteArray) (hs : s.data.toList.length ≤ 100) : Ev (fun k => address_groups.f k s) (grpsV s.data.toList) := by
  unfold address_groups.f grpsV grps
  by_cases hn : s.data.toList = []
  · rw [if_pos hn]
    refine Ev.congr (f := fun _ => some (([] : List Int), true)) (fun k => ?_) (show Ev _ (natI [], true) from Ev.now _)
    rw [if_pos ((ByteArray.toList_eq s).trans hn)]
  · rw [if_neg hn]
    have hl := spl_len 58 s.data.toList []
    have ev := agroups0 (spl 58 [] s.data.toList) (by omega) _ 0 [] rfl (by omega) (by simp)
    rw [List.drop_zero] at ev
    simp only [List.nil_append] at ev
    refine Ev.congr (fun k => ?_) ev
    rw [if_neg (fun e => hn ((ByteArray.toList_eq s).symm.trans e)), split_eq s 58 (by rw [size_list]; omega), Option.bind_some, List.length_map]
    rfl
theorem cut_eq (s : ByteArray) (sep : ByteArray) (hs : s.size < 4294967281) : strings_Cut.f s sep = some (mkB (Lib.cut s.data.toList sep.data.toList).1, mkB (Lib.cut s.data.toList sep.data.toList).2.1, (Lib.cut s.data.toList sep.data.toList).2.2) := by
  unfold strings_Cut.f
  rw [if_pos hs]
  rfl
end Go.Proofs.YtlgfinnldhjgeaaDoor.Q
end

section
set_option linter.unusedVariables false
set_option linter.unusedSimpArgs false
namespace Go.Proofs.YtlgfinnldhjgeaaDoor.Q
open Go.RowKit Go.Proofs.YtlgfinnldhjgeaaDoorW.PrintWords Go.Proofs.YtlgfinnldhjgeaaDoorW.PrintLast Go.Proofs.YtlgfinnldhjgeaaDoorW.PrintMore
theorem szA_le (f : Bool) : szA f ≤ 128 := by unfold szA; split <;> omega
def restN (a : Ad) (b : Int) : Nat := szA a.f0 - b.toNat
theorem mkp_eq {a : Ad} (h : AW a) {b : Int} (h0 : 0 ≤ b) (h1 : b ≤ szA a.f0) : address_MakePrefix.f a.f0 a.f1 a.f2 b = some (a.f0, (subA a (restN a b) false).f1, (subA a (restN a b) false).f2, b, 0) := by
  have hs := szA_le a.f0
  have := maskOff h (k := restN a b) (by unfold restN; omega)
  unfold address_MakePrefix.f
  rw [if_neg (by omega), size_eq]
  rw [Option.bind_some]
  rw [if_neg (by omega), mask_eq a b (restN a b) (by unfold restN; omega) h0 h1]
  rw [Option.bind_some]
  rw [this.1, this.2]
theorem mkp_out {a : Ad} {b : Int} (h : ¬ (0 ≤ b ∧ b ≤ szA a.f0)) : address_MakePrefix.f a.f0 a.f1 a.f2 b = some (false, 0, 0, 0, 4) := by
  unfold address_MakePrefix.f
  by_cases h0 : b < 0
  · rw [if_pos h0]
  · rw [if_neg h0, size_eq]
    rw [Option.bind_some]
    rw [if_pos (by omega)]
theorem con_eq {p x : Ad} (hp : AW p) (hx : AW x) {b : Int} (h : p.f0 = x.f0) (h0 : 0 ≤ b) (h1 : b ≤ szA p.f0) : address_Contains.f p.f0 p.f1 p.f2 b x.f0 x.f1 x.f2 = some (decide (subA x (restN p b) false = subA p (restN p b) false)) := by
  have hs := szA_le p.f0
  have hk : restN p b ≤ 128 := by unfold restN; omega
  have e1 := maskOff hp hk
  have e2 := maskOff hx hk
  unfold address_Contains.f
  rw [if_neg (by rw [h]; simp), mask_eq x b (restN p b) (by unfold restN; rw [← h]; omega) h0 (by rw [← h]; exact h1)]
  rw [Option.bind_some]
  rw [e1.1, e1.2, e2.1, e2.2]
  by_cases c : (subA x (restN p b) false).f1 = (subA p (restN p b) false).f1
  · rw [if_pos c]
    congr 1
    rw [Bool.eq_iff_iff, beq_iff_eq, decide_eq_true_eq]
    constructor
    · intro c2
      have : ∀ u v : Ad, u.f0 = v.f0 → u.f1 = v.f1 → u.f2 = v.f2 → u = v := fun u v g0 g1 g2 => by cases u; cases v; simp at g0 g1 g2; simp [g0, g1, g2]
      exact this _ _ (by rw [subA_f0, subA_f0, h]) c c2
    · intro e; rw [e]
  · rw [if_neg c]
    have : ¬ (subA x (restN p b) false = subA p (restN p b) false) := fun e => c (by rw [e])
    rw [decide_eq_false this]
theorem setN_idem (n k : Nat) (b c : Bool) : setN (setN n k b) k c = setN n k c := by
  have d1 := Nat.div_add_mod n (2 ^ k)
  have hp : 0 < 2 ^ k := Nat.pow_pos (by decide)
  have g : ∀ m d, setN m k d = 2 ^ k * (m / 2 ^ k) + (if d then 2 ^ k - 1 else 0) := fun m d => by
    have := Nat.div_add_mod m (2 ^ k)
    unfold setN
    omega
  rw [g _ c, g n c, g n b]
  congr 2
  cases b
  · simp only [Bool.false_eq_true, if_false, Nat.add_zero]
    exact Nat.mul_div_cancel_left _ hp
  · simp only [if_true]
    rw [Nat.mul_add_div hp, Nat.div_eq_of_lt (Nat.sub_lt hp (by decide)), Nat.add_zero]
theorem subA_idem {a : Ad} (k : Nat) (b c : Bool) : subA (subA a k b) k c = subA a k c := by
  unfold subA
  rw [nv_mkN, mkN_f0, setN_idem]
end Go.Proofs.YtlgfinnldhjgeaaDoor.Q
end

section
namespace Go.Proofs.YtlgfinnldhjgeaaDoor.Q
open Go.RowKit Go.Proofs.YtlgfinnldhjgeaaDoorW.PrintWords Go.Proofs.YtlgfinnldhjgeaaDoorW.PrintLast Go.Proofs.YtlgfinnldhjgeaaDoorW.PrintMore
attribute [local go_sem] max2_int min2_int max_two min_two max_three min_three max_four min_four
set_option linter.unusedVariables false
set_option linter.unusedSimpArgs false
def intrusionref06_Number.l0 : Nat → Int → ByteArray → Option (ByteArray)
  | 0, _, _ => none
  | k + 1, x0, x3 => if x0 > 9 then ((some (([(wrap64 (48 + (Int.tmod x0 10))) % 256] : List Int) : List Int)).bind fun y426 => (if (strOfNums y426).size + x3.size ≤ 9223372036854775807 then (intrusionref06_Number.l0 k (wrap64 (Int.tdiv x0 10)) ((strOfNums y426) ++ x3)) else (none))) else ((some (([(wrap64 (48 + x0)) % 256] : List Int) : List Int)).bind fun y429 => (if (strOfNums y429).size + x3.size ≤ 9223372036854775807 then (some ((strOfNums y429) ++ x3)) else (none)))
def intrusionref06_Number.f (k : Nat) (a0 : Int) : Option (ByteArray) := intrusionref06_Number.l0 k a0 (⟨#[]⟩ : ByteArray)
theorem intrusionref06_Number.mono_l : ∀ k, (∀ y0 y1, LeO (intrusionref06_Number.l0 k y0 y1) (intrusionref06_Number.l0 (k + 1) y0 y1))
  | 0 => fun _ _ r h => by simp [intrusionref06_Number.l0] at h
  | k + 1 => by
    have ih0 := intrusionref06_Number.mono_l k
    · intro y0 y1
      unfold intrusionref06_Number.l0
      repeat' first
      | (with_reducible exact ih0 _ _)
      | (with_reducible exact LeO.refl _)
      | (with_reducible exact LeO.none _)
      | (with_reducible refine LeO.ite ?_ ?_)
      | (with_reducible refine LeO.bind ?_ (fun _ => ?_))
      | exact ih0 _ _
      | exact LeO.none _
      | refine LeO.ite ?_ ?_
      | refine LeO.bind ?_ (fun _ => ?_)
theorem intrusionref06_Number.mono : ∀ a0 k, LeO (intrusionref06_Number.f k a0) (intrusionref06_Number.f (k + 1) a0) := by
  intro a0 k
  have ih0 := intrusionref06_Number.mono_l k
  unfold intrusionref06_Number.f
  repeat' first
      | (with_reducible exact ih0 _ _)
      | (with_reducible exact LeO.refl _)
      | (with_reducible exact LeO.none _)
      | (with_reducible refine LeO.ite ?_ ?_)
      | (with_reducible refine LeO.bind ?_ (fun _ => ?_))
      | exact ih0 _ _
      | exact LeO.none _
      | refine LeO.ite ?_ ?_
      | refine LeO.bind ?_ (fun _ => ?_)
end Go.Proofs.YtlgfinnldhjgeaaDoor.Q
end

section
namespace Go.Proofs.YtlgfinnldhjgeaaDoor.Q
open Go.RowKit Go.Proofs.YtlgfinnldhjgeaaDoorW.PrintWords Go.Proofs.YtlgfinnldhjgeaaDoorW.PrintLast Go.Proofs.YtlgfinnldhjgeaaDoorW.PrintMore
attribute [local go_sem] max2_int min2_int max_two min_two max_three min_three max_four min_four
set_option linter.unusedVariables false
set_option linter.unusedSimpArgs false
mutual
def intrusionref06_Groups.l0 : Nat → List Int → Int → Bool → Int → Int → Option (List Int)
  | 0, _, _, _, _, _ => none
  | k + 1, x3, x4, x433000, x433001, x433002 => if x4 ≥ 0 then (if 0 ≤ (IntKind.u64.wrap (wrap64 (16 * x4))) then (if x3.length < 17592186044416 then (intrusionref06_Groups.l0 k (x3 ++ [wrap64 (Go.bits .and .u64 (shr .u64 x433001 (IntKind.u64.wrap (wrap64 (16 * x4)))) 65535)]) (wrap64 (x4 - 1)) x433000 x433001 x433002) else (none)) else (none)) else (intrusionref06_Groups.l1 k x3 3 x433000 x433001 x433002)
def intrusionref06_Groups.l1 : Nat → List Int → Int → Bool → Int → Int → Option (List Int)
  | 0, _, _, _, _, _ => none
  | k + 1, x3, x5, x433000, x433001, x433002 => if x5 ≥ 0 then (if 0 ≤ (IntKind.u64.wrap (wrap64 (16 * x5))) then (if x3.length < 17592186044416 then (intrusionref06_Groups.l1 k (x3 ++ [wrap64 (Go.bits .and .u64 (shr .u64 x433002 (IntKind.u64.wrap (wrap64 (16 * x5)))) 65535)]) (wrap64 (x5 - 1)) x433000 x433001 x433002) else (none)) else (none)) else (some x3)
end
def intrusionref06_Groups.f (k : Nat) (a0_0 : Bool) (a0_1 : Int) (a0_2 : Int) : Option (List Int) := intrusionref06_Groups.l0 k ([] : List Int) 3 a0_0 a0_1 a0_2
theorem intrusionref06_Groups.mono_l : ∀ k, (∀ y0 y1 y2 y3 y4, LeO (intrusionref06_Groups.l0 k y0 y1 y2 y3 y4) (intrusionref06_Groups.l0 (k + 1) y0 y1 y2 y3 y4)) ∧ (∀ y0 y1 y2 y3 y4, LeO (intrusionref06_Groups.l1 k y0 y1 y2 y3 y4) (intrusionref06_Groups.l1 (k + 1) y0 y1 y2 y3 y4))
  | 0 => ⟨fun _ _ _ _ _ r h => by simp [intrusionref06_Groups.l0] at h, fun _ _ _ _ _ r h => by simp [intrusionref06_Groups.l1] at h⟩
  | k + 1 => by
    obtain ⟨ih0, ih1⟩ := intrusionref06_Groups.mono_l k
    refine ⟨?_, ?_⟩
    · intro y0 y1 y2 y3 y4
      unfold intrusionref06_Groups.l0
      repeat' first
      | (with_reducible exact ih0 _ _ _ _ _)
      | (with_reducible exact ih1 _ _ _ _ _)
      | (with_reducible exact LeO.refl _)
      | (with_reducible exact LeO.none _)
      | (with_reducible refine LeO.ite ?_ ?_)
      | (with_reducible refine LeO.bind ?_ (fun _ => ?_))
      | exact ih0 _ _ _ _ _
      | exact ih1 _ _ _ _ _
      | exact LeO.none _
      | refine LeO.ite ?_ ?_
      | refine LeO.bind ?_ (fun _ => ?_)
    · intro y0 y1 y2 y3 y4
      unfold intrusionref06_Groups.l1
      repeat' first
      | (with_reducible exact ih0 _ _ _ _ _)
      | (with_reducible exact ih1 _ _ _ _ _)
      | (with_reducible exact LeO.refl _)
      | (with_reducible exact LeO.none _)
      | (with_reducible refine LeO.ite ?_ ?_)
      | (with_reducible refine LeO.bind ?_ (fun _ => ?_))
      | exact ih0 _ _ _ _ _
      | exact ih1 _ _ _ _ _
      | exact LeO.none _
      | refine LeO.ite ?_ ?_
      | refine LeO.bind ?_ (fun _ => ?_)
theorem intrusionref06_Groups.mono : ∀ a0 a1 a2 k, LeO (intrusionref06_Groups.f k a0 a1 a2) (intrusionref06_Groups.f (k + 1) a0 a1 a2) := by
  intro a0 a1 a2 k
  obtain ⟨ih0, ih1⟩ := intrusionref06_Groups.mono_l k
  unfold intrusionref06_Groups.f
  repeat' first
      | (with_reducible exact ih0 _ _ _ _ _)
      | (with_reducible exact ih1 _ _ _ _ _)
      | (with_reducible exact LeO.refl _)
      | (with_reducible exact LeO.none _)
      | (with_reducible refine LeO.ite ?_ ?_)
      | (with_reducible refine LeO.bind ?_ (fun _ => ?_))
      | exact ih0 _ _ _ _ _
      | exact ih1 _ _ _ _ _
      | exact LeO.none _
      | refine LeO.ite ?_ ?_
      | refine LeO.bind ?_ (fun _ => ?_)
end Go.Proofs.YtlgfinnldhjgeaaDoor.Q
end

section
namespace Go.Proofs.YtlgfinnldhjgeaaDoor.Q
open Go.RowKit Go.Proofs.YtlgfinnldhjgeaaDoorW.PrintWords Go.Proofs.YtlgfinnldhjgeaaDoorW.PrintLast Go.Proofs.YtlgfinnldhjgeaaDoorW.PrintMore
attribute [local go_sem] max2_int min2_int max_two min_two max_three min_three max_four min_four
set_option linter.unusedVariables false
set_option linter.unusedSimpArgs false
def intrusionref06_run.l0 : Nat → List Int → Int → Int → Option (Int)
  | 0, _, _, _ => none
  | k + 1, x0, x1, x5 => if (wrap64 (x1 + x5)) < (x0.length : Int) then (if 0 ≤ (wrap64 (x1 + x5)) then (if (rd x0 (wrap64 (x1 + x5))) = 0 then (intrusionref06_run.l0 k x0 x1 (wrap64 (x5 + 1))) else (some x5)) else (none)) else (some x5)
def intrusionref06_run.f (k : Nat) (l0 : List Int) (a1 : Int) : Option (Int) := intrusionref06_run.l0 k l0 a1 0
theorem intrusionref06_run.mono_l : ∀ k, (∀ y0 y1 y2, LeO (intrusionref06_run.l0 k y0 y1 y2) (intrusionref06_run.l0 (k + 1) y0 y1 y2))
  | 0 => fun _ _ _ r h => by simp [intrusionref06_run.l0] at h
  | k + 1 => by
    have ih0 := intrusionref06_run.mono_l k
    · intro y0 y1 y2
      unfold intrusionref06_run.l0
      repeat' first
      | (with_reducible exact ih0 _ _ _)
      | (with_reducible exact LeO.refl _)
      | (with_reducible exact LeO.none _)
      | (with_reducible refine LeO.ite ?_ ?_)
      | (with_reducible refine LeO.bind ?_ (fun _ => ?_))
      | exact ih0 _ _ _
      | exact LeO.none _
      | refine LeO.ite ?_ ?_
      | refine LeO.bind ?_ (fun _ => ?_)
theorem intrusionref06_run.mono : ∀ a0 a1 k, LeO (intrusionref06_run.f k a0 a1) (intrusionref06_run.f (k + 1) a0 a1) := by
  intro a0 a1 k
  have ih0 := intrusionref06_run.mono_l k
  unfold intrusionref06_run.f
  repeat' first
      | (with_reducible exact ih0 _ _ _)
      | (with_reducible exact LeO.refl _)
      | (with_reducible exact LeO.none _)
      | (with_reducible refine LeO.ite ?_ ?_)
      | (with_reducible refine LeO.bind ?_ (fun _ => ?_))
      | exact ih0 _ _ _
      | exact LeO.none _
      | refine LeO.ite ?_ ?_
      | refine LeO.bind ?_ (fun _ => ?_)
end Go.Proofs.YtlgfinnldhjgeaaDoor.Q
end

section
namespace Go.Proofs.YtlgfinnldhjgeaaDoor.Q
open Go.RowKit Go.Proofs.YtlgfinnldhjgeaaDoorW.PrintWords Go.Proofs.YtlgfinnldhjgeaaDoorW.PrintLast Go.Proofs.YtlgfinnldhjgeaaDoorW.PrintMore
attribute [local go_sem] max2_int min2_int max_two min_two max_three min_three max_four min_four
set_option linter.unusedVariables false
set_option linter.unusedSimpArgs false
def intrusionref06_hex.l0 : Nat → Int → ByteArray → Option (ByteArray)
  | 0, _, _ => none
  | k + 1, x0, x3 => if x0 > 15 then (if 0 ≤ (Int.tmod x0 16) then (if (Int.tmod x0 16) ≤ (wrap64 ((Int.tmod x0 16) + 1)) then (if (wrap64 ((Int.tmod x0 16) + 1)) ≤ 16 then (if ((⟨#[48, 49, 50, 51, 52, 53, 54, 55, 56, 57, 97, 98, 99, 100, 101, 102]⟩ : ByteArray).extract ((Int.tmod x0 16) : Int).toNat ((wrap64 ((Int.tmod x0 16) + 1)) : Int).toNat).size + x3.size ≤ 9223372036854775807 then (intrusionref06_hex.l0 k (wrap64 (Int.tdiv x0 16)) (((⟨#[48, 49, 50, 51, 52, 53, 54, 55, 56, 57, 97, 98, 99, 100, 101, 102]⟩ : ByteArray).extract ((Int.tmod x0 16) : Int).toNat ((wrap64 ((Int.tmod x0 16) + 1)) : Int).toNat) ++ x3)) else (none)) else (none)) else (none)) else (none)) else (if 0 ≤ x0 then (if x0 ≤ (wrap64 (x0 + 1)) then (if (wrap64 (x0 + 1)) ≤ 16 then (if ((⟨#[48, 49, 50, 51, 52, 53, 54, 55, 56, 57, 97, 98, 99, 100, 101, 102]⟩ : ByteArray).extract (x0 : Int).toNat ((wrap64 (x0 + 1)) : Int).toNat).size + x3.size ≤ 9223372036854775807 then (some (((⟨#[48, 49, 50, 51, 52, 53, 54, 55, 56, 57, 97, 98, 99, 100, 101, 102]⟩ : ByteArray).extract (x0 : Int).toNat ((wrap64 (x0 + 1)) : Int).toNat) ++ x3)) else (none)) else (none)) else (none)) else (none))
def intrusionref06_hex.f (k : Nat) (a0 : Int) : Option (ByteArray) := intrusionref06_hex.l0 k a0 (⟨#[]⟩ : ByteArray)
theorem intrusionref06_hex.mono_l : ∀ k, (∀ y0 y1, LeO (intrusionref06_hex.l0 k y0 y1) (intrusionref06_hex.l0 (k + 1) y0 y1))
  | 0 => fun _ _ r h => by simp [intrusionref06_hex.l0] at h
  | k + 1 => by
    have ih0 := intrusionref06_hex.mono_l k
    · intro y0 y1
      unfold intrusionref06_hex.l0
      repeat' first
      | (with_reducible exact ih0 _ _)
      | (with_reducible exact LeO.refl _)
      | (with_reducible exact LeO.none _)
      | (with_reducible refine LeO.ite ?_ ?_)
      | (with_reducible refine LeO.bind ?_ (fun _ => ?_))
      | exact ih0 _ _
      | exact LeO.none _
      | refine LeO.ite ?_ ?_
      | refine LeO.bind ?_ (fun _ => ?_)
theorem intrusionref06_hex.mono : ∀ a0 k, LeO (intrusionref06_hex.f k a0) (intrusionref06_hex.f (k + 1) a0) := by
  intro a0 k
  have ih0 := intrusionref06_hex.mono_l k
  unfold intrusionref06_hex.f
  repeat' first
      | (with_reducible exact ih0 _ _)
      | (with_reducible exact LeO.refl _)
      | (with_reducible exact LeO.none _)
      | (with_reducible refine LeO.ite ?_ ?_)
      | (with_reducible refine LeO.bind ?_ (fun _ => ?_))
      | exact ih0 _ _
      | exact LeO.none _
      | refine LeO.ite ?_ ?_
      | refine LeO.bind ?_ (fun _ => ?_)
end Go.Proofs.YtlgfinnldhjgeaaDoor.Q
end

section
namespace Go.Proofs.YtlgfinnldhjgeaaDoor.Q
open Go.RowKit Go.Proofs.YtlgfinnldhjgeaaDoorW.PrintWords Go.Proofs.YtlgfinnldhjgeaaDoorW.PrintLast Go.Proofs.YtlgfinnldhjgeaaDoorW.PrintMore
attribute [local go_sem] max2_int min2_int max_two min_two max_three min_three max_four min_four
set_option linter.unusedVariables false
set_option linter.unusedSimpArgs false
mutual
def intrusionref06_Format.l0 : Nat → List Int → Int → Int → Int → Option (ByteArray)
  | 0, _, _, _, _ => none
  | k + 1, x3, x4, x5, x6 => if x6 < 8 then ((intrusionref06_run.f k x3 x6).bind fun t448 => (if t448 > x5 then ((intrusionref06_run.f k x3 x6).bind fun t449 => (intrusionref06_Format.l0 k x3 x6 t449 (wrap64 (x6 + 1)))) else (intrusionref06_Format.l0 k x3 x4 x5 (wrap64 (x6 + 1))))) else (intrusionref06_Format.l1 k x3 x4 x5 (⟨#[]⟩ : ByteArray) 0)
def intrusionref06_Format.l1 : Nat → List Int → Int → Int → ByteArray → Int → Option (ByteArray)
  | 0, _, _, _, _, _ => none
  | k + 1, x3, x4, x5, x7, x8 => if x8 < 8 then (if x8 = x4 then (if x7.size + 2 ≤ 9223372036854775807 then (intrusionref06_Format.l1 k x3 x4 x5 (x7 ++ (⟨#[58, 58]⟩ : ByteArray)) (wrap64 ((wrap64 (x8 + (wrap64 (x5 - 1)))) + 1))) else (none)) else (if x7.toList = ([] : List UInt8) then (if 0 ≤ x8 then (if x8 < (x3.length : Int) then ((intrusionref06_hex.f k (rd x3 x8)).bind fun t451 => (if x7.size + t451.size ≤ 9223372036854775807 then (intrusionref06_Format.l1 k x3 x4 x5 (x7 ++ t451) (wrap64 (x8 + 1))) else (none))) else (none)) else (none)) else (if 0 ≤ (wrap64 ((x7.size : Int) - 1)) then (if (wrap64 ((x7.size : Int) - 1)) < (x7.size : Int) then (if (bt x7 (wrap64 ((x7.size : Int) - 1))) = 58 then (if 0 ≤ x8 then (if x8 < (x3.length : Int) then ((intrusionref06_hex.f k (rd x3 x8)).bind fun t453 => (if x7.size + t453.size ≤ 9223372036854775807 then (intrusionref06_Format.l1 k x3 x4 x5 (x7 ++ t453) (wrap64 (x8 + 1))) else (none))) else (none)) else (none)) else (if x7.size + 1 ≤ 9223372036854775807 then (if 0 ≤ x8 then (if x8 < (x3.length : Int) then ((intrusionref06_hex.f k (rd x3 x8)).bind fun t455 => (if (x7 ++ (⟨#[58]⟩ : ByteArray)).size + t455.size ≤ 9223372036854775807 then (intrusionref06_Format.l1 k x3 x4 x5 ((x7 ++ (⟨#[58]⟩ : ByteArray)) ++ t455) (wrap64 (x8 + 1))) else (none))) else (none)) else (none)) else (none))) else (none)) else (none)))) else (some x7)
end
def intrusionref06_Format.f (k : Nat) (a0_0 : Bool) (a0_1 : Int) (a0_2 : Int) : Option (ByteArray) := if a0_0 = true then ((intrusionref06_Groups.f k a0_0 a0_1 a0_2).bind fun t445 => (intrusionref06_Format.l0 k t445 (-1) 1 0)) else ((intrusionref06_Number.f k (wrap64 (Go.bits .and .u64 (a0_2 / 16777216) 255))).bind fun t441 => (if t441.size + 1 ≤ 9223372036854775807 then ((intrusionref06_Number.f k (wrap64 (Go.bits .and .u64 (a0_2 / 65536) 255))).bind fun t442 => (if (t441 ++ (⟨#[46]⟩ : ByteArray)).size + t442.size ≤ 9223372036854775807 then (if ((t441 ++ (⟨#[46]⟩ : ByteArray)) ++ t442).size + 1 ≤ 9223372036854775807 then ((intrusionref06_Number.f k (wrap64 (Go.bits .and .u64 (a0_2 / 256) 255))).bind fun t443 => (if (((t441 ++ (⟨#[46]⟩ : ByteArray)) ++ t442) ++ (⟨#[46]⟩ : ByteArray)).size + t443.size ≤ 9223372036854775807 then (if ((((t441 ++ (⟨#[46]⟩ : ByteArray)) ++ t442) ++ (⟨#[46]⟩ : ByteArray)) ++ t443).size + 1 ≤ 9223372036854775807 then ((intrusionref06_Number.f k (wrap64 (Go.bits .and .u64 a0_2 255))).bind fun t444 => (if (((((t441 ++ (⟨#[46]⟩ : ByteArray)) ++ t442) ++ (⟨#[46]⟩ : ByteArray)) ++ t443) ++ (⟨#[46]⟩ : ByteArray)).size + t444.size ≤ 9223372036854775807 then (some ((((((t441 ++ (⟨#[46]⟩ : ByteArray)) ++ t442) ++ (⟨#[46]⟩ : ByteArray)) ++ t443) ++ (⟨#[46]⟩ : ByteArray)) ++ t444)) else (none))) else (none)) else (none))) else (none)) else (none))) else (none)))
theorem intrusionref06_Format.mono_l : ∀ k, (∀ y0 y1 y2 y3, LeO (intrusionref06_Format.l0 k y0 y1 y2 y3) (intrusionref06_Format.l0 (k + 1) y0 y1 y2 y3)) ∧ (∀ y0 y1 y2 y3 y4, LeO (intrusionref06_Format.l1 k y0 y1 y2 y3 y4) (intrusionref06_Format.l1 (k + 1) y0 y1 y2 y3 y4))
  | 0 => ⟨fun _ _ _ _ r h => by simp [intrusionref06_Format.l0] at h, fun _ _ _ _ _ r h => by simp [intrusionref06_Format.l1] at h⟩
  | k + 1 => by
    obtain ⟨ih0, ih1⟩ := intrusionref06_Format.mono_l k
    refine ⟨?_, ?_⟩
    · intro y0 y1 y2 y3
      unfold intrusionref06_Format.l0
      repeat' first
      | (with_reducible exact ih0 _ _ _ _)
      | (with_reducible exact ih1 _ _ _ _ _)
      | (with_reducible exact intrusionref06_Groups.mono _ _ _ _)
      | (with_reducible exact intrusionref06_Number.mono _ _)
      | (with_reducible exact intrusionref06_hex.mono _ _)
      | (with_reducible exact intrusionref06_run.mono _ _ _)
      | (with_reducible exact LeO.refl _)
      | (with_reducible exact LeO.none _)
      | (with_reducible refine LeO.ite ?_ ?_)
      | (with_reducible refine LeO.bind ?_ (fun _ => ?_))
      | exact ih0 _ _ _ _
      | exact ih1 _ _ _ _ _
      | exact intrusionref06_Groups.mono _ _ _ _
      | exact intrusionref06_Number.mono _ _
      | exact intrusionref06_hex.mono _ _
      | exact intrusionref06_run.mono _ _ _
      | exact LeO.none _
      | refine LeO.ite ?_ ?_
      | refine LeO.bind ?_ (fun _ => ?_)
    · intro y0 y1 y2 y3 y4
      unfold intrusionref06_Format.l1
      repeat' first
      | (with_reducible exact ih0 _ _ _ _)
      | (with_reducible exact ih1 _ _ _ _ _)
      | (with_reducible exact intrusionref06_Groups.mono _ _ _ _)
      | (with_reducible exact intrusionref06_Number.mono _ _)
      | (with_reducible exact intrusionref06_hex.mono _ _)
      | (with_reducible exact intrusionref06_run.mono _ _ _)
      | (with_reducible exact LeO.refl _)
      | (with_reducible exact LeO.none _)
      | (with_reducible refine LeO.ite ?_ ?_)
      | (with_reducible refine LeO.bind ?_ (fun _ => ?_))
      | exact ih0 _ _ _ _
      | exact ih1 _ _ _ _ _
      | exact intrusionref06_Groups.mono _ _ _ _
      | exact intrusionref06_Number.mono _ _
      | exact intrusionref06_hex.mono _ _
      | exact intrusionref06_run.mono _ _ _
      | exact LeO.none _
      | refine LeO.ite ?_ ?_
      | refine LeO.bind ?_ (fun _ => ?_)
theorem intrusionref06_Format.mono : ∀ a0 a1 a2 k, LeO (intrusionref06_Format.f k a0 a1 a2) (intrusionref06_Format.f (k + 1) a0 a1 a2) := by
  intro a0 a1 a2 k
  obtain ⟨ih0, ih1⟩ := intrusionref06_Format.mono_l k
  unfold intrusionref06_Format.f
  repeat' first
      | (with_reducible exact ih0 _ _ _ _)
      | (with_reducible exact ih1 _ _ _ _ _)
      | (with_reducible exact intrusionref06_Groups.mono _ _ _ _)
      | (with_reducible exact intrusionref06_Number.mono _ _)
      | (with_reducible exact intrusionref06_hex.mono _ _)
      | (with_reducible exact intrusionref06_run.mono _ _ _)
      | (with_reducible exact LeO.refl _)
      | (with_reducible exact LeO.none _)
      | (with_reducible refine LeO.ite ?_ ?_)
      | (with_reducible refine LeO.bind ?_ (fun _ => ?_))
      | exact ih0 _ _ _ _
      | exact ih1 _ _ _ _ _
      | exact intrusionref06_Groups.mono _ _ _ _
      | exact intrusionref06_Number.mono _ _
      | exact intrusionref06_hex.mono _ _
      | exact intrusionref06_run.mono _ _ _
      | exact LeO.none _
      | refine LeO.ite ?_ ?_
      | refine LeO.bind ?_ (fun _ => ?_)
end Go.Proofs.YtlgfinnldhjgeaaDoor.Q
end

section
set_option linter.unusedVariables false
set_option linter.unusedSimpArgs false
namespace Go.Proofs.YtlgfinnldhjgeaaDoor.Q
open Go.RowKit Go.Proofs.YtlgfinnldhjgeaaDoorW.PrintWords Go.Proofs.YtlgfinnldhjgeaaDoorW.PrintLast Go.Proofs.YtlgfinnldhjgeaaDoorW.PrintMore
theorem num_tab : ((List.range 256).all fun n => (intrusionref06_Number.f 6 (n : Int)).map (fun b => b.data.toList) == some (Lib.itoa (n : Int)) && decide ((Lib.itoa (n : Int)).length ≤ 3)) = true := by kernel_rfl
theorem num_ev {n : Int} (h0 : 0 ≤ n) (h1 : n < 256) : Ev (fun k => intrusionref06_Number.f k n) (decB n) ∧ (decB n).size ≤ 3 := by
  have := List.all_eq_true.1 num_tab n.toNat (List.mem_range.2 (by omega))
  rw [Bool.and_eq_true, beq_iff_eq, decide_eq_true_eq, show ((n.toNat : Nat) : Int) = n from by omega] at this
  obtain ⟨e, hl⟩ := this
  obtain ⟨b, hb, he⟩ := Option.map_eq_some_iff.1 e
  have hd : b = decB n := by
    unfold decB
    apply ByteArray.ext
    rw [← Array.toList_inj]
    exact he
  rw [hd] at hb
  refine ⟨Ev.of (intrusionref06_Number.mono n) hb, ?_⟩
  unfold decB
  show (Lib.itoa n).toArray.size ≤ 3
  rw [List.size_toArray]
  exact hl
theorem suf_last (l : List UInt8) (h : l ≠ []) : Lib.hasSuffix l [58] = (l[l.length - 1]'(by have := List.length_pos_iff.2 h; omega) == 58) := by
  obtain ⟨t, c, rfl⟩ : ∃ t c, l = t ++ [c] := ⟨l.dropLast, l.getLast h, (List.dropLast_concat_getLast h).symm⟩
  unfold Lib.hasSuffix List.isSuffixOf
  rw [List.reverse_append]
  simp [List.isPrefixOf]
  rw [Bool.eq_iff_iff, beq_iff_eq, beq_iff_eq]
  exact eq_comm
theorem toList_nil (o : ByteArray) : o.toList = [] ↔ o.data.toList = [] := by rw [ByteArray.toList_eq]
theorem grpL_len (hi lo : Int) : (grpL hi lo).length = 8 := rfl
end Go.Proofs.YtlgfinnldhjgeaaDoor.Q
end

section
namespace Go.Proofs.YtlgfinnldhjgeaaDoor.Q
open Go.RowKit Go.Proofs.YtlgfinnldhjgeaaDoorW.PrintWords Go.Proofs.YtlgfinnldhjgeaaDoorW.PrintLast Go.Proofs.YtlgfinnldhjgeaaDoorW.PrintMore
attribute [local go_sem] max2_int min2_int max_two min_two max_three min_three max_four min_four
set_option linter.unusedVariables false
set_option linter.unusedSimpArgs false
def intrusionref06_FormatPrefix.f (k : Nat) (a0_0 : Bool) (a0_1 : Int) (a0_2 : Int) (a0_3 : Int) : Option (ByteArray) := (intrusionref06_Format.f k a0_0 a0_1 a0_2).bind fun t470 => (if t470.size + 1 ≤ 9223372036854775807 then ((intrusionref06_Number.f k a0_3).bind fun t471 => (if (t470 ++ (⟨#[47]⟩ : ByteArray)).size + t471.size ≤ 9223372036854775807 then (some ((t470 ++ (⟨#[47]⟩ : ByteArray)) ++ t471)) else (none))) else (none))
theorem intrusionref06_FormatPrefix.mono : ∀ a0 a1 a2 a3 k, LeO (intrusionref06_FormatPrefix.f k a0 a1 a2 a3) (intrusionref06_FormatPrefix.f (k + 1) a0 a1 a2 a3) := by
  intro a0 a1 a2 a3 k
  unfold intrusionref06_FormatPrefix.f
  repeat' first
      | (with_reducible exact intrusionref06_Format.mono _ _ _ _)
      | (with_reducible exact intrusionref06_Number.mono _ _)
      | (with_reducible exact LeO.refl _)
      | (with_reducible exact LeO.none _)
      | (with_reducible refine LeO.ite ?_ ?_)
      | (with_reducible refine LeO.bind ?_ (fun _ => ?_))
      | exact intrusionref06_Format.mono _ _ _ _
      | exact intrusionref06_Number.mono _ _
      | exact LeO.none _
      | refine LeO.ite ?_ ?_
      | refine LeO.bind ?_ (fun _ => ?_)
end Go.Proofs.YtlgfinnldhjgeaaDoor.Q
end

section
set_option linter.unusedVariables false
set_option linter.unusedSimpArgs false
namespace Go.Proofs.YtlgfinnldhjgeaaDoor.Q
open Go.RowKit Go.Proofs.YtlgfinnldhjgeaaDoorW.PrintWords Go.Proofs.YtlgfinnldhjgeaaDoorW.PrintLast Go.Proofs.YtlgfinnldhjgeaaDoorW.PrintMore
def dotB : ByteArray := ⟨#[46]⟩
def fmt4 (w x y z : ByteArray) : ByteArray := ((((((w ++ dotB) ++ x) ++ dotB) ++ y) ++ dotB) ++ z)
theorem dot_size : dotB.size = 1 := rfl
theorem join4 (w x y z : ByteArray) (hw : w.size ≤ 3) (hx : x.size ≤ 3) (hy : y.size ≤ 3) (hz : z.size ≤ 3) : strings_Join.f [w, x, y, z] (⟨#[46]⟩ : ByteArray) = some (fmt4 w x y z) := by
  have e : Lib.join ([w, x, y, z].map (·.data.toList)) (⟨#[46]⟩ : ByteArray).data.toList = (fmt4 w x y z).data.toList := by
    unfold Lib.join fmt4 dotB
    simp [List.intercalate, List.intersperse, ByteArray.data_append]
  have hs : (fmt4 w x y z).size ≤ 15 := by
    unfold fmt4
    simp only [ByteArray.size_append, dot_size]
    omega
  unfold strings_Join.f
  rw [e, if_pos (by rw [← size_list]; omega), if_pos (by simp)]
theorem fmt4_size (w x y z : ByteArray) (hw : w.size ≤ 3) (hx : x.size ≤ 3) (hy : y.size ≤ 3) (hz : z.size ≤ 3) : (fmt4 w x y z).size ≤ 15 := by
  unfold fmt4
  simp only [ByteArray.size_append, dot_size]
  omega
def txt4 (lo : Int) : ByteArray := fmt4 (decB (Go.bits .and .u64 (lo / 16777216) 255)) (decB (Go.bits .and .u64 (lo / 65536) 255)) (decB (Go.bits .and .u64 (lo / 256) 255)) (decB (Go.bits .and .u64 lo 255))
theorem fmtT_size (l : List Int) (p q : Nat) : ∀ (d i : Nat) (o : ByteArray), (fmtT l p q d i o).size ≤ o.size + 8 * d
  | 0, i, o => by unfold fmtT; omega
  | d + 1, i, o => by
    have hx := hexL_size 4 (l.getD i 0).toNat
    unfold fmtT
    split
    · split
      · have := fmtT_size l p q d q (o ++ ⟨#[58, 58]⟩)
        rw [ByteArray.size_append, show (⟨#[58, 58]⟩ : ByteArray).size = 2 from rfl] at this
        omega
      · split
        · have := fmtT_size l p q d (i + 1) (o ++ ⟨#[58]⟩ ++ ⟨(hexL 4 (l.getD i 0).toNat).toArray⟩)
          rw [ByteArray.size_append, ByteArray.size_append, show (⟨#[58]⟩ : ByteArray).size = 1 from rfl] at this
          omega
        · have := fmtT_size l p q d (i + 1) (o ++ ⟨(hexL 4 (l.getD i 0).toNat).toArray⟩)
          rw [ByteArray.size_append] at this
          omega
    · omega
def txtA (a : Ad) : ByteArray := if a.f0 = true then fmt6 a.f1 a.f2 else txt4 a.f2
theorem fmt_eq (a : Ad) : address_Format.f a.f0 a.f1 a.f2 = some (txtA a) := by
  unfold address_Format.f txtA
  cases a.f0
  · rw [if_neg Bool.false_ne_true, if_neg Bool.false_ne_true]
    exact join4 _ _ _ _ (num_ev (and255 _).1 (and255 _).2).2 (num_ev (and255 _).1 (and255 _).2).2 (num_ev (and255 _).1 (and255 _).2).2 (num_ev (and255 _).1 (and255 _).2).2
  · rfl
theorem txtA_size (a : Ad) : (txtA a).size ≤ 64 := by
  unfold txtA
  split
  · have := fmtT_size (grpL a.f1 a.f2) (runF (grpL a.f1 a.f2) 8 0 (0, 0)).1 (runF (grpL a.f1 a.f2) 8 0 (0, 0)).2 8 0 ⟨#[]⟩
    exact this
  · have := fmt4_size _ _ _ _ (num_ev (and255 (a.f2 / 16777216)).1 (and255 _).2).2 (num_ev (and255 (a.f2 / 65536)).1 (and255 _).2).2 (num_ev (and255 (a.f2 / 256)).1 (and255 _).2).2 (num_ev (and255 a.f2).1 (and255 _).2).2
    unfold txt4
    omega
def txtP (a : Ad) (b : Int) : ByteArray := (txtA a ++ ⟨#[47]⟩) ++ decB b
theorem itoa_s {b : Int} (h0 : 0 ≤ b) (h1 : b < 256) : strconv_Itoa.f b = some (decB b) := by
  unfold strconv_Itoa.f decB
  rw [if_pos (by omega)]
theorem fp_eq (a : Ad) {b : Int} (h0 : 0 ≤ b) (h1 : b < 256) : address_FormatPrefix.f a.f0 a.f1 a.f2 b = some (txtP a b) := by
  have hs := txtA_size a
  have hd := (num_ev h0 h1).2
  unfold address_FormatPrefix.f txtP
  rw [fmt_eq, Option.bind_some, if_pos (by omega), itoa_s h0 h1, Option.bind_some, if_pos (by rw [ByteArray.size_append, show (⟨#[47]⟩ : ByteArray).size = 1 from rfl]; omega)]
theorem and_zero (x n : Nat) (hx : x < 18446744073709551616) (hn : n ≤ 64) : Go.bits .and .u64 (x : Int) ((2 ^ n - 1 : Nat) : Int) = 0 ↔ setN x n false = x := by
  rw [bits_and x n hx hn]
  have := Nat.mod_le x (2 ^ n)
  unfold setN
  simp only [Bool.false_eq_true, if_false]
  omega
theorem low_iff {a : Ad} (h : AW a) {k : Nat} (hk : k ≤ 128) : (Go.bits .and .u64 a.f1 (hiM k) = 0 ∧ Go.bits .and .u64 a.f2 (loM k) = 0) ↔ subA a k false = a := by
  rw [subA_eq h hk]
  obtain ⟨h1, h2, h3, h4⟩ := h
  obtain ⟨a0, a1, a2⟩ := a
  simp only at h1 h2 h3 h4 ⊢
  have e1 := and_zero a1.toNat (k - 64) (by omega) (by omega)
  have e2 := and_zero a2.toNat (min k 64) (by omega) (by omega)
  rw [show ((a1.toNat : Nat) : Int) = a1 from by omega] at e1
  rw [show ((a2.toNat : Nat) : Int) = a2 from by omega] at e2
  unfold hiM loM
  rw [e1, e2]
  simp only [Ad, S25.mk.injEq, true_and]
  omega
def vpB (a : Ad) (b : Int) : Bool := fineB a && (decide (0 ≤ b ∧ b ≤ szA a.f0) && decide (subA a (restN a b) false = a))
theorem vp_eq {a : Ad} (h : AW a) (b : Int) : address_ValidPrefix.f a.f0 a.f1 a.f2 b = some (vpB a b) := by
  have hs := szA_le a.f0
  unfold address_ValidPrefix.f vpB
  rw [fine_eq, Option.bind_some]
  cases hf : fineB a
  · rfl
  · rw [if_pos rfl, Bool.true_and]
    by_cases h0 : b < 0
    · rw [if_pos h0, decide_eq_false (by omega)]; rfl
    · rw [if_neg h0, size_eq, Option.bind_some]
      by_cases h1 : b > ((szA a.f0 : Nat) : Int)
      · rw [if_pos h1, decide_eq_false (by omega)]; rfl
      · have hk : restN a b ≤ 128 := by unfold restN; omega
        have hl := low_iff h hk
        rw [if_neg h1, mask_eq a b (restN a b) (by unfold restN; omega) (by omega) (by omega), Option.bind_some, decide_eq_true (show 0 ≤ b ∧ b ≤ ((szA a.f0 : Nat) : Int) from by omega), Bool.true_and]
        by_cases c : Go.bits .and .u64 a.f1 (hiM (restN a b)) = 0
        · rw [if_pos c]
          congr 1
          rw [Bool.eq_iff_iff, beq_iff_eq, decide_eq_true_eq, ← hl]
          exact ⟨fun h => ⟨c, h⟩, fun h => h.2⟩
        · rw [if_neg c, decide_eq_false (fun e => c (hl.2 e).1)]
end Go.Proofs.YtlgfinnldhjgeaaDoor.Q
end

section
namespace Go.Proofs.YtlgfinnldhjgeaaDoor.Q
open Go.RowKit Go.Proofs.YtlgfinnldhjgeaaDoorW.PrintWords Go.Proofs.YtlgfinnldhjgeaaDoorW.PrintLast Go.Proofs.YtlgfinnldhjgeaaDoorW.PrintMore
attribute [local go_sem] max2_int min2_int max_two min_two max_three min_three max_four min_four
set_option linter.unusedVariables false
set_option linter.unusedSimpArgs false
def intrusionref06_parse4.l0 : Nat → List ByteArray → Int → Bool → Int → Int → Option (Bool × Int × Int × Bool)
  | 0, _, _, _, _, _ => none
  | k + 1, x4, x6, x197000, x197001, x197002 => if x6 < 4 then (if 0 ≤ x6 then (if x6 < (x4.length : Int) then ((intrusionref06_Decimal.f k (rdOf ByteArray.empty x4 x6) 255).bind fun t198 => (if t198 < 0 then (some (false, 0, 0, false)) else (intrusionref06_parse4.l0 k x4 (wrap64 (x6 + 1)) x197000 x197001 (Go.bits .or .u64 (IntKind.u64.wrap (x197002 * 256)) (IntKind.u64.wrap (t198)))))) else (none)) else (none)) else (some (x197000, x197001, x197002, true))
def intrusionref06_parse4.f (k : Nat) (a0 : ByteArray) : Option (Bool × Int × Int × Bool) := (intrusionref06_Split.f k a0 46).bind fun t193 => (if (t193.length : Int) = 4 then (intrusionref06_parse4.l0 k t193 0 false 0 0) else (some (false, 0, 0, false)))
theorem intrusionref06_parse4.mono_l : ∀ k, (∀ y0 y1 y2 y3 y4, LeO (intrusionref06_parse4.l0 k y0 y1 y2 y3 y4) (intrusionref06_parse4.l0 (k + 1) y0 y1 y2 y3 y4))
  | 0 => fun _ _ _ _ _ r h => by simp [intrusionref06_parse4.l0] at h
  | k + 1 => by
    have ih0 := intrusionref06_parse4.mono_l k
    · intro y0 y1 y2 y3 y4
      unfold intrusionref06_parse4.l0
      repeat' first
      | (with_reducible exact ih0 _ _ _ _ _)
      | (with_reducible exact intrusionref06_Decimal.mono _ _ _)
      | (with_reducible exact intrusionref06_Split.mono _ _ _)
      | (with_reducible exact LeO.refl _)
      | (with_reducible exact LeO.none _)
      | (with_reducible refine LeO.ite ?_ ?_)
      | (with_reducible refine LeO.bind ?_ (fun _ => ?_))
      | exact ih0 _ _ _ _ _
      | exact intrusionref06_Decimal.mono _ _ _
      | exact intrusionref06_Split.mono _ _ _
      | exact LeO.none _
      | refine LeO.ite ?_ ?_
      | refine LeO.bind ?_ (fun _ => ?_)
theorem intrusionref06_parse4.mono : ∀ a0 k, LeO (intrusionref06_parse4.f k a0) (intrusionref06_parse4.f (k + 1) a0) := by
  intro a0 k
  have ih0 := intrusionref06_parse4.mono_l k
  unfold intrusionref06_parse4.f
  repeat' first
      | (with_reducible exact ih0 _ _ _ _ _)
      | (with_reducible exact intrusionref06_Decimal.mono _ _ _)
      | (with_reducible exact intrusionref06_Split.mono _ _ _)
      | (with_reducible exact LeO.refl _)
      | (with_reducible exact LeO.none _)
      | (with_reducible refine LeO.ite ?_ ?_)
      | (with_reducible refine LeO.bind ?_ (fun _ => ?_))
      | exact ih0 _ _ _ _ _
      | exact intrusionref06_Decimal.mono _ _ _
      | exact intrusionref06_Split.mono _ _ _
      | exact LeO.none _
      | refine LeO.ite ?_ ?_
      | refine LeO.bind ?_ (fun _ => ?_)
end Go.Proofs.YtlgfinnldhjgeaaDoor.Q
end

section
namespace Go.Proofs.YtlgfinnldhjgeaaDoor.Q
open Go.RowKit Go.Proofs.YtlgfinnldhjgeaaDoorW.PrintWords Go.Proofs.YtlgfinnldhjgeaaDoorW.PrintLast Go.Proofs.YtlgfinnldhjgeaaDoorW.PrintMore
attribute [local go_sem] max2_int min2_int max_two min_two max_three min_three max_four min_four
set_option linter.unusedVariables false
set_option linter.unusedSimpArgs false
mutual
def intrusionref06_parse6.j2 : Nat → List Int → Option (Bool × Int × Int × Bool)
  | 0, _ => none
  | k + 1, x4 => intrusionref06_parse6.l1 k x4 0 true 0 0
def intrusionref06_parse6.l1 : Nat → List Int → Int → Bool → Int → Int → Option (Bool × Int × Int × Bool)
  | 0, _, _, _, _, _ => none
  | k + 1, x4, x13, x228000, x228001, x228002 => if x13 < 4 then (if 0 ≤ x13 then (if x13 < (x4.length : Int) then (if 0 ≤ (wrap64 (x13 + 4)) then (if (wrap64 (x13 + 4)) < (x4.length : Int) then (intrusionref06_parse6.l1 k x4 (wrap64 (x13 + 1)) x228000 (Go.bits .or .u64 (IntKind.u64.wrap (x228001 * 65536)) (IntKind.u64.wrap (rd x4 x13))) (Go.bits .or .u64 (IntKind.u64.wrap (x228002 * 65536)) (IntKind.u64.wrap (rd x4 (wrap64 (x13 + 4)))))) else (none)) else (none)) else (none)) else (none)) else (some (x228000, x228001, x228002, true))
def intrusionref06_parse6.j0 : Nat → List Int → List Int → Bool → Option (Bool × Int × Int × Bool)
  | 0, _, _, _ => none
  | k + 1, x8, x10, x60 => if x60 = true then (some (false, 0, 0, false)) else (intrusionref06_parse6.l0 k x8 x10)
def intrusionref06_parse6.l0 : Nat → List Int → List Int → Option (Bool × Int × Int × Bool)
  | 0, _, _ => none
  | k + 1, x8, x10 => if (wrap64 ((x8.length : Int) + (x10.length : Int))) < 8 then (if x8.length < 17592186044416 then (intrusionref06_parse6.l0 k (x8 ++ [0]) x10) else (none)) else (if x8.length + x10.length < 17592186044416 then (intrusionref06_parse6.j2 k (x8 ++ x10)) else (none))
end
def intrusionref06_parse6.f (k : Nat) (a0 : ByteArray) : Option (Bool × Int × Int × Bool) := (intrusionref06_gap.f k a0).bind fun t208 => (if t208 < 0 then ((intrusionref06_groups.f k a0).bind fun bt209 => (if bt209.2 = true then (if (bt209.1.length : Int) = 8 then (intrusionref06_parse6.j2 k bt209.1) else (some (false, 0, 0, false))) else (some (false, 0, 0, false)))) else (if 0 ≤ t208 then (if t208 ≤ (a0.size : Int) then ((intrusionref06_groups.f k (a0.extract 0 (t208 : Int).toNat)).bind fun bt213 => (if 0 ≤ (wrap64 (t208 + 2)) then (if (wrap64 (t208 + 2)) ≤ (a0.size : Int) then ((intrusionref06_groups.f k (a0.extract ((wrap64 (t208 + 2)) : Int).toNat a0.size)).bind fun bt217 => (if bt213.2 = true then (if bt217.2 = true then (intrusionref06_parse6.j0 k bt213.1 bt217.1 (decide ((wrap64 ((bt213.1.length : Int) + (bt217.1.length : Int))) > 7))) else (intrusionref06_parse6.j0 k bt213.1 bt217.1 true)) else (intrusionref06_parse6.j0 k bt213.1 bt217.1 true))) else (none)) else (none))) else (none)) else (none)))
theorem intrusionref06_parse6.mono_l : ∀ k, (∀ y0, LeO (intrusionref06_parse6.j2 k y0) (intrusionref06_parse6.j2 (k + 1) y0)) ∧ (∀ y0 y1 y2 y3 y4, LeO (intrusionref06_parse6.l1 k y0 y1 y2 y3 y4) (intrusionref06_parse6.l1 (k + 1) y0 y1 y2 y3 y4)) ∧ (∀ y0 y1 y2, LeO (intrusionref06_parse6.j0 k y0 y1 y2) (intrusionref06_parse6.j0 (k + 1) y0 y1 y2)) ∧ (∀ y0 y1, LeO (intrusionref06_parse6.l0 k y0 y1) (intrusionref06_parse6.l0 (k + 1) y0 y1))
  | 0 => ⟨fun _ r h => by simp [intrusionref06_parse6.j2] at h, fun _ _ _ _ _ r h => by simp [intrusionref06_parse6.l1] at h, fun _ _ _ r h => by simp [intrusionref06_parse6.j0] at h, fun _ _ r h => by simp [intrusionref06_parse6.l0] at h⟩
  | k + 1 => by
    obtain ⟨ih0, ih1, ih2, ih3⟩ := intrusionref06_parse6.mono_l k
    refine ⟨?_, ?_, ?_, ?_⟩
    · intro y0
      unfold intrusionref06_parse6.j2
      repeat' first
      | (with_reducible exact ih0 _)
      | (with_reducible exact ih1 _ _ _ _ _)
      | (with_reducible exact ih2 _ _ _)
      | (with_reducible exact ih3 _ _)
      | (with_reducible exact intrusionref06_gap.mono _ _)
      | (with_reducible exact intrusionref06_groups.mono _ _)
      | (with_reducible exact LeO.refl _)
      | (with_reducible exact LeO.none _)
      | (with_reducible refine LeO.ite ?_ ?_)
      | (with_reducible refine LeO.bind ?_ (fun _ => ?_))
      | exact ih0 _
      | exact ih1 _ _ _ _ _
      | exact ih2 _ _ _
      | exact ih3 _ _
      | exact intrusionref06_gap.mono _ _
      | exact intrusionref06_groups.mono _ _
      | exact LeO.none _
      | refine LeO.ite ?_ ?_
      | refine LeO.bind ?_ (fun _ => ?_)
    · intro y0 y1 y2 y3 y4
      unfold intrusionref06_parse6.l1
      repeat' first
      | (with_reducible exact ih0 _)
      | (with_reducible exact ih1 _ _ _ _ _)
      | (with_reducible exact ih2 _ _ _)
      | (with_reducible exact ih3 _ _)
      | (with_reducible exact intrusionref06_gap.mono _ _)
      | (with_reducible exact intrusionref06_groups.mono _ _)
      | (with_reducible exact LeO.refl _)
      | (with_reducible exact LeO.none _)
      | (with_reducible refine LeO.ite ?_ ?_)
      | (with_reducible refine LeO.bind ?_ (fun _ => ?_))
      | exact ih0 _
      | exact ih1 _ _ _ _ _
      | exact ih2 _ _ _
      | exact ih3 _ _
      | exact intrusionref06_gap.mono _ _
      | exact intrusionref06_groups.mono _ _
      | exact LeO.none _
      | refine LeO.ite ?_ ?_
      | refine LeO.bind ?_ (fun _ => ?_)
    · intro y0 y1 y2
      unfold intrusionref06_parse6.j0
      repeat' first
      | (with_reducible exact ih0 _)
      | (with_reducible exact ih1 _ _ _ _ _)
      | (with_reducible exact ih2 _ _ _)
      | (with_reducible exact ih3 _ _)
      | (with_reducible exact intrusionref06_gap.mono _ _)
      | (with_reducible exact intrusionref06_groups.mono _ _)
      | (with_reducible exact LeO.refl _)
      | (with_reducible exact LeO.none _)
      | (with_reducible refine LeO.ite ?_ ?_)
      | (with_reducible refine LeO.bind ?_ (fun _ => ?_))
      | exact ih0 _
      | exact ih1 _ _ _ _ _
      | exact ih2 _ _ _
      | exact ih3 _ _
      | exact intrusionref06_gap.mono _ _
      | exact intrusionref06_groups.mono _ _
      | exact LeO.none _
      | refine LeO.ite ?_ ?_
      | refine LeO.bind ?_ (fun _ => ?_)
    · intro y0 y1
      unfold intrusionref06_parse6.l0
      repeat' first
      | (with_reducible exact ih0 _)
      | (with_reducible exact ih1 _ _ _ _ _)
      | (with_reducible exact ih2 _ _ _)
      | (with_reducible exact ih3 _ _)
      | (with_reducible exact intrusionref06_gap.mono _ _)
      | (with_reducible exact intrusionref06_groups.mono _ _)
      | (with_reducible exact LeO.refl _)
      | (with_reducible exact LeO.none _)
      | (with_reducible refine LeO.ite ?_ ?_)
      | (with_reducible refine LeO.bind ?_ (fun _ => ?_))
      | exact ih0 _
      | exact ih1 _ _ _ _ _
      | exact ih2 _ _ _
      | exact ih3 _ _
      | exact intrusionref06_gap.mono _ _
      | exact intrusionref06_groups.mono _ _
      | exact LeO.none _
      | refine LeO.ite ?_ ?_
      | refine LeO.bind ?_ (fun _ => ?_)
theorem intrusionref06_parse6.mono : ∀ a0 k, LeO (intrusionref06_parse6.f k a0) (intrusionref06_parse6.f (k + 1) a0) := by
  intro a0 k
  obtain ⟨ih0, ih1, ih2, ih3⟩ := intrusionref06_parse6.mono_l k
  unfold intrusionref06_parse6.f
  repeat' first
      | (with_reducible exact ih0 _)
      | (with_reducible exact ih1 _ _ _ _ _)
      | (with_reducible exact ih2 _ _ _)
      | (with_reducible exact ih3 _ _)
      | (with_reducible exact intrusionref06_gap.mono _ _)
      | (with_reducible exact intrusionref06_groups.mono _ _)
      | (with_reducible exact LeO.refl _)
      | (with_reducible exact LeO.none _)
      | (with_reducible refine LeO.ite ?_ ?_)
      | (with_reducible refine LeO.bind ?_ (fun _ => ?_))
      | exact ih0 _
      | exact ih1 _ _ _ _ _
      | exact ih2 _ _ _
      | exact ih3 _ _
      | exact intrusionref06_gap.mono _ _
      | exact intrusionref06_groups.mono _ _
      | exact LeO.none _
      | refine LeO.ite ?_ ?_
      | refine LeO.bind ?_ (fun _ => ?_)
end Go.Proofs.YtlgfinnldhjgeaaDoor.Q
end

section
namespace Go.Proofs.YtlgfinnldhjgeaaDoor.Q
open Go.RowKit Go.Proofs.YtlgfinnldhjgeaaDoorW.PrintWords Go.Proofs.YtlgfinnldhjgeaaDoorW.PrintLast Go.Proofs.YtlgfinnldhjgeaaDoorW.PrintMore
attribute [local go_sem] max2_int min2_int max_two min_two max_three min_three max_four min_four
set_option linter.unusedVariables false
set_option linter.unusedSimpArgs false
def intrusionref06_Parse.f (k : Nat) (a0 : ByteArray) : Option (Bool × Int × Int × Int) := if (a0.size : Int) > 64 then (some (false, 0, 0, 3)) else ((intrusionref06_parse4.f k a0).bind fun bt231 => (if bt231.2.2.2 = true then (some (bt231.1, bt231.2.1, bt231.2.2.1, 0)) else ((intrusionref06_parse6.f k a0).bind fun bt236 => (if bt236.2.2.2 = true then (some (bt236.1, bt236.2.1, bt236.2.2.1, 0)) else (some (false, 0, 0, 2))))))
theorem intrusionref06_Parse.mono : ∀ a0 k, LeO (intrusionref06_Parse.f k a0) (intrusionref06_Parse.f (k + 1) a0) := by
  intro a0 k
  unfold intrusionref06_Parse.f
  repeat' first
      | (with_reducible exact intrusionref06_parse4.mono _ _)
      | (with_reducible exact intrusionref06_parse6.mono _ _)
      | (with_reducible exact LeO.refl _)
      | (with_reducible exact LeO.none _)
      | (with_reducible refine LeO.ite ?_ ?_)
      | (with_reducible refine LeO.bind ?_ (fun _ => ?_))
      | exact intrusionref06_parse4.mono _ _
      | exact intrusionref06_parse6.mono _ _
      | exact LeO.none _
      | refine LeO.ite ?_ ?_
      | refine LeO.bind ?_ (fun _ => ?_)
end Go.Proofs.YtlgfinnldhjgeaaDoor.Q
end

section
namespace Go.Proofs.YtlgfinnldhjgeaaDoor.Q
open Go.RowKit Go.Proofs.YtlgfinnldhjgeaaDoorW.PrintWords Go.Proofs.YtlgfinnldhjgeaaDoorW.PrintLast Go.Proofs.YtlgfinnldhjgeaaDoorW.PrintMore
attribute [local go_sem] max2_int min2_int max_two min_two max_three min_three max_four min_four
set_option linter.unusedVariables false
set_option linter.unusedSimpArgs false
def intrusionref06_ParsePrefix.j0 : Nat → Int → Bool → Int → Int → Option (Bool × Int × Int × Int × Int)
  | 0, _, _, _, _ => none
  | k + 1, x7, x263000, x263001, x263002 => if x7 = (-1) then (some (false, 0, 0, 0, 2)) else (if x7 = (-2) then (some (false, 0, 0, 0, 4)) else ((intrusionref06_ValidPrefix.f k x263000 x263001 x263002 x7).bind fun t268 => (if t268 = true then (some (x263000, x263001, x263002, x7, 0)) else (some (false, 0, 0, 0, 2)))))
def intrusionref06_ParsePrefix.f (k : Nat) (a0 : ByteArray) : Option (Bool × Int × Int × Int × Int) := if (a0.size : Int) > 64 then (some (false, 0, 0, 0, 3)) else ((intrusionref06_Split.f k a0 47).bind fun t254 => (if 0 < (t254.length : Int) then ((intrusionref06_Parse.f k (rdOf ByteArray.empty t254 0)).bind fun bt258 => (if bt258.2.2.2 = 0 then ((intrusionref06_Width.f bt258.1 bt258.2.1 bt258.2.2.1).bind fun t263 => (if (t254.length : Int) > 1 then (if 0 ≤ (wrap64 (((rdOf ByteArray.empty t254 0).size : Int) + 1)) then (if (wrap64 (((rdOf ByteArray.empty t254 0).size : Int) + 1)) ≤ (a0.size : Int) then ((intrusionref06_Width.f bt258.1 bt258.2.1 bt258.2.2.1).bind fun t265 => ((intrusionref06_Decimal.f k (a0.extract ((wrap64 (((rdOf ByteArray.empty t254 0).size : Int) + 1)) : Int).toNat a0.size) t265).bind fun t266 => (intrusionref06_ParsePrefix.j0 k t266 bt258.1 bt258.2.1 bt258.2.2.1))) else (none)) else (none)) else (intrusionref06_ParsePrefix.j0 k t263 bt258.1 bt258.2.1 bt258.2.2.1))) else (some (false, 0, 0, 0, bt258.2.2.2)))) else (none)))
theorem intrusionref06_ParsePrefix.mono_l : ∀ k, (∀ y0 y1 y2 y3, LeO (intrusionref06_ParsePrefix.j0 k y0 y1 y2 y3) (intrusionref06_ParsePrefix.j0 (k + 1) y0 y1 y2 y3))
  | 0 => fun _ _ _ _ r h => by simp [intrusionref06_ParsePrefix.j0] at h
  | k + 1 => by
    have ih0 := intrusionref06_ParsePrefix.mono_l k
    · intro y0 y1 y2 y3
      unfold intrusionref06_ParsePrefix.j0
      repeat' first
      | (with_reducible exact ih0 _ _ _ _)
      | (with_reducible exact intrusionref06_Decimal.mono _ _ _)
      | (with_reducible exact intrusionref06_Parse.mono _ _)
      | (with_reducible exact intrusionref06_Split.mono _ _ _)
      | (with_reducible exact intrusionref06_ValidPrefix.mono _ _ _ _ _)
      | (with_reducible exact LeO.refl _)
      | (with_reducible exact LeO.none _)
      | (with_reducible refine LeO.ite ?_ ?_)
      | (with_reducible refine LeO.bind ?_ (fun _ => ?_))
      | exact ih0 _ _ _ _
      | exact intrusionref06_Decimal.mono _ _ _
      | exact intrusionref06_Parse.mono _ _
      | exact intrusionref06_Split.mono _ _ _
      | exact intrusionref06_ValidPrefix.mono _ _ _ _ _
      | exact LeO.none _
      | refine LeO.ite ?_ ?_
      | refine LeO.bind ?_ (fun _ => ?_)
theorem intrusionref06_ParsePrefix.mono : ∀ a0 k, LeO (intrusionref06_ParsePrefix.f k a0) (intrusionref06_ParsePrefix.f (k + 1) a0) := by
  intro a0 k
  have ih0 := intrusionref06_ParsePrefix.mono_l k
  unfold intrusionref06_ParsePrefix.f
  repeat' first
      | (with_reducible exact ih0 _ _ _ _)
      | (with_reducible exact intrusionref06_Decimal.mono _ _ _)
      | (with_reducible exact intrusionref06_Parse.mono _ _)
      | (with_reducible exact intrusionref06_Split.mono _ _ _)
      | (with_reducible exact intrusionref06_ValidPrefix.mono _ _ _ _ _)
      | (with_reducible exact LeO.refl _)
      | (with_reducible exact LeO.none _)
      | (with_reducible refine LeO.ite ?_ ?_)
      | (with_reducible refine LeO.bind ?_ (fun _ => ?_))
      | exact ih0 _ _ _ _
      | exact intrusionref06_Decimal.mono _ _ _
      | exact intrusionref06_Parse.mono _ _
      | exact intrusionref06_Split.mono _ _ _
      | exact intrusionref06_ValidPrefix.mono _ _ _ _ _
      | exact LeO.none _
      | refine LeO.ite ?_ ?_
      | refine LeO.bind ?_ (fun _ => ?_)
end Go.Proofs.YtlgfinnldhjgeaaDoor.Q
end

section
set_option linter.unusedVariables false
set_option linter.unusedSimpArgs false
namespace Go.Proofs.YtlgfinnldhjgeaaDoor.Q
open Go.RowKit Go.Proofs.YtlgfinnldhjgeaaDoorW.PrintWords Go.Proofs.YtlgfinnldhjgeaaDoorW.PrintLast Go.Proofs.YtlgfinnldhjgeaaDoorW.PrintMore
def foldO : List (List UInt8) → Nat → Option Nat
  | [], n => some n
  | x :: t, n => match upTo x 255 with | none => none | some v => foldO t (n * 256 + v)
theorem upTo_le {l : List UInt8} {m v : Nat} (h : upTo l m = some v) : v ≤ m := by
  unfold upTo at h
  cases hd : decL l with
  | none => rw [hd] at h; cases h
  | some u =>
    rw [hd] at h
    dsimp only at h
    split at h
    · injection h with h; omega
    · cases h
def p4 (l : List UInt8) : Option Nat := if (spl 46 [] l).length = 4 then foldO (spl 46 [] l) 0 else none
def r4 (o : Option Nat) : Bool × Int × Int × Bool := match o with | none => (false, 0, 0, false) | some v => (false, 0, (v : Int), true)
theorem aparse40 (L : List (List UInt8)) (hL : L.length = 4) : ∀ (d i n : Nat), L.length - i = d → i ≤ L.length → n < 256 ^ i → Ev (fun k => address_parse4.l0 k (L.map mkB) (L.length : Int) (i : Int) false 0 (n : Int)) (r4 (foldO (L.drop i) n))
  | 0, i, n, hd, hi, hn => by
    rw [List.drop_of_length_le (by omega), foldO]
    refine Ev.step (f := fun _ => some (false, 0, (n : Int), true)) (fun k => ?_) (Ev.now _)
    rw [address_parse4.l0, if_neg (by omega)]
  | d + 1, i, n, hd, hi, hn => by
    have hl : i < L.length := by omega
    have hsp : L.drop i = L[i] :: L.drop (i + 1) := List.drop_eq_getElem_cons hl
    obtain ⟨r, ⟨K, e⟩, e2, e3⟩ := number_ev (mkB L[i]) 255 (by omega)
    rw [mkB_list] at e2 e3
    have hp := Nat.pow_le_pow_right (show 0 < 256 by decide) (show i ≤ 3 by omega)
    rw [show (256 : Nat) ^ 3 = 16777216 from by decide] at hp
    rw [hsp, foldO]
    cases hv : upTo L[i] 255 with
    | none =>
      rw [hv] at e2
      refine ⟨K + 1, fun k hk => ?_⟩
      obtain ⟨m, rfl⟩ : ∃ m, k = m + 1 := ⟨k - 1, by omega⟩
      have f := e m (by omega)
      dsimp only at f ⊢
      rw [show ((255 : Nat) : Int) = 255 from rfl] at f
      rw [address_parse4.l0, if_pos (by omega), if_pos (by omega), if_pos (by rw [List.length_map]; omega), rdOf_mk L i hl, f, Option.bind_some, e2, if_neg (by simp)]
      rfl
    | some v =>
      rw [hv] at e2
      have hr := e3 v hv
      have hle := upTo_le hv
      obtain ⟨K2, g⟩ := aparse40 L hL d (i + 1) (n * 256 + v) (by omega) (by omega) (by rw [Nat.pow_succ]; omega)
      refine ⟨K + K2 + 1, fun k hk => ?_⟩
      obtain ⟨m, rfl⟩ : ∃ m, k = m + 1 := ⟨k - 1, by omega⟩
      have f := e m (by omega)
      have f2 := g m (by omega)
      dsimp only at f f2 ⊢
      rw [show ((255 : Nat) : Int) = 255 from rfl] at f
      rw [address_parse4.l0, if_pos (by omega), if_pos (by omega), if_pos (by rw [List.length_map]; omega), rdOf_mk L i hl, f, Option.bind_some, e2, if_pos (show (some v).isSome = true from rfl), hr, u64_id (n := (v : Int)) (by omega) (by omega), or_256 n v (by omega) (by omega), up_i (by omega)]
      exact f2
theorem aparse4_ev (s : ByteArray) (hs : s.data.toList.length ≤ 100) : Ev (fun k => address_parse4.f k s) (r4 (p4 s.data.toList)) := by
  unfold address_parse4.f p4
  by_cases h : (spl 46 [] s.data.toList).length = 4
  · rw [if_pos h]
    have ev := aparse40 (spl 46 [] s.data.toList) h _ 0 0 rfl (by omega) (by decide)
    rw [List.drop_zero] at ev
    refine Ev.congr (fun k => ?_) ev
    rw [split_eq s 46 (by rw [size_list]; omega), Option.bind_some, if_pos (by rw [List.length_map]; omega), List.length_map]
    rfl
  · rw [if_neg h]
    refine Ev.congr (f := fun _ => some (false, 0, 0, false)) (fun k => ?_) (Ev.now _)
    rw [split_eq s 46 (by rw [size_list]; omega), Option.bind_some, if_neg (by rw [List.length_map]; omega)]
def foldN (M : List Nat) : Nat := M.foldl (fun n x => n * 65536 + x) 0
theorem foldN_snoc (M : List Nat) (x : Nat) : foldN (M ++ [x]) = foldN M * 65536 + x := by unfold foldN; rw [List.foldl_append]; rfl
theorem foldN_take (M : List Nat) (i : Nat) (h : i < M.length) : foldN (M.take (i + 1)) = foldN (M.take i) * 65536 + M[i]'h := by
  rw [List.take_succ_eq_append_getElem h, foldN_snoc]
theorem foldN_lt {M : List Nat} (hb : ∀ x ∈ M, x < 65536) : ∀ i, i ≤ M.length → foldN (M.take i) < 65536 ^ i
  | 0, _ => by rw [List.take_zero]; exact Nat.one_pos
  | i + 1, h => by
    have hl : i < M.length := by omega
    have ih := foldN_lt hb i (by omega)
    have hx := hb _ (List.getElem_mem hl)
    rw [foldN_take M i hl, Nat.pow_succ]
    generalize foldN (M.take i) = a at *
    generalize 65536 ^ i = p at *
    omega
theorem or_65536 {x b : Nat} (hb : b < 65536) (hx : x * 65536 + b < 18446744073709551616) : Go.bits .or .u64 (IntKind.u64.wrap ((x : Int) * 65536)) (b : Int) = ((x * 65536 + b : Nat) : Int) := by
  have e : (2 : Nat) ^ 16 = 65536 := by decide
  have h := or_under x b 16 (by rw [e]; exact hb) (by rw [e]; exact hx)
  rw [e] at h
  exact h
theorem p65536 {n : Nat} (h : n ≤ 4) : 65536 ^ n ≤ 18446744073709551616 := Nat.le_trans (Nat.pow_le_pow_right (by decide) h) (by decide)
theorem rd_natI (M : List Nat) (i : Nat) (h : i < M.length) : rd (natI M) (i : Int) = ((M[i]'h : Nat) : Int) := by
  unfold rd natI
  rw [Int.toNat_natCast, List.getD_eq_getElem?_getD, List.getElem?_map, List.getElem?_eq_getElem h]
  rfl
theorem natI_len (M : List Nat) : (natI M).length = M.length := by unfold natI; rw [List.length_map]
theorem natI_app (M R : List Nat) : natI M ++ natI R = natI (M ++ R) := by unfold natI; rw [List.map_append]
def oct (M : List Nat) : Bool × Int × Int × Bool := (true, ((foldN (M.take 4) : Nat) : Int), ((foldN (M.drop 4) : Nat) : Int), true)
theorem afold2 (M : List Nat) (hM : M.length = 8) (hb : ∀ x ∈ M, x < 65536) : ∀ (d i : Nat), 8 - i = d → 4 ≤ i → i ≤ 8 → Ev (fun k => address_parse6.l1 k (natI M) 8 (i : Int) true ((foldN (M.take 4) : Nat) : Int) ((foldN ((M.drop 4).take (i - 4)) : Nat) : Int)) (oct M)
  | 0, i, hd, h4, hi => by
    refine Ev.step (f := fun _ => some (oct M)) (fun k => ?_) (Ev.now _)
    rw [address_parse6.l1, if_neg (by omega), show (M.drop 4).take (i - 4) = M.drop 4 from List.take_of_length_le (by rw [List.length_drop]; omega)]
    rfl
  | d + 1, i, hd, h4, hi => by
    have ih := afold2 M hM hb d (i + 1) (by omega) (by omega) (by omega)
    refine Ev.step (fun k => ?_) ih
    have hl : i < M.length := by omega
    have hl2 : i - 4 < (M.drop 4).length := by rw [List.length_drop]; omega
    have hg : (M.drop 4)[i - 4] = M[i] := by
      rw [List.getElem_drop]
      congr 1
      omega
    have hx := foldN_lt (M := M.drop 4) (fun x hx => hb x (List.mem_of_mem_drop hx)) (i - 4 + 1) (by rw [List.length_drop]; omega)
    have hp := p65536 (n := i - 4 + 1) (by omega)
    rw [foldN_take _ _ hl2, hg] at hx
    rw [address_parse6.l1, if_pos (by omega), if_pos (by omega), if_pos (by rw [natI_len]; omega), if_neg (by omega), rd_natI M i hl, or_65536 (hb _ (List.getElem_mem hl)) (Nat.lt_of_lt_of_le hx hp), up_i (by omega), show i + 1 - 4 = i - 4 + 1 from by omega, foldN_take _ _ hl2, hg]
theorem afold1 (M : List Nat) (hM : M.length = 8) (hb : ∀ x ∈ M, x < 65536) : ∀ (d i : Nat), 4 - i = d → i ≤ 4 → Ev (fun k => address_parse6.l1 k (natI M) 8 (i : Int) true ((foldN (M.take i) : Nat) : Int) 0) (oct M)
  | 0, i, hd, hi => by
    obtain rfl : i = 4 := by omega
    exact afold2 M hM hb _ 4 rfl (by omega) (by omega)
  | d + 1, i, hd, hi => by
    have ih := afold1 M hM hb d (i + 1) (by omega) (by omega)
    refine Ev.step (fun k => ?_) ih
    have hl : i < M.length := by omega
    have hx := foldN_lt hb (i + 1) (by omega)
    have hp := p65536 (n := i + 1) (by omega)
    rw [foldN_take M i hl] at hx
    rw [address_parse6.l1, if_pos (by omega), if_pos (by omega), if_pos (by rw [natI_len]; omega), if_pos (by omega), rd_natI M i hl, or_65536 (hb _ (List.getElem_mem hl)) (Nat.lt_of_lt_of_le hx hp), up_i (by omega), foldN_take M i hl]
def padN (x y : List Nat) : List Nat := x ++ List.replicate (8 - (x.length + y.length)) 0 ++ y
theorem pad_step (x y : List Nat) (h : x.length + y.length < 8) : padN (x ++ [0]) y = padN x y := by
  unfold padN
  rw [List.append_assoc x [0]]
  congr 2
  rw [List.length_append, List.length_cons, List.length_nil, show 8 - (x.length + y.length) = (8 - (x.length + (0 + 1) + y.length)) + 1 from by omega, List.replicate_succ]
  rfl
theorem padN_len (x y : List Nat) (h : x.length + y.length ≤ 8) : (padN x y).length = 8 := by
  unfold padN
  simp
  omega
theorem padN_b {x y : List Nat} (hx : ∀ a ∈ x, a < 65536) (hy : ∀ a ∈ y, a < 65536) : ∀ a ∈ padN x y, a < 65536 := by
  intro a ha
  unfold padN at ha
  rcases List.mem_append.1 ha with h | h
  · rcases List.mem_append.1 h with h | h
    · exact hx a h
    · rw [List.eq_of_mem_replicate h]; decide
  · exact hy a h
theorem apad : ∀ (d : Nat) (x y : List Nat), 8 - (x.length + y.length) = d → x.length + y.length ≤ 8 → (∀ a ∈ x, a < 65536) → (∀ a ∈ y, a < 65536) → Ev (fun k => address_parse6.l0 k (natI x) (natI y)) (oct (padN x y))
  | 0, x, y, hd, hl, hx, hy => by
    have e : padN x y = x ++ y := by unfold padN; rw [hd]; simp
    have hM := padN_len x y hl
    have hb := padN_b hx hy
    rw [e] at hM hb ⊢
    refine Ev.step (fun k => ?_) (afold1 (x ++ y) hM hb _ 0 rfl (by omega))
    rw [address_parse6.l0, wid (by rw [natI_len, natI_len]; omega) (by rw [natI_len, natI_len]; omega), if_neg (by rw [natI_len, natI_len]; omega), if_pos (by rw [natI_len, natI_len]; omega), Option.bind_some, natI_app, natI_len, hM]
    rfl
  | d + 1, x, y, hd, hl, hx, hy => by
    have ih := apad d (x ++ [0]) y (by rw [List.length_append]; simp; omega) (by rw [List.length_append]; simp; omega) (fun a ha => by
      rcases List.mem_append.1 ha with h | h
      · exact hx a h
      · rw [List.mem_singleton.1 h]; decide) hy
    rw [pad_step x y (by omega)] at ih
    refine Ev.step (fun k => ?_) ih
    rw [address_parse6.l0, wid (by rw [natI_len, natI_len]; omega) (by rw [natI_len, natI_len]; omega), if_pos (by rw [natI_len, natI_len]; omega), if_pos (by rw [natI_len]; omega)]
    rw [show natI (x ++ [0]) = natI x ++ [0] from by rw [← natI_app]; rfl]
def p6 (l : List UInt8) : Option (List Nat) :=
  if (Lib.cut l [58, 58]).2.2 = true then (match grps (Lib.cut l [58, 58]).1, grps (Lib.cut l [58, 58]).2.1 with | some x, some y => if x.length + y.length ≤ 7 then some (padN x y) else none | _, _ => none)
  else (match grps l with | some x => if x.length = 8 then some x else none | none => none)
def r6 (o : Option (List Nat)) : Bool × Int × Int × Bool := match o with | none => (false, 0, 0, false) | some M => oct M
theorem grps_b {l : List UInt8} {r : List Nat} (h : grps l = some r) : (∀ x ∈ r, x < 65536) ∧ r.length ≤ l.length + 1 := by
  unfold grps at h
  split at h
  · injection h with h
    subst h
    simp
  · have := mapO_len h
    have h2 := spl_len 58 l []
    exact ⟨this.2, by rw [this.1]; exact h2⟩
theorem cut_len (l : List UInt8) : (Lib.cut l [58, 58]).1.length ≤ l.length ∧ (Lib.cut l [58, 58]).2.1.length ≤ l.length := by
  unfold Lib.cut
  split
  · simp only [List.length_take, List.length_drop]
    omega
  · simp
theorem aparse6_ev (s : ByteArray) (hs : s.data.toList.length ≤ 100) : Ev (fun k => address_parse6.f k s) (r6 (p6 s.data.toList)) := by
  have hc := cut_len s.data.toList
  obtain ⟨K1, e1⟩ := agroups_ev (mkB (Lib.cut s.data.toList [58, 58]).1) (by rw [mkB_list]; omega)
  obtain ⟨K2, e2⟩ := agroups_ev (mkB (Lib.cut s.data.toList [58, 58]).2.1) (by rw [mkB_list]; omega)
  rw [mkB_list] at e1 e2
  have hcut := cut_eq s ⟨#[58, 58]⟩ (by rw [size_list]; omega)
  rw [show (⟨#[58, 58]⟩ : ByteArray).data.toList = [58, 58] from rfl] at hcut
  have main : ∃ K, ∀ k, K ≤ k → (if (grpsV (Lib.cut s.data.toList [58, 58]).1).2 = true then (address_parse6.j0 k (Lib.cut s.data.toList [58, 58]).2.2 (grpsV (Lib.cut s.data.toList [58, 58]).1).1 (grpsV (Lib.cut s.data.toList [58, 58]).2.1).1 (!(grpsV (Lib.cut s.data.toList [58, 58]).2.1).2)) else (address_parse6.j0 k (Lib.cut s.data.toList [58, 58]).2.2 (grpsV (Lib.cut s.data.toList [58, 58]).1).1 (grpsV (Lib.cut s.data.toList [58, 58]).2.1).1 true)) = some (r6 (p6 s.data.toList)) := by
    have fail : ∀ (sh : Bool) (a b : List Int) (k : Nat), 1 ≤ k → address_parse6.j0 k sh a b true = some (false, 0, 0, false) := fun sh a b k hk => by
      obtain ⟨m, rfl⟩ : ∃ m, k = m + 1 := ⟨k - 1, by omega⟩
      rw [address_parse6.j0, if_pos rfl]
    unfold p6 grpsV
    cases h1 : grps (Lib.cut s.data.toList [58, 58]).1 with
    | none =>
      refine ⟨1, fun k hk => ?_⟩
      dsimp only
      rw [if_neg Bool.false_ne_true, fail _ _ _ k hk]
      by_cases hsh : (Lib.cut s.data.toList [58, 58]).2.2 = true
      · rw [if_pos hsh]; rfl
      · rw [if_neg hsh]
        have : (Lib.cut s.data.toList [58, 58]).1 = s.data.toList := by
          unfold Lib.cut at hsh ⊢
          split
          · rename_i h; rw [if_pos h] at hsh; exact absurd rfl hsh
          · rfl
        rw [this] at h1
        rw [h1]; rfl
    | some x =>
      have hxb := (grps_b h1).1
      have hxl := (grps_b h1).2
      cases h2 : grps (Lib.cut s.data.toList [58, 58]).2.1 with
      | none =>
        refine ⟨1, fun k hk => ?_⟩
        dsimp only
        rw [if_pos rfl, Bool.not_false, fail _ _ _ k hk]
        by_cases hsh : (Lib.cut s.data.toList [58, 58]).2.2 = true
        · rw [if_pos hsh]; rfl
        · exfalso
          have : (Lib.cut s.data.toList [58, 58]).2.1 = [] := by
            unfold Lib.cut at hsh ⊢
            split
            · rename_i h; rw [if_pos h] at hsh; exact absurd rfl hsh
            · rfl
          rw [this] at h2
          unfold grps at h2
          rw [if_pos rfl] at h2
          cases h2
      | some y =>
        have hyb := (grps_b h2).1
        have hyl := (grps_b h2).2
        by_cases hsh : (Lib.cut s.data.toList [58, 58]).2.2 = true
        · rw [hsh]
          by_cases h7 : x.length + y.length ≤ 7
          · obtain ⟨K, e⟩ := apad _ x y rfl (by omega) hxb hyb
            refine ⟨K + 3, fun k hk => ?_⟩
            obtain ⟨m, rfl⟩ : ∃ m, k = m + 3 := ⟨k - 3, by omega⟩
            dsimp only
            rw [if_pos rfl, Bool.not_true, address_parse6.j0, if_neg Bool.false_ne_true, if_pos rfl, address_parse6.j1, if_neg Bool.false_ne_true, if_pos rfl, wid (by rw [natI_len, natI_len]; omega) (by rw [natI_len, natI_len]; omega), if_neg (by rw [natI_len, natI_len]; omega), address_parse6.j2, if_pos rfl, if_pos h7]
            exact e m (by omega)
          · refine ⟨3, fun k hk => ?_⟩
            obtain ⟨m, rfl⟩ : ∃ m, k = m + 3 := ⟨k - 3, by omega⟩
            dsimp only
            rw [if_pos rfl, Bool.not_true, address_parse6.j0, if_neg Bool.false_ne_true, if_pos rfl, address_parse6.j1, if_neg Bool.false_ne_true, if_pos rfl, wid (by rw [natI_len, natI_len]; omega) (by rw [natI_len, natI_len]; omega), if_pos (by rw [natI_len, natI_len]; omega), if_pos rfl, if_neg h7]
            rfl
        · have hcz : (Lib.cut s.data.toList [58, 58]).1 = s.data.toList ∧ (Lib.cut s.data.toList [58, 58]).2.1 = [] := by
            unfold Lib.cut at hsh ⊢
            split
            · rename_i h; rw [if_pos h] at hsh; exact absurd rfl hsh
            · exact ⟨rfl, rfl⟩
          rw [hcz.2] at h2
          unfold grps at h2
          rw [if_pos rfl] at h2
          injection h2 with h2
          subst h2
          rw [hcz.1] at h1
          rw [if_neg hsh, h1]
          rw [Bool.not_eq_true] at hsh
          rw [hsh]
          by_cases h8 : x.length = 8
          · obtain ⟨K, e⟩ := apad _ x [] rfl (by simp; omega) hxb (by simp)
            have ep : padN x [] = x := by unfold padN; rw [h8]; simp
            rw [ep] at e
            refine ⟨K + 3, fun k hk => ?_⟩
            obtain ⟨m, rfl⟩ : ∃ m, k = m + 3 := ⟨k - 3, by omega⟩
            dsimp only
            rw [if_pos rfl, Bool.not_true, address_parse6.j0, if_neg Bool.false_ne_true, if_neg Bool.false_ne_true, natI_len, h8, show (((8 : Nat) : Int) != 8) = false from rfl, address_parse6.j1, if_neg Bool.false_ne_true, if_neg Bool.false_ne_true, address_parse6.j2, if_pos rfl]
            exact e m (by omega)
          · refine ⟨3, fun k hk => ?_⟩
            obtain ⟨m, rfl⟩ : ∃ m, k = m + 3 := ⟨k - 3, by omega⟩
            dsimp only
            rw [if_pos rfl, Bool.not_true, address_parse6.j0, if_neg Bool.false_ne_true, if_neg Bool.false_ne_true, natI_len, show ((x.length : Int) != 8) = true from bne_iff_ne.2 (by omega), address_parse6.j1, if_pos rfl, if_neg h8]
            rfl
  obtain ⟨K3, e3⟩ := main
  refine ⟨K1 + K2 + K3, fun k hk => ?_⟩
  have f1 := e1 k (by omega)
  have f2 := e2 k (by omega)
  have f3 := e3 k (by omega)
  dsimp only at f1 f2 ⊢
  unfold address_parse6.f
  rw [hcut, Option.bind_some, f1, Option.bind_some, f2, Option.bind_some]
  exact f3
end Go.Proofs.YtlgfinnldhjgeaaDoor.Q
end

section
set_option linter.unusedVariables false
set_option linter.unusedSimpArgs false
namespace Go.Proofs.YtlgfinnldhjgeaaDoor.Q
open Go.RowKit Go.Proofs.YtlgfinnldhjgeaaDoorW.PrintWords Go.Proofs.YtlgfinnldhjgeaaDoorW.PrintLast Go.Proofs.YtlgfinnldhjgeaaDoorW.PrintMore
def parsePV (l : List UInt8) : Bool × Int × Int × Int :=
  if 64 < l.length then (false, 0, 0, 3) else match p4 l with
    | some v => (false, 0, (v : Int), 0)
    | none => match p6 l with
      | some M => (true, ((foldN (M.take 4) : Nat) : Int), ((foldN (M.drop 4) : Nat) : Int), 0)
      | none => (false, 0, 0, 2)
theorem aparse_ev (s : ByteArray) : Ev (fun k => address_Parse.f k s) (parsePV s.data.toList) := by
  unfold address_Parse.f parsePV
  by_cases h : 64 < s.data.toList.length
  · rw [if_pos h]
    exact Ev.congr (f := fun _ => some (false, 0, 0, 3)) (fun k => if_pos (by rw [size_list]; omega)) (Ev.now _)
  · rw [if_neg h]
    refine Ev.congr (fun k => if_neg (by rw [size_list]; omega)) ?_
    refine Ev.bind (aparse4_ev s (by omega)) ?_
    cases p4 s.data.toList with
    | some v => exact Ev.now _
    | none =>
      refine Ev.congr (fun k => if_neg Bool.false_ne_true) ?_
      refine Ev.bind (aparse6_ev s (by omega)) ?_
      cases p6 s.data.toList with
      | some M => exact Ev.now _
      | none => exact Ev.now _
theorem foldO_lt : ∀ (L : List (List UInt8)) (n v : Nat), foldO L n = some v → v < (n + 1) * 256 ^ L.length
  | [], n, v, h => by
    rw [foldO] at h
    injection h with h
    simp
    omega
  | x :: t, n, v, h => by
    rw [foldO] at h
    cases hu : upTo x 255 with
    | none => rw [hu] at h; cases h
    | some u =>
      rw [hu] at h
      have hle := upTo_le hu
      have := foldO_lt t _ v h
      rw [List.length_cons, Nat.pow_succ]
      generalize 256 ^ t.length = p at *
      have e2 : (n + 1) * (p * 256) = (256 * n + 256) * p := by rw [Nat.mul_comm p 256, ← Nat.mul_assoc]; congr 1; omega
      have g2 : (n * 256 + u + 1) * p ≤ (256 * n + 256) * p := Nat.mul_le_mul_right _ (by omega)
      omega
theorem p4_lt {l : List UInt8} {v : Nat} (h : p4 l = some v) : v < 4294967296 := by
  unfold p4 at h
  split at h
  · rename_i h4
    have := foldO_lt _ _ _ h
    rw [h4] at this
    simpa using this
  · cases h
theorem p6_b {l : List UInt8} {M : List Nat} (h : p6 l = some M) : M.length = 8 ∧ ∀ x ∈ M, x < 65536 := by
  unfold p6 at h
  split at h
  · cases h1 : grps (Lib.cut l [58, 58]).1 with
    | none => rw [h1] at h; cases h
    | some x =>
      cases h2 : grps (Lib.cut l [58, 58]).2.1 with
      | none => rw [h1, h2] at h; cases h
      | some y =>
        rw [h1, h2] at h
        dsimp only at h
        split at h
        · injection h with h
          subst h
          exact ⟨padN_len x y (by omega), padN_b (grps_b h1).1 (grps_b h2).1⟩
        · cases h
  · cases h1 : grps l with
    | none => rw [h1] at h; cases h
    | some x =>
      rw [h1] at h
      dsimp only at h
      split at h
      · rename_i h8
        injection h with h
        subst h
        exact ⟨h8, (grps_b h1).1⟩
      · cases h
def parseA (l : List UInt8) : Ad := ⟨(parsePV l).1, (parsePV l).2.1, (parsePV l).2.2.1⟩
theorem foldN_all {M : List Nat} (hM : M.length = 4) (hb : ∀ x ∈ M, x < 65536) : foldN M < 18446744073709551616 := by
  have := foldN_lt hb 4 (by omega)
  rw [List.take_of_length_le (by omega)] at this
  exact this
theorem parse_aw (l : List UInt8) : AW (parseA l) := by
  unfold parseA parsePV
  split
  · exact ⟨by simp, by simp, by simp, by simp⟩
  · cases h4 : p4 l with
    | some v =>
      have := p4_lt h4
      exact ⟨by simp, by simp, by simp, by simp; omega⟩
    | none =>
      cases h6 : p6 l with
      | none => exact ⟨by simp, by simp, by simp, by simp⟩
      | some M =>
        have hb := p6_b h6
        have b1 := foldN_all (M := M.take 4) (by rw [List.length_take]; omega) (fun x hx => hb.2 x (List.mem_of_mem_take hx))
        have b2 := foldN_all (M := M.drop 4) (by rw [List.length_drop]; omega) (fun x hx => hb.2 x (List.mem_of_mem_drop hx))
        exact ⟨by simp, by simp; omega, by simp, by simp; omega⟩
def vpR (a : Ad) (b : Int) : Bool × Int × Int × Int × Int := if vpB a b = true then (a.f0, a.f1, a.f2, b, 0) else (false, 0, 0, 0, 2)
def parsePP (l : List UInt8) : Bool × Int × Int × Int × Int :=
  if 64 < l.length then (false, 0, 0, 0, 3)
  else if (parsePV (Lib.cut l [47]).1).2.2.2 = 0 then
    (if (Lib.cut l [47]).2.2 = true then (match decL (Lib.cut l [47]).2.1 with
      | none => (false, 0, 0, 0, 2)
      | some v => if szA (parseA (Lib.cut l [47]).1).f0 < v then (false, 0, 0, 0, 4) else vpR (parseA (Lib.cut l [47]).1) (v : Int))
    else vpR (parseA (Lib.cut l [47]).1) ((szA (parseA (Lib.cut l [47]).1).f0 : Nat) : Int))
  else (false, 0, 0, 0, 2)
theorem cut1_len (l : List UInt8) (c : UInt8) : (Lib.cut l [c]).1.length ≤ l.length ∧ (Lib.cut l [c]).2.1.length ≤ l.length := by
  unfold Lib.cut
  split
  · simp only [List.length_take, List.length_drop]
    omega
  · simp
theorem apprefix_ev (s : ByteArray) : Ev (fun k => address_ParsePrefix.f k s) (parsePP s.data.toList) := by
  unfold address_ParsePrefix.f parsePP
  by_cases h : 64 < s.data.toList.length
  · rw [if_pos h]
    exact Ev.congr (f := fun _ => some (false, 0, 0, 0, 3)) (fun k => if_pos (by rw [size_list]; omega)) (Ev.now _)
  · rw [if_neg h]
    have hcut := cut_eq s ⟨#[47]⟩ (by rw [size_list]; omega)
    rw [show (⟨#[47]⟩ : ByteArray).data.toList = [47] from rfl] at hcut
    have hl := cut1_len s.data.toList 47
    obtain ⟨cc, hc⟩ : ∃ cc, Lib.cut s.data.toList [47] = cc := ⟨_, rfl⟩
    obtain ⟨c1, c2, c3⟩ := cc
    rw [hc] at hcut hl ⊢
    dsimp only at hcut hl ⊢
    have hp := aparse_ev (mkB c1)
    rw [mkB_list] at hp
    have haw := parse_aw c1
    refine Ev.congr (f := fun k => (address_Parse.f k (mkB c1)).bind _) (fun k => by rw [if_neg (by rw [size_list]; omega), hcut, Option.bind_some]) ?_
    refine Ev.bind hp ?_
    by_cases he : (parsePV c1).2.2.2 = 0
    · rw [if_pos he]
      have hsz : address_size.f (parsePV c1).1 (parsePV c1).2.1 (parsePV c1).2.2.1 = some ((szA (parseA c1).f0 : Nat) : Int) := size_eq (parseA c1)
      have hvp : ∀ b, address_ValidPrefix.f (parsePV c1).1 (parsePV c1).2.1 (parsePV c1).2.2.1 b = some (vpB (parseA c1) b) := fun b => vp_eq haw b
      refine Ev.congr (fun k => by rw [if_pos he, hsz, Option.bind_some]) ?_
      cases c3
      · refine Ev.congr (f := fun _ => some (vpR (parseA c1) ((szA (parseA c1).f0 : Nat) : Int))) (fun k => ?_) (Ev.now _)
        rw [if_neg Bool.false_ne_true, hvp, Option.bind_some]
        unfold vpR
        cases vpB (parseA c1) ((szA (parseA c1).f0 : Nat) : Int) <;> rfl
      · have hd := dig_ev (mkB c2) (by rw [mkB_list]; omega)
        rw [mkB_list] at hd
        refine Ev.congr (fun k => if_pos rfl) ?_
        refine Ev.bind hd ?_
        rw [if_pos rfl]
        have hs128 := szA_le (parseA c1).f0
        unfold digV
        cases hdec : decL c2 with
        | none => exact Ev.now _
        | some v =>
          dsimp only
          by_cases hv : szA (parseA c1).f0 < v
          · rw [if_pos hv]
            refine Ev.congr (f := fun _ => some (false, 0, 0, 0, 4)) (fun k => ?_) (Ev.now _)
            rw [if_pos rfl, Option.bind_some, if_pos (by omega)]
          · rw [if_neg hv]
            refine Ev.congr (f := fun _ => some (vpR (parseA c1) (v : Int))) (fun k => ?_) (Ev.now _)
            rw [if_pos rfl, Option.bind_some, if_neg (by omega), show ((min v 1000 : Nat) : Int) = (v : Int) from by omega, hvp, Option.bind_some]
            unfold vpR
            cases vpB (parseA c1) (v : Int) <;> rfl
    · rw [if_neg he]
      exact Ev.congr (f := fun _ => some (false, 0, 0, 0, 2)) (fun k => if_neg he) (Ev.now _)
end Go.Proofs.YtlgfinnldhjgeaaDoor.Q
end

section
set_option linter.unusedVariables false
set_option linter.unusedSimpArgs false
namespace Go.Proofs.YtlgfinnldhjgeaaDoor.Q
open Go.RowKit Go.Proofs.YtlgfinnldhjgeaaDoorW.PrintWords Go.Proofs.YtlgfinnldhjgeaaDoorW.PrintLast Go.Proofs.YtlgfinnldhjgeaaDoorW.PrintMore
theorem hxL_app : ∀ (l r : List UInt8) (a : Nat), hxL (l ++ r) a = match hxL l a with | none => none | some v => hxL r v
  | [], r, a => rfl
  | c :: t, r, a => by
    rw [List.cons_append, hxL, hxL]
    cases hexV c.toNat with
    | none => rfl
    | some v => exact hxL_app t r _
theorem hexD_tab : ((List.range 16).all fun d => hexV (hexD d).toNat == some d && !(hexD d == 58) && !(hexD d == 46) && !(hexD d == 47)) = true := by kernel_rfl
theorem hexD_v {d : Nat} (h : d < 16) : hexV (hexD d).toNat = some d ∧ hexD d ≠ 58 ∧ hexD d ≠ 46 ∧ hexD d ≠ 47 := by
  have := List.all_eq_true.1 hexD_tab d (List.mem_range.2 h)
  simp only [Bool.and_eq_true, beq_iff_eq, Bool.not_eq_true', beq_eq_false_iff_ne] at this
  exact ⟨this.1.1.1, this.1.1.2, this.1.2, this.2⟩
theorem hexL_back : ∀ (k n : Nat), n < 16 ^ (k + 1) → hxL (hexL (k + 1) n) 0 = some n
  | 0, n, h => by
    have h : n < 16 := by simpa using h
    rw [hexL, if_pos h, hxL, (hexD_v h).1]
    show hxL [] (0 * 16 + n) = _
    rw [hxL]
    congr 1
    omega
  | k + 1, n, h => by
    rw [hexL]
    by_cases h16 : n < 16
    · rw [if_pos h16, hxL, (hexD_v h16).1]
      show hxL [] (0 * 16 + n) = _
      rw [hxL]
      congr 1
      omega
    · rw [if_neg h16, hxL_app, hexL_back k (n / 16) (Nat.div_lt_of_lt_mul (by rw [Nat.pow_succ, Nat.mul_comm] at h; exact h))]
      show hxL [hexD (n % 16)] (n / 16) = some n
      rw [hxL, (hexD_v (Nat.mod_lt _ (by decide))).1]
      show hxL [] (n / 16 * 16 + n % 16) = _
      rw [hxL]
      congr 1
      omega
theorem hexL_mem : ∀ (k n : Nat), ∀ c ∈ hexL k n, ∃ d, d < 16 ∧ c = hexD d
  | 0, n, c, h => by rw [hexL] at h; cases h
  | k + 1, n, c, h => by
    rw [hexL] at h
    split at h
    · rename_i hn
      exact ⟨n, hn, List.mem_singleton.1 h⟩
    · rcases List.mem_append.1 h with h | h
      · exact hexL_mem k _ c h
      · exact ⟨n % 16, Nat.mod_lt _ (by decide), List.mem_singleton.1 h⟩
theorem hexL_ne (k n : Nat) : hexL (k + 1) n ≠ [] := by
  rw [hexL]
  split
  · simp
  · simp
def hx (n : Nat) : List UInt8 := hexL 4 n
theorem hx_no (n : Nat) : ∀ c ∈ hx n, c ≠ 58 ∧ c ≠ 46 ∧ c ≠ 47 := fun c h => by
  obtain ⟨d, hd, rfl⟩ := hexL_mem 4 n c h
  exact (hexD_v hd).2
theorem hx_ne (n : Nat) : hx n ≠ [] := hexL_ne 3 n
theorem hx_grp {n : Nat} (h : n < 65536) : grpV (hx n) = some n := by
  unfold grpV
  rw [if_pos ⟨hx_ne n, hexL_len 4 n⟩]
  exact hexL_back 3 n (by simpa using h)
theorem spl_skip (c : UInt8) : ∀ (x cur rest : List UInt8), (∀ y ∈ x, y ≠ c) → spl c cur (x ++ rest) = spl c (cur ++ x) rest
  | [], cur, rest, _ => by simp
  | y :: t, cur, rest, h => by
    rw [List.cons_append, spl, if_neg (h y (by simp)), spl_skip c t (cur ++ [y]) rest (fun z hz => h z (by simp [hz])), List.append_assoc]
    rfl
def jn (c : UInt8) : List (List UInt8) → List UInt8
  | [] => []
  | x :: t => x ++ (t.map (c :: ·)).flatten
theorem spl_jn (c : UInt8) : ∀ (t : List (List UInt8)) (cur : List UInt8), (∀ x ∈ t, ∀ y ∈ x, y ≠ c) → spl c cur ((t.map (c :: ·)).flatten) = cur :: t
  | [], cur, _ => rfl
  | x :: t, cur, h => by
    rw [List.map_cons, List.flatten_cons, List.cons_append, spl, if_pos rfl, spl_skip c x [] _ (h x (by simp)), List.nil_append, spl_jn c t x (fun z hz => h z (by simp [hz]))]
theorem spl_join (c : UInt8) (x : List UInt8) (t : List (List UInt8)) (h : ∀ z ∈ x :: t, ∀ y ∈ z, y ≠ c) : spl c [] (jn c (x :: t)) = x :: t := by
  rw [jn, spl_skip c x [] _ (h x (by simp)), List.nil_append, spl_jn c t x (fun z hz => h z (by simp [hz]))]
theorem mapO_hx : ∀ (M : List Nat), (∀ n ∈ M, n < 65536) → mapO (M.map hx) = some M
  | [], _ => rfl
  | n :: t, h => by
    rw [List.map_cons, mapO, hx_grp (h n (by simp)), mapO_hx t (fun m hm => h m (by simp [hm]))]
    rfl
theorem hx_all (M : List Nat) (c : UInt8) (hc : c = 58 ∨ c = 46 ∨ c = 47) : ∀ z ∈ M.map hx, ∀ y ∈ z, y ≠ c := by
  intro z hz y hy
  obtain ⟨n, _, rfl⟩ := List.mem_map.1 hz
  have := hx_no n y hy
  rcases hc with rfl | rfl | rfl
  · exact this.1
  · exact this.2.1
  · exact this.2.2
theorem jn_ne {x : List UInt8} (t : List (List UInt8)) (h : x ≠ []) : jn 58 (x :: t) ≠ [] := by
  rw [jn]
  intro e
  exact h (List.append_eq_nil_iff.1 e).1
theorem grps_jn (M : List Nat) (h : ∀ n ∈ M, n < 65536) : grps (jn 58 (M.map hx)) = some M := by
  cases M with
  | nil => rfl
  | cons n t =>
    unfold grps
    rw [List.map_cons, if_neg (jn_ne _ (hx_ne n)), spl_join 58 (hx n) (t.map hx) (by
      have := hx_all (n :: t) 58 (.inl rfl)
      exact this), ← List.map_cons, mapO_hx (n :: t) h]
def nc : List UInt8 → Bool
  | [] => true
  | [_] => true
  | a :: b :: t => !(a == 58 && b == 58) && nc (b :: t)
theorem nc_tail {a : UInt8} {t : List UInt8} (h : nc (a :: t) = true) : nc t = true := by
  cases t with
  | nil => rfl
  | cons b t =>
    rw [nc, Bool.and_eq_true] at h
    exact h.2
theorem index_cons (a : UInt8) (l : List UInt8) (sub : List UInt8) (h : Lib.occAt (a :: l) sub 0 = false) : Lib.index (a :: l) sub = if Lib.index l sub == -1 then -1 else Lib.index l sub + 1 := by
  have := Lib.index_drop (s := a :: l) (sub := sub) (i := 1) (fun j hj => by obtain rfl : j = 0 := (by omega); exact h) (by simp)
  simpa using this
theorem occ_nc {a b : UInt8} {t : List UInt8} (h : nc (a :: b :: t) = true) (r : List UInt8) : Lib.occAt (a :: b :: r) [58, 58] 0 = false := by
  rw [nc, Bool.and_eq_true, Bool.not_eq_true'] at h
  unfold Lib.occAt
  simp only [List.drop_zero, List.isPrefixOf]
  have h1 := h.1
  rw [Bool.and_eq_false_iff] at h1
  rcases h1 with h1 | h1
  · rw [beq_eq_false_iff_ne] at h1
    rw [beq_eq_false_iff_ne.2 (Ne.symm h1)]
    rfl
  · rw [beq_eq_false_iff_ne] at h1
    rw [beq_eq_false_iff_ne.2 (Ne.symm h1)]
    simp
theorem index_nc : ∀ l : List UInt8, nc l = true → Lib.index l [58, 58] = -1
  | [], _ => rfl
  | [a], _ => by
    rw [index_cons a [] [58, 58] (by simp [Lib.occAt, List.isPrefixOf])]
    rfl
  | a :: b :: t, h => by
    rw [index_cons a (b :: t) [58, 58] (occ_nc h t), index_nc (b :: t) (nc_tail h)]
    rfl
theorem index_gap : ∀ (u w : List UInt8), nc (u ++ [58]) = true → Lib.index (u ++ 58 :: 58 :: w) [58, 58] = (u.length : Int)
  | [], w, _ => Lib.index_first (i := 0) (Nat.zero_le _) (by simp [Lib.occAt, List.isPrefixOf]) (fun _ h => absurd h (Nat.not_lt_zero _))
  | [a], w, h => by
    have := index_gap [] w rfl
    rw [List.cons_append, List.nil_append, index_cons a _ [58, 58] (occ_nc h _)]
    rw [List.nil_append] at this
    rw [this]
    rfl
  | a :: b :: t, w, h => by
    have := index_gap (b :: t) w (nc_tail h)
    have h2 : nc (a :: b :: (t ++ [58])) = true := h
    rw [List.cons_append, List.cons_append, index_cons a _ [58, 58] (occ_nc h2 _)]
    rw [List.cons_append] at this
    rw [this, if_neg (by rw [beq_iff_eq]; omega)]
    simp
theorem nc_word : ∀ (x r : List UInt8), (∀ y ∈ x, y ≠ 58) → nc r = true → nc (x ++ r) = true
  | [], r, _, h => h
  | [a], r, ha, h => by
    cases r with
    | nil => rfl
    | cons b t =>
      show nc (a :: b :: t) = true
      rw [nc, h, beq_eq_false_iff_ne.2 (ha a (by simp))]
      rfl
  | a :: b :: t, r, ha, h => by
    have ih := nc_word (b :: t) r (fun y hy => ha y (by simp at hy ⊢; exact .inr hy)) h
    show nc (a :: b :: (t ++ r)) = true
    rw [nc, beq_eq_false_iff_ne.2 (ha a (by simp))]
    exact ih
theorem nc_colon (x r : List UInt8) (hx : x ≠ []) (h : ∀ y ∈ x, y ≠ 58) (hr : nc r = true) : nc (58 :: (x ++ r)) = true := by
  have := nc_word x r h hr
  cases x with
  | nil => exact absurd rfl hx
  | cons a t =>
    rw [List.cons_append] at this ⊢
    rw [nc, this, beq_eq_false_iff_ne.2 (h a (by simp))]
    simp
theorem nc_words : ∀ (t : List (List UInt8)) (r : List UInt8), (∀ z ∈ t, z ≠ [] ∧ ∀ y ∈ z, y ≠ 58) → nc r = true → nc ((t.map ((58 : UInt8) :: ·)).flatten ++ r) = true
  | [], r, _, hr => hr
  | x :: t, r, h, hr => by
    rw [List.map_cons, List.flatten_cons, List.append_assoc, List.cons_append]
    exact nc_colon x _ (h x (by simp)).1 (h x (by simp)).2 (nc_words t r (fun z hz => h z (by simp [hz])) hr)
theorem hx_w (M : List Nat) : ∀ z ∈ M.map hx, z ≠ [] ∧ ∀ y ∈ z, y ≠ 58 := fun z hz => by
  obtain ⟨n, _, rfl⟩ := List.mem_map.1 hz
  exact ⟨hx_ne n, fun y hy => (hx_no n y hy).1⟩
theorem nc_jn (M : List Nat) (r : List UInt8) (hr : nc r = true) (h : M = [] → r.length ≤ 1) : nc (jn 58 (M.map hx) ++ r) = true := by
  cases M with
  | nil => exact hr
  | cons n t =>
    rw [List.map_cons, jn, List.append_assoc]
    exact nc_word _ _ (fun y hy => (hx_no n y hy).1) (nc_words (t.map hx) r (hx_w t) hr)
theorem cut_none (M : List Nat) : Lib.cut (jn 58 (M.map hx)) [58, 58] = (jn 58 (M.map hx), [], false) := by
  have := nc_jn M [] rfl (fun _ => by simp)
  rw [List.append_nil] at this
  unfold Lib.cut
  rw [index_nc _ this]
  rfl
theorem cut_gap (M R : List Nat) : Lib.cut (jn 58 (M.map hx) ++ 58 :: 58 :: jn 58 (R.map hx)) [58, 58] = (jn 58 (M.map hx), jn 58 (R.map hx), true) := by
  have := index_gap (jn 58 (M.map hx)) (jn 58 (R.map hx)) (nc_jn M [58] rfl (fun _ => by simp))
  unfold Lib.cut
  rw [this, if_pos (by omega), Int.toNat_natCast]
  have e1 : (jn 58 (M.map hx) ++ 58 :: 58 :: jn 58 (R.map hx)).take (jn 58 (M.map hx)).length = jn 58 (M.map hx) := List.take_left' rfl
  have e2 : (jn 58 (M.map hx) ++ 58 :: 58 :: jn 58 (R.map hx)).drop ((jn 58 (M.map hx)).length + ([58, 58] : List UInt8).length) = jn 58 (R.map hx) := by
    rw [← List.drop_drop, List.drop_left' rfl]
    rfl
  rw [e1, e2]
def appW (o x : List UInt8) : List UInt8 := if o ≠ [] ∧ Lib.hasSuffix o [58] = false then o ++ 58 :: x else o ++ x
theorem suf_word (o x : List UInt8) (hx : x ≠ []) (h : ∀ y ∈ x, y ≠ 58) : Lib.hasSuffix (o ++ x) [58] = false := by
  have hne : o ++ x ≠ [] := fun e => hx (List.append_eq_nil_iff.1 e).2
  rw [suf_last _ hne, beq_eq_false_iff_ne]
  have hpos := List.length_pos_iff.2 hx
  have : (o ++ x)[(o ++ x).length - 1]'(by have := List.length_pos_iff.2 hne; omega) = x[x.length - 1] := by
    rw [List.getElem_append_right (by rw [List.length_append]; omega)]
    congr 1
    rw [List.length_append]
    omega
  rw [this]
  exact h _ (List.getElem_mem _)
theorem appW_fold : ∀ (t : List (List UInt8)) (o : List UInt8), (∀ z ∈ t, z ≠ [] ∧ ∀ y ∈ z, y ≠ 58) → o ≠ [] → Lib.hasSuffix o [58] = false → t.foldl appW o = o ++ (t.map ((58 : UInt8) :: ·)).flatten
  | [], o, _, _, _ => by simp
  | x :: t, o, h, ho, hs => by
    have hw := h x (by simp)
    rw [List.foldl_cons, appW, if_pos ⟨ho, hs⟩, appW_fold t (o ++ 58 :: x) (fun z hz => h z (by simp [hz])) (by simp) (by
      have := suf_word (o ++ [58]) x hw.1 hw.2
      rw [List.append_assoc] at this
      exact this), List.map_cons, List.flatten_cons, List.append_assoc]
theorem appW_jn (t : List (List UInt8)) (o : List UInt8) (h : ∀ z ∈ t, z ≠ [] ∧ ∀ y ∈ z, y ≠ 58) (ho : o = [] ∨ Lib.hasSuffix o [58] = true) : t.foldl appW o = o ++ jn 58 t := by
  cases t with
  | nil => simp [jn]
  | cons x t =>
    have hw := h x (by simp)
    have hn : ¬ (o ≠ [] ∧ Lib.hasSuffix o [58] = false) := by
      rintro ⟨h1, h2⟩
      rcases ho with h3 | h3
      · exact h1 h3
      · rw [h2] at h3; cases h3
    rw [List.foldl_cons, appW, if_neg hn, appW_fold t (o ++ x) (fun z hz => h z (by simp [hz])) (fun e => hw.1 (List.append_eq_nil_iff.1 e).2) (suf_word o x hw.1 hw.2), jn, List.append_assoc]
theorem fmtT_step (l : List Int) (p q d i : Nat) (o : ByteArray) (hi : i < 8) (hc : ¬ (i = p ∧ 1 < q - p)) : ∃ o', fmtT l p q (d + 1) i o = fmtT l p q d (i + 1) o' ∧ o'.data.toList = appW o.data.toList (hx (l.getD i 0).toNat) := by
  rw [fmtT, if_pos hi, if_neg hc]
  refine ⟨_, rfl, ?_⟩
  unfold appW
  by_cases h : o.data.toList ≠ [] ∧ Lib.hasSuffix o.data.toList [58] = false
  · rw [if_pos h, if_pos (show o.toList ≠ [] ∧ _ from ⟨fun e => h.1 ((toList_nil o).1 e), h.2⟩)]
    rw [ByteArray.data_append, ByteArray.data_append]
    simp [hx]
  · rw [if_neg h, if_neg (show ¬ (o.toList ≠ [] ∧ _) from fun e => h ⟨fun e2 => e.1 ((toList_nil o).2 e2), e.2⟩)]
    rw [ByteArray.data_append]
    simp [hx]
def words (l : List Int) (i n : Nat) : List (List UInt8) := ((List.range n).map (fun j => (l.getD (i + j) 0).toNat)).map hx
theorem words_succ (l : List Int) (i n : Nat) : words l i (n + 1) = hx (l.getD i 0).toNat :: words l (i + 1) n := by
  unfold words
  rw [List.range_succ_eq_map, List.map_cons, List.map_map, List.map_cons, Nat.add_zero]
  congr 2
  apply List.map_congr_left
  intro j _
  show (l.getD (i + (j + 1)) 0).toNat = _
  rw [show i + (j + 1) = i + 1 + j from by omega]
theorem fmtT_run (l : List Int) (p q : Nat) : ∀ (n d i : Nat) (o : ByteArray), i + n ≤ 8 → (∀ j, i ≤ j → j < i + n → ¬ (j = p ∧ 1 < q - p)) → ∃ o', fmtT l p q (d + n) i o = fmtT l p q d (i + n) o' ∧ o'.data.toList = (words l i n).foldl appW o.data.toList
  | 0, d, i, o, _, _ => ⟨o, rfl, rfl⟩
  | n + 1, d, i, o, hi, hc => by
    obtain ⟨o1, e1, e2⟩ := fmtT_step l p q (d + n) i o (by omega) (hc i (by omega) (by omega))
    obtain ⟨o2, e3, e4⟩ := fmtT_run l p q n d (i + 1) o1 (by omega) (fun j h1 h2 => hc j (by omega) (by omega))
    refine ⟨o2, ?_, ?_⟩
    · rw [show d + (n + 1) = d + n + 1 from rfl, e1, e3, show i + 1 + n = i + (n + 1) from by omega]
    · rw [e4, e2, words_succ, List.foldl_cons]
theorem fmtT_end (l : List Int) (p q d : Nat) (o : ByteArray) : fmtT l p q d 8 o = o := by
  cases d with
  | zero => rfl
  | succ d => rw [fmtT, if_neg (by omega)]
theorem words_w (l : List Int) (i n : Nat) : ∀ z ∈ words l i n, z ≠ [] ∧ ∀ y ∈ z, y ≠ 58 := hx_w _
theorem fmtT_flat (l : List Int) (p q : Nat) (h : ¬ 1 < q - p) : (fmtT l p q 8 0 ⟨#[]⟩).data.toList = jn 58 (words l 0 8) := by
  obtain ⟨o, e1, e2⟩ := fmtT_run l p q 8 0 0 ⟨#[]⟩ (by omega) (fun j _ _ hj => h hj.2)
  rw [show 0 + 8 = 8 from rfl] at e1
  rw [e1, fmtT_end, e2, appW_jn _ _ (words_w l 0 8) (.inl rfl)]
  rfl
theorem fmtT_gap (l : List Int) (p q : Nat) (h : 1 < q - p) (hq : q ≤ 8) : (fmtT l p q 8 0 ⟨#[]⟩).data.toList = jn 58 (words l 0 p) ++ 58 :: 58 :: jn 58 (words l q (8 - q)) := by
  obtain ⟨o, e1, e2⟩ := fmtT_run l p q p (8 - p) 0 ⟨#[]⟩ (by omega) (fun j _ h2 hj => by omega)
  rw [show 8 - p + p = 8 from by omega, Nat.zero_add] at e1
  rw [appW_jn _ _ (words_w l 0 p) (.inl rfl)] at e2
  have e3 : fmtT l p q (8 - p) p o = fmtT l p q (7 - p) q (o ++ ⟨#[58, 58]⟩) := by
    rw [show 8 - p = (7 - p) + 1 from by omega, fmtT, if_pos (by omega), if_pos ⟨rfl, h⟩]
  obtain ⟨o2, e4, e5⟩ := fmtT_run l p q (8 - q) (7 - p - (8 - q)) q (o ++ ⟨#[58, 58]⟩) (by omega) (fun j h1 h2 hj => by omega)
  rw [show 7 - p - (8 - q) + (8 - q) = 7 - p from by omega, show q + (8 - q) = 8 from by omega] at e4
  rw [e1, e3, e4, fmtT_end, e5]
  have hd : (o ++ ⟨#[58, 58]⟩ : ByteArray).data.toList = o.data.toList ++ [58, 58] := by
    rw [ByteArray.data_append]
    simp
  have hs : Lib.hasSuffix (o.data.toList ++ [58, 58]) [58] = true := by
    rw [suf_last _ (by simp)]
    simp
  rw [hd, appW_jn _ _ (words_w l q (8 - q)) (.inr hs), e2]
  simp
theorem zEnd_zero (l : List Int) : ∀ (d k j : Nat), k ≤ j → j < zEnd l d k → l.getD j 0 = 0
  | 0, k, j, h1, h2 => by rw [zEnd] at h2; omega
  | d + 1, k, j, h1, h2 => by
    rw [zEnd] at h2
    split at h2
    · rename_i hz
      by_cases e : j = k
      · rw [e]; exact hz
      · exact zEnd_zero l d (k + 1) j (by omega) h2
    · omega
theorem runF_zero (l : List Int) : ∀ (d i a b : Nat), (∀ j, a ≤ j → j < b → l.getD j 0 = 0) → ∀ j, (runF l d i (a, b)).1 ≤ j → j < (runF l d i (a, b)).2 → l.getD j 0 = 0
  | 0, i, a, b, h => h
  | d + 1, i, a, b, h => by
    rw [runF]
    split
    · exact runF_zero l d (i + 1) _ _ (fun j h1 h2 => zEnd_zero l (8 - i) i j h1 h2)
    · exact runF_zero l d (i + 1) a b h
end Go.Proofs.YtlgfinnldhjgeaaDoor.Q
end

section
set_option linter.unusedVariables false
set_option linter.unusedSimpArgs false
namespace Go.Proofs.YtlgfinnldhjgeaaDoor.Q
open Go.RowKit Go.Proofs.YtlgfinnldhjgeaaDoorW.PrintWords Go.Proofs.YtlgfinnldhjgeaaDoorW.PrintLast Go.Proofs.YtlgfinnldhjgeaaDoorW.PrintMore
theorem spl_none (c : UInt8) (l : List UInt8) (h : ∀ y ∈ l, y ≠ c) : spl c [] l = [l] := by
  have := spl_skip c l [] [] h
  rw [List.append_nil] at this
  rw [this, List.nil_append]
  rfl
theorem jn_mem (M : List Nat) (y : UInt8) (h : y ∈ jn 58 (M.map hx)) : y ≠ 46 ∧ y ≠ 47 := by
  have key : ∀ z ∈ (M.map hx).map ((58 : UInt8) :: ·), ∀ y ∈ z, y ≠ 46 ∧ y ≠ 47 := fun z hz y hy => by
    obtain ⟨w, hw, rfl⟩ := List.mem_map.1 hz
    obtain ⟨n, _, rfl⟩ := List.mem_map.1 hw
    rcases List.mem_cons.1 hy with rfl | hy
    · decide
    · exact (hx_no n y hy).2
  cases M with
  | nil => cases h
  | cons n t =>
    rw [List.map_cons, jn] at h
    rcases List.mem_append.1 h with h | h
    · exact (hx_no n y h).2
    · obtain ⟨z, hz, hy⟩ := List.mem_flatten.1 h
      exact key z (by rw [List.map_cons, List.map_cons]; exact List.mem_cons_of_mem _ hz) y hy
def gN (hi lo : Int) : List Nat := (grpL hi lo).map Int.toNat
theorem gN_len (hi lo : Int) : (gN hi lo).length = 8 := rfl
theorem gN_b (hi lo : Int) : ∀ x ∈ gN hi lo, x < 65536 := fun x hx => by
  obtain ⟨z, hz, rfl⟩ := List.mem_map.1 hx
  unfold grpL at hz
  simp only [List.mem_cons, List.not_mem_nil, or_false] at hz
  have key : ∀ w, (Go.bits .and .u64 w 65535).toNat < 65536 := fun w => by
    have := and65535 w
    omega
  rcases hz with rfl | rfl | rfl | rfl | rfl | rfl | rfl | rfl
  all_goals exact key _
theorem words_eq (l : List Int) (i n : Nat) (h : i + n ≤ l.length) : words l i n = (((l.map Int.toNat).drop i).take n).map hx := by
  unfold words
  congr 1
  apply List.ext_getElem
  · rw [List.length_map, List.length_range, List.length_take, List.length_drop, List.length_map]
    omega
  · intro j h1 h2
    rw [List.length_map, List.length_range] at h1
    rw [List.getElem_map, List.getElem_range, List.getElem_take, List.getElem_drop, List.getElem_map, List.getD_eq_getElem?_getD, List.getElem?_eq_getElem (show i + j < l.length by omega)]
    rfl
theorem pad_back (G : List Nat) (p q : Nat) (hG : G.length = 8) (hpq : p ≤ q) (hq : q ≤ 8) (h0 : ∀ j (h : j < G.length), p ≤ j → j < q → G[j] = 0) : padN (G.take p) (G.drop q) = G := by
  unfold padN
  rw [List.length_take, List.length_drop]
  apply List.ext_getElem
  · simp
    omega
  · intro j h1 h2
    by_cases c1 : j < p
    · rw [List.getElem_append_left (by simp; omega), List.getElem_append_left (by simp; omega), List.getElem_take]
    · by_cases c2 : j < q
      · rw [List.getElem_append_left (by simp; omega), List.getElem_append_right (by simp; omega), List.getElem_replicate]
        exact (h0 j (by omega) (by omega) c2).symm
      · rw [List.getElem_append_right (by simp; omega), List.getElem_drop]
        congr 1
        simp
        omega
theorem p6_back (hi lo : Int) : p6 (fmt6 hi lo).data.toList = some (gN hi lo) ∧ (∀ y ∈ (fmt6 hi lo).data.toList, y ≠ 46 ∧ y ≠ 47) := by
  have ho := runF_ok (grpL hi lo)
  have hz := runF_zero (grpL hi lo) 8 0 0 0 (fun j h1 h2 => by omega)
  unfold fmt6
  obtain ⟨pq, hpq⟩ : ∃ pq, runF (grpL hi lo) 8 0 (0, 0) = pq := ⟨_, rfl⟩
  rw [hpq] at ho hz ⊢
  obtain ⟨p, q⟩ := pq
  dsimp only at ho hz ⊢
  by_cases h : 1 < q - p
  · rw [fmtT_gap _ p q h ho.2, words_eq _ 0 p (by rw [grpL_len]; omega), words_eq _ q (8 - q) (by rw [grpL_len]; omega)]
    rw [show ((grpL hi lo).map Int.toNat) = gN hi lo from rfl, List.drop_zero, show ((gN hi lo).drop q).take (8 - q) = (gN hi lo).drop q from List.take_of_length_le (by rw [List.length_drop, gN_len]; omega)]
    have b1 : ∀ n ∈ (gN hi lo).take p, n < 65536 := fun n hn => gN_b hi lo n (List.mem_of_mem_take hn)
    have b2 : ∀ n ∈ (gN hi lo).drop q, n < 65536 := fun n hn => gN_b hi lo n (List.mem_of_mem_drop hn)
    constructor
    · unfold p6
      rw [cut_gap]
      dsimp only
      rw [if_pos rfl, grps_jn _ b1, grps_jn _ b2]
      dsimp only
      rw [if_pos (by rw [List.length_take, List.length_drop, gN_len]; omega), pad_back (gN hi lo) p q (gN_len hi lo) ho.1 ho.2 (fun j hj h1 h2 => ?_)]
      have := hz j h1 h2
      have hg : (gN hi lo)[j] = ((grpL hi lo)[j]'(by rw [gN_len] at hj; rw [grpL_len]; exact hj)).toNat := by simp only [gN, List.getElem_map]
      rw [hg]
      rw [List.getD_eq_getElem?_getD, List.getElem?_eq_getElem (by rw [gN_len] at hj; rw [grpL_len]; exact hj)] at this
      rw [Option.getD_some] at this
      rw [this]
      rfl
    · intro y hy
      rcases List.mem_append.1 hy with hy | hy
      · exact jn_mem _ y hy
      · rcases List.mem_cons.1 hy with rfl | hy
        · decide
        · rcases List.mem_cons.1 hy with rfl | hy
          · decide
          · exact jn_mem _ y hy
  · rw [fmtT_flat _ p q h, words_eq _ 0 8 (by rw [grpL_len]; omega)]
    rw [show ((grpL hi lo).map Int.toNat) = gN hi lo from rfl, List.drop_zero, show (gN hi lo).take 8 = gN hi lo from List.take_of_length_le (by rw [gN_len]; omega)]
    constructor
    · unfold p6
      rw [cut_none]
      dsimp only
      rw [if_neg Bool.false_ne_true, grps_jn _ (gN_b hi lo)]
      dsimp only
      rw [if_pos (gN_len hi lo)]
    · exact fun y hy => jn_mem _ y hy
theorem and16 (x : Nat) (h : x < 18446744073709551616) : Go.bits .and .u64 (x : Int) 65535 = ((x % 65536 : Nat) : Int) := bits_and x 16 h (by omega)
theorem foldN4 (a b c d : Nat) : foldN [a, b, c, d] = ((a * 65536 + b) * 65536 + c) * 65536 + d := by
  unfold foldN
  simp [List.foldl]
theorem gN_fold {hi lo : Int} (h1 : 0 ≤ hi) (h2 : hi < 18446744073709551616) (h3 : 0 ≤ lo) (h4 : lo < 18446744073709551616) : ((foldN ((gN hi lo).take 4) : Nat) : Int) = hi ∧ ((foldN ((gN hi lo).drop 4) : Nat) : Int) = lo := by
  have part : ∀ x : Int, 0 ≤ x → x < 18446744073709551616 → ((foldN [(Go.bits .and .u64 (x / 281474976710656) 65535).toNat, (Go.bits .and .u64 (x / 4294967296) 65535).toNat, (Go.bits .and .u64 (x / 65536) 65535).toNat, (Go.bits .and .u64 x 65535).toNat] : Nat) : Int) = x := fun x g1 g2 => by
    obtain ⟨n, rfl⟩ : ∃ n : Nat, x = (n : Int) := ⟨x.toNat, by omega⟩
    have e1 := and16 (n / 281474976710656) (by omega)
    have e2 := and16 (n / 4294967296) (by omega)
    have e3 := and16 (n / 65536) (by omega)
    have e4 := and16 n (by omega)
    rw [show ((n / 281474976710656 : Nat) : Int) = (n : Int) / 281474976710656 from rfl] at e1
    rw [show ((n / 4294967296 : Nat) : Int) = (n : Int) / 4294967296 from rfl] at e2
    rw [show ((n / 65536 : Nat) : Int) = (n : Int) / 65536 from rfl] at e3
    rw [e1, e2, e3, e4, foldN4]
    simp only [Int.toNat_natCast]
    omega
  exact ⟨part hi h1 h2, part lo h3 h4⟩
theorem dec_tab : ((List.range 256).all fun n => decL (Lib.itoa (n : Int)) == some n && (Lib.itoa (n : Int)).all (fun c => !(c == 46) && !(c == 47))) = true := by kernel_rfl
theorem dec_back {n : Nat} (h : n < 256) : decL (Lib.itoa (n : Int)) = some n ∧ ∀ y ∈ Lib.itoa (n : Int), y ≠ 46 ∧ y ≠ 47 := by
  have := List.all_eq_true.1 dec_tab n (List.mem_range.2 h)
  rw [Bool.and_eq_true, beq_iff_eq, List.all_eq_true] at this
  refine ⟨this.1, fun y hy => ?_⟩
  have := this.2 y hy
  simp only [Bool.and_eq_true, Bool.not_eq_true', beq_eq_false_iff_ne] at this
  exact this
theorem and8 (x : Nat) (h : x < 18446744073709551616) : Go.bits .and .u64 (x : Int) 255 = ((x % 256 : Nat) : Int) := bits_and x 8 h (by omega)
theorem up_back {n : Nat} (h : n < 256) : upTo (Lib.itoa (n : Int)) 255 = some n := by
  unfold upTo
  rw [(dec_back h).1]
  exact if_pos (by omega)
theorem p4_back {x : Nat} (hx : x < 4294967296) : p4 (txt4 (x : Int)).data.toList = some x ∧ ∀ y ∈ (txt4 (x : Int)).data.toList, y ≠ 47 := by
  have e1 := and8 (x / 16777216) (by omega)
  have e2 := and8 (x / 65536) (by omega)
  have e3 := and8 (x / 256) (by omega)
  have e4 := and8 x (by omega)
  rw [show ((x / 16777216 : Nat) : Int) = (x : Int) / 16777216 from rfl] at e1
  rw [show ((x / 65536 : Nat) : Int) = (x : Int) / 65536 from rfl] at e2
  rw [show ((x / 256 : Nat) : Int) = (x : Int) / 256 from rfl] at e3
  have b1 := dec_back (n := x / 16777216 % 256) (by omega)
  have b2 := dec_back (n := x / 65536 % 256) (by omega)
  have b3 := dec_back (n := x / 256 % 256) (by omega)
  have b4 := dec_back (n := x % 256) (by omega)
  have u1 := up_back (n := x / 16777216 % 256) (by omega)
  have u2 := up_back (n := x / 65536 % 256) (by omega)
  have u3 := up_back (n := x / 256 % 256) (by omega)
  have u4 := up_back (n := x % 256) (by omega)
  have ht : (txt4 (x : Int)).data.toList = jn 46 [Lib.itoa ((x / 16777216 % 256 : Nat) : Int), Lib.itoa ((x / 65536 % 256 : Nat) : Int), Lib.itoa ((x / 256 % 256 : Nat) : Int), Lib.itoa ((x % 256 : Nat) : Int)] := by
    unfold txt4 fmt4
    rw [e1, e2, e3, e4]
    simp only [ByteArray.data_append, Array.toList_append, jn, decB, dotB]
    simp
  have hno : ∀ z ∈ [Lib.itoa ((x / 16777216 % 256 : Nat) : Int), Lib.itoa ((x / 65536 % 256 : Nat) : Int), Lib.itoa ((x / 256 % 256 : Nat) : Int), Lib.itoa ((x % 256 : Nat) : Int)], ∀ y ∈ z, y ≠ 46 ∧ y ≠ 47 := by
    intro z hz
    simp only [List.mem_cons, List.not_mem_nil, or_false] at hz
    rcases hz with rfl | rfl | rfl | rfl
    · exact b1.2
    · exact b2.2
    · exact b3.2
    · exact b4.2
  generalize Lib.itoa ((x / 16777216 % 256 : Nat) : Int) = w1 at *
  generalize Lib.itoa ((x / 65536 % 256 : Nat) : Int) = w2 at *
  generalize Lib.itoa ((x / 256 % 256 : Nat) : Int) = w3 at *
  generalize Lib.itoa ((x % 256 : Nat) : Int) = w4 at *
  rw [ht]
  constructor
  · unfold p4
    rw [spl_join 46 w1 [w2, w3, w4] (fun z hz y hy => (hno z hz y hy).1), if_pos (show [w1, w2, w3, w4].length = 4 from rfl)]
    simp only [foldO, u1, u2, u3, u4]
    congr 1
    omega
  · intro y hy
    have m1 := hno w1 (by simp)
    have m2 := hno w2 (by simp)
    have m3 := hno w3 (by simp)
    have m4 := hno w4 (by simp)
    simp only [jn, List.map_cons, List.map_nil, List.flatten_cons, List.flatten_nil, List.mem_append, List.mem_cons, List.not_mem_nil, or_false, List.append_nil] at hy
    rcases hy with hy | (rfl | hy) | (rfl | hy) | (rfl | hy)
    · exact (m1 y hy).2
    · decide
    · exact (m2 y hy).2
    · decide
    · exact (m3 y hy).2
    · decide
    · exact (m4 y hy).2
theorem fmtT_size5 (l : List Int) (p q : Nat) : ∀ (d i : Nat) (o : ByteArray), (fmtT l p q d i o).size ≤ o.size + 5 * d
  | 0, i, o => by unfold fmtT; omega
  | d + 1, i, o => by
    have hx := hexL_size 4 (l.getD i 0).toNat
    unfold fmtT
    split
    · split
      · have := fmtT_size5 l p q d q (o ++ ⟨#[58, 58]⟩)
        rw [ByteArray.size_append, show (⟨#[58, 58]⟩ : ByteArray).size = 2 from rfl] at this
        omega
      · split
        · have := fmtT_size5 l p q d (i + 1) (o ++ ⟨#[58]⟩ ++ ⟨(hexL 4 (l.getD i 0).toNat).toArray⟩)
          rw [ByteArray.size_append, ByteArray.size_append, show (⟨#[58]⟩ : ByteArray).size = 1 from rfl] at this
          omega
        · have := fmtT_size5 l p q d (i + 1) (o ++ ⟨(hexL 4 (l.getD i 0).toNat).toArray⟩)
          rw [ByteArray.size_append] at this
          omega
    · omega
theorem txtA_40 (a : Ad) : (txtA a).size ≤ 40 := by
  unfold txtA
  split
  · exact fmtT_size5 (grpL a.f1 a.f2) (runF (grpL a.f1 a.f2) 8 0 (0, 0)).1 (runF (grpL a.f1 a.f2) 8 0 (0, 0)).2 8 0 ⟨#[]⟩
  · have := fmt4_size _ _ _ _ (num_ev (and255 (a.f2 / 16777216)).1 (and255 _).2).2 (num_ev (and255 (a.f2 / 65536)).1 (and255 _).2).2 (num_ev (and255 (a.f2 / 256)).1 (and255 _).2).2 (num_ev (and255 a.f2).1 (and255 _).2).2
    unfold txt4
    omega
theorem parse_back {a : Ad} (h : AF a) : parsePV (txtA a).data.toList = (a.f0, a.f1, a.f2, 0) ∧ ∀ y ∈ (txtA a).data.toList, y ≠ 47 := by
  have hs := txtA_40 a
  rw [size_list] at hs
  have hp : parsePV (txtA a).data.toList = (match p4 (txtA a).data.toList with
    | some v => (false, 0, (v : Int), 0)
    | none => match p6 (txtA a).data.toList with
      | some M => (true, ((foldN (M.take 4) : Nat) : Int), ((foldN (M.drop 4) : Nat) : Int), 0)
      | none => (false, 0, 0, 2)) := by
    unfold parsePV
    exact if_neg (by omega)
  rw [hp]
  obtain ⟨⟨h1, h2, h3, h4⟩, h5⟩ := h
  obtain ⟨a0, a1, a2⟩ := a
  simp only at h1 h2 h3 h4 h5
  unfold txtA
  cases a0
  · simp only [Bool.false_eq_true, false_or] at h5
    obtain ⟨rfl, h6⟩ := h5
    obtain ⟨x, rfl⟩ : ∃ x : Nat, a2 = (x : Int) := ⟨a2.toNat, by omega⟩
    have := p4_back (x := x) (by omega)
    simp only [Bool.false_eq_true, if_false]
    rw [this.1]
    exact ⟨rfl, this.2⟩
  · simp only [if_true]
    have hb := p6_back a1 a2
    have hf := gN_fold h1 h2 h3 h4
    have h46 : p4 (fmt6 a1 a2).data.toList = none := by
      unfold p4
      rw [spl_none 46 _ (fun y hy => (hb.2 y hy).1)]
      exact if_neg (show ¬ (1 = 4) from by decide)
    rw [h46, hb.1]
    dsimp only
    rw [hf.1, hf.2]
    exact ⟨rfl, fun y hy => (hb.2 y hy).2⟩
theorem cut_slash (T D : List UInt8) (h : ∀ y ∈ T, y ≠ 47) : Lib.cut (T ++ 47 :: D) [47] = (T, D, true) := by
  have hi : Lib.index (T ++ 47 :: D) [47] = (T.length : Int) := by
    refine Lib.index_first (by rw [List.length_append]; omega) ?_ (fun j hj => ?_)
    · unfold Lib.occAt
      rw [List.drop_left' rfl]
      rfl
    · unfold Lib.occAt
      have hl : j < (T ++ 47 :: D).length := by rw [List.length_append]; omega
      rw [List.drop_eq_getElem_cons hl, List.getElem_append_left hj]
      simp only [List.isPrefixOf]
      rw [beq_eq_false_iff_ne.2 (Ne.symm (h _ (List.getElem_mem hj)))]
      rfl
  unfold Lib.cut
  rw [hi, if_pos (by omega), Int.toNat_natCast]
  have e1 : (T ++ 47 :: D).take T.length = T := List.take_left' rfl
  have e2 : (T ++ 47 :: D).drop (T.length + ([47] : List UInt8).length) = D := by
    rw [← List.drop_drop, List.drop_left' rfl]
    rfl
  rw [e1, e2]
theorem pp_back {a : Ad} (h : AF a) {b : Int} (h0 : 0 ≤ b) (h1 : b ≤ szA a.f0) (hs : subA a (restN a b) false = a) : parsePP (txtP a b).data.toList = (a.f0, a.f1, a.f2, b, 0) := by
  have h128 := szA_le a.f0
  obtain ⟨n, rfl⟩ : ∃ n : Nat, b = (n : Int) := ⟨b.toNat, by omega⟩
  have hz := txtA_40 a
  have hpb := parse_back h
  have hdec := dec_back (n := n) (by omega)
  have hsz := (num_ev (n := (n : Int)) (by omega) (by omega)).2
  have ht : (txtP a (n : Int)).data.toList = (txtA a).data.toList ++ 47 :: Lib.itoa (n : Int) := by
    unfold txtP decB
    rw [ByteArray.data_append, ByteArray.data_append]
    simp
  have hlen : (txtP a (n : Int)).data.toList.length ≤ 64 := by
    rw [← size_list]
    unfold txtP
    rw [ByteArray.size_append, ByteArray.size_append, show (⟨#[47]⟩ : ByteArray).size = 1 from rfl]
    omega
  have hcut := cut_slash (txtA a).data.toList (Lib.itoa (n : Int)) hpb.2
  have hA : parseA (txtA a).data.toList = a := by
    unfold parseA
    rw [hpb.1]
  have hv : vpB a (n : Int) = true := by
    unfold vpB
    rw [(fine_iff h.1).2 h, decide_eq_true (show (0 : Int) ≤ (n : Int) ∧ (n : Int) ≤ szA a.f0 from ⟨h0, h1⟩), decide_eq_true hs]
    rfl
  unfold parsePP
  rw [if_neg (by omega), ht, hcut]
  dsimp only
  rw [hpb.1, if_pos rfl, if_pos rfl, hdec.1, hA]
  dsimp only
  rw [if_neg (by omega)]
  unfold vpR
  rw [hv]
  rfl
theorem from_back {a : Ad} (h : AF a) : fromB (strOfNums (bytesA a)).data.toList = (a.f0, a.f1, a.f2, 0) := by
  have hl : (strOfNums (bytesA a)).data.toList = (bytesA a).map (fun z => UInt8.ofNat z.toNat) := rfl
  obtain ⟨⟨h1, h2, h3, h4⟩, h5⟩ := h
  obtain ⟨a0, a1, a2⟩ := a
  simp only at h1 h2 h3 h4 h5
  rw [hl]
  unfold bytesA fromB
  cases a0
  · simp only [Bool.false_eq_true, false_or] at h5
    simp only [Bool.false_eq_true, if_false]
    rw [if_pos (by rw [List.length_map, bytesN_len]), bvN_bytes 4 a2.toNat (by rw [show (256 : Nat) ^ 4 = 4294967296 from by decide]; omega)]
    rw [h5.1, show ((a2.toNat : Nat) : Int) = a2 from by omega]
  · simp only [if_true]
    have e1 : ((bytesN a1.toNat 8 ++ bytesN a2.toNat 8).map (fun z => UInt8.ofNat z.toNat)).length = 16 := by rw [List.length_map, List.length_append, bytesN_len, bytesN_len]
    rw [if_neg (by rw [e1]; decide), if_pos e1, List.map_append]
    have e2 : ((bytesN a1.toNat 8).map (fun z => UInt8.ofNat z.toNat)).length = 8 := by rw [List.length_map, bytesN_len]
    rw [List.take_left' e2, List.drop_left' e2, bvN_bytes 8 a1.toNat (by rw [show (256 : Nat) ^ 8 = 18446744073709551616 from by decide]; omega), bvN_bytes 8 a2.toNat (by rw [show (256 : Nat) ^ 8 = 18446744073709551616 from by decide]; omega)]
    rw [show ((a1.toNat : Nat) : Int) = a1 from by omega, show ((a2.toNat : Nat) : Int) = a2 from by omega]
end Go.Proofs.YtlgfinnldhjgeaaDoor.Q
end

section
set_option linter.unusedVariables false
set_option linter.unusedSimpArgs false
namespace Go.Proofs.YtlgfinnldhjgeaaDoor.Pure
open Go.RowKit Go.Proofs.YtlgfinnldhjgeaaDoor.Q Go.Proofs.YtlgfinnldhjgeaaDoorW.PrintWords Go.Proofs.YtlgfinnldhjgeaaDoorW.PrintLast
theorem round_j0 {a : Ad} (ha : AF a) (b : Int) : Ev (fun k => intrusionlaw06_AddressRoundTrip.j0 (k + 1) b false a.f0 a.f1 a.f2) true := by
  by_cases hc : 0 ≤ b ∧ b ≤ szA a.f0
  · obtain ⟨h0, h1⟩ := hc
    have h128 := szA_le a.f0
    have hk : restN a b ≤ szA a.f0 := by unfold restN; omega
    have hp : AF (subA a (restN a b) false) := subA_af ha hk false
    obtain ⟨p, hpe⟩ : ∃ p, subA a (restN a b) false = p := ⟨_, rfl⟩
    have hpf : a.f0 = p.f0 := by rw [← hpe]; rfl
    have hr : restN p b = restN a b := by unfold restN; rw [hpf]
    have hpp : subA p (restN p b) false = p := by rw [hr, ← hpe, subA_idem]
    rw [hpe] at hp
    have h1p : b ≤ szA p.f0 := by rw [← hpf]; exact h1
    obtain ⟨K, e⟩ := apprefix_ev (txtP p b)
    rw [pp_back hp h0 h1p hpp] at e
    have hv : vpB p b = true := by
      unfold vpB
      rw [(fine_iff hp.1).2 hp, decide_eq_true (show (0 : Int) ≤ b ∧ b ≤ szA p.f0 from ⟨h0, h1p⟩), decide_eq_true hpp]
      rfl
    have c1 := con_eq hp.1 ha.1 hpf.symm h0 h1p
    rw [hr, hpe] at c1
    rw [hr] at hpp
    rw [hpp, decide_eq_true rfl] at c1
    refine ⟨K, fun k hk => ?_⟩
    have f := e k (by omega)
    dsimp only at f ⊢
    rw [intrusionlaw06_AddressRoundTrip.j0, if_neg Bool.false_ne_true, mkp_eq ha.1 h0 h1, Option.bind_some]
    dsimp only
    rw [if_pos rfl, hpe, hpf, fp_eq p h0 (by omega), Option.bind_some, f, Option.bind_some, vp_eq hp.1, hv, Option.bind_some, if_pos rfl]
    dsimp only
    rw [if_pos (by simp), if_pos rfl]
    rw [← hpf] at c1 ⊢
    rw [c1]
    rfl
  · refine ⟨0, fun k hk => ?_⟩
    dsimp only
    rw [intrusionlaw06_AddressRoundTrip.j0, if_neg Bool.false_ne_true, mkp_out hc, Option.bind_some]
    dsimp only
    rw [if_neg (by decide), if_pos rfl]
    rfl
theorem AddressRoundTrip : ∀ (x0 : Ad) (a1 : Int), q25 x0 → (Lit.int .i64 a1).wf = true → ∃ k, intrusionlaw06_AddressRoundTrip.f k x0.f0 x0.f1 x0.f2 a1 = some true := by
  intro a b hq _
  have aw : AW a := aw_of hq
  unfold intrusionlaw06_AddressRoundTrip.f
  rw [fine_eq a]
  cases hf : fineB a
  · exact ⟨0, rfl⟩
  · have ha := (fine_iff aw).1 hf
    obtain ⟨K1, e1⟩ := aparse_ev (txtA a)
    rw [(parse_back ha).1] at e1
    obtain ⟨K2, e2⟩ := aBytes_ev aw
    obtain ⟨K3, e3⟩ := aFrom_ev (strOfNums (bytesA a))
    rw [from_back ha] at e3
    obtain ⟨K4, e4⟩ := round_j0 ha b
    refine ⟨K1 + K2 + K3 + K4 + 1, ?_⟩
    have f1 := e1 (K1 + K2 + K3 + K4 + 1) (by omega)
    have f2 := e2 (K1 + K2 + K3 + K4 + 1) (by omega)
    have f3 := e3 (K1 + K2 + K3 + K4 + 1) (by omega)
    have f4 := e4 (K1 + K2 + K3 + K4) (by omega)
    dsimp only at f1 f2 f3 f4
    have hl : intrusionlaw06_lives.f = some true := rfl
    rw [hl, Option.bind_some, if_pos rfl, Option.bind_some, if_pos rfl, fmt_eq, Option.bind_some, f1, Option.bind_some, f2, Option.bind_some, f3, Option.bind_some]
    dsimp only
    rw [if_neg (by simp), if_pos rfl, if_neg (by simp), bne_self_eq_false]
    exact f4
end Go.Proofs.YtlgfinnldhjgeaaDoor.Pure
end

section
set_option linter.unusedVariables false
namespace Go.Proofs.YtlgfinnldhjgeaaDoor.Q
open Go.RowKit
theorem returns_laid {H : Type} {enc : TypeId × Value → H} {a : Assume} {C : Checked} {os : Os} {f : FuncId} {fn : Func} {s : ChangeSpec} {conds : List PathCond} {apart fresh handsOn again : Bool} {X : World → Array Value → Prop}
    (hX : ∀ (w w' : World) (args : Array Value), w.heap = w'.heap → X w args → X w' args)
    (own : ownKnob C.prog.godebug = none) (started : os.Started) (noInit : C.prog.inits.idxOf? f = none) (hfn : C.prog.funcs[f]? = some fn)
    (witness : ∃ (w : World) (tape : Tape) (i : Input), w.os = os ∧ (w.forCall tape i).Shaped C.prog ∧ i.vars = [] ∧ Input.okWide C.prog (w.forCall tape i) .any w.heap.size f i ∧
      ((s.pre enc C.prog fn conds apart (w.forCall tape i).memory i.args ∧ X (w.forCall tape i).memory i.args) ∧ sizedMet enc C.prog fn (OpenSpec.ofChange s) apart (w.forCall tape i).memory i.args) ∧ a.holds C.prog (lone (Frame.enter C.prog f i.args .normal) [] (w.forCall tape i)))
    (contract : ∀ (W : World) (base : Nat) (args : Array Value) (ds gs : List (DataW H)) (before : List MemPlace),
      (∀ (j : Nat) t v, fn.params[j]? = some t → args[j]? = some v → Value.okWide C.prog W .any base t v) →
      DataW.Whole enc C.prog fn.params.toList s.vars apart W args.toList ds gs before →
      conds.all (PathCond.test C.prog ⟨fn.params.toList, ds, s.plain.varTypes C.prog, gs⟩) = true →
      (DataW.weightsEach C.prog (fn.params.toList ++ s.plain.varTypes C.prog) (ds ++ gs)).all (· ≤ reachBytes) = true → X W args → W.ShapedOpen C.prog →
      a.holds C.prog (lone (Frame.enter C.prog f args .normal) [] W) →
      Calls C.prog f args W fun e W' => ∃ v, e = .returned v ∧ s.post enc C.prog fn apart fresh handsOn again W args v W') :
    ReturnsInHanded a C os f .any (fun w args => (s.pre enc C.prog fn conds apart w args ∧ X w args) ∧ sizedMet enc C.prog fn (OpenSpec.ofChange s) apart w args) (s.post enc C.prog fn apart fresh handsOn again) := by
  refine returnsInHanded_of_calls own started noInit witness ?_
  intro w tape i _ hsh _ hok hpre hholds
  obtain ⟨_, _, _, fn', hfn', _, _, _, _, hval⟩ := hok
  have e : fn' = fn := Option.some.inj (hfn'.symm.trans hfn)
  subst e
  obtain ⟨⟨⟨ds, gs, before, hw, hc⟩, hx⟩, hz⟩ := hpre
  have hw' := DataW.Whole.of_heap (w' := w.forCall tape i) (by rfl) hw
  refine (contract (w.forCall tape i) w.heap.size i.args ds gs before hval hw' hc (hz.weights hw) (hX _ _ _ (by rfl) hx) hsh hholds).mono fun e W' ⟨v, he, hp⟩ => ?_
  subst he
  exact ChangeSpec.post_blind hp
theorem laidVars_at {P : Program} {W : World} : ∀ {laid : List (String × DataW Unit)} {ps : List MemPlace}, DataW.LaidVars P W laid ps → ∀ (i : Nat) (n : String) (d : DataW Unit), laid[i]? = some (n, d) →
    ∃ g t cs fuel p, P.globalNamed n = some g ∧ (P.globals[g]?).map (·.type) = some t ∧ W.var? P n = some cs ∧ DataW.trod (fun _ => ()) P W 0 (fun _ => true) false fuel t cs.toList = some (d, p)
  | [], _, _, i, _, _, h => by simp at h
  | (m, c) :: r, ps, h, i, n, d, hi => by
    obtain ⟨g, t, cs, fuel, p, q, h1, h2, h3, h4, h5, _⟩ := h
    cases i with
    | zero =>
      simp only [List.getElem?_cons_zero, Option.some.injEq, Prod.mk.injEq] at hi
      obtain ⟨rfl, rfl⟩ := hi
      exact ⟨g, t, cs, fuel, p, h1, h2, h3, h4⟩
    | succ j => exact laidVars_at h5 j n d (by simpa using hi)
theorem tabIs_at {P : Program} {W : World} {laid : List (String × DataW Unit)} {name : String} {k : IntKind} {zs : List Int} {g : Nat} {t e : TypeId} {n : Nat} (i : Nat) (hi : laid[i]? = some (name, Lib.tabData k zs))
    (hg : P.globalNamed name = some g) (hty : (P.globals[g]?).map (·.type) = some t) (ht : P.underlying t = some (.array n e)) (he : P.underlying e = some (.int k)) (hce : P.cellsOf e = 1) (hct : P.cellsOf t = n)
    (h : laidMet P laid W) : Lib.TabIs P W name k zs := by
  obtain ⟨ps, h, _⟩ := h
  obtain ⟨g', t', cs, fuel, p, hg', ht', hvar, hd⟩ := laidVars_at h i _ _ hi
  obtain rfl := Option.some.inj (hg.symm.trans hg')
  obtain rfl := Option.some.inj (hty.symm.trans ht')
  unfold Lib.TabIs
  rw [hvar, ← Lib.cells_of_tab ht he hce hct hd]
def laidL : List (String × DataW Unit) := [("math/bits.deBruijn32tab", Rows.laid_math_bits_deBruijn32tab), ("math/bits.deBruijn64tab", Rows.laid_math_bits_deBruijn64tab), ("internal/strconv.uint64pow10", Rows.laid_internal_strconv_uint64pow10), ("unicode/utf8.acceptRanges", Rows.laid_unicode_utf8_acceptRanges), ("unicode/utf8.first", Rows.laid_unicode_utf8_first)]
theorem wok_of {W : World} (h : laidMetH Tryd.prog laidL W) (hs : W.ShapedOpen Tryd.prog) : WOK W := by
  rw [MakeChecks.laidMetH_plain _ _ _ (by kernel_rfl)] at h
  refine ⟨?_, ?_, ?_⟩
  · exact cell_of_shapedOpen_int (t := 3) (zero := #[.int .i64 0]) hs (by decide +kernel) (by kernel_rfl) (by kernel_rfl) (by kernel_rfl) (by kernel_rfl) Tryd.underlying3
  · exact tabIs_at (g := 1) (n := 20) 2 (by rfl) (by kernel_rfl) (t := 112) (by kernel_rfl) (by kernel_rfl) (e := 23) Tryd.underlying23 (by kernel_rfl) (by kernel_rfl) h
  · have hb : Lib.TabIs Tryd.prog W "math/bits.deBruijn64tab" .u8 (Lib.deBruijn64tab.map Int.ofNat) := tabIs_at (g := 3) (n := 64) 1 (by rfl) (by kernel_rfl) (t := 123) (by kernel_rfl) (by kernel_rfl) (e := 5) Tryd.underlying5 (by kernel_rfl) (by kernel_rfl) h
    intro j hj
    have h2 := hb.cell (g := 3) (by kernel_rfl) j (by rw [List.length_map]; exact hj)
    rw [h2, List.getD, List.getD, List.getElem?_map, List.getElem?_eq_getElem hj]
    rfl
set_option maxRecDepth 100000 in
theorem laid_world (os : Os) (args : Array Value) : laidMetH Tryd.prog laidL ((World.laidAll Tryd.prog os laidL).forCall (fun _ _ => 0) ⟨#[], args, []⟩).memory := by
  rw [MakeChecks.laidMetH_plain _ _ _ (by kernel_rfl)]
  exact laidMet_laidAll _ (by kernel_rfl) (by kernel_rfl)
end Go.Proofs.YtlgfinnldhjgeaaDoor.Q
end

section
namespace Go.Proofs.YtlgfinnldhjgeaaDoor.addressRoundTrip
open Go.ChangeShapes Go.WideShapes Go.ChangeAt Go.RowKit Go.Proofs.YtlgfinnldhjgeaaDoorW.PrintWords Go.Proofs.YtlgfinnldhjgeaaDoor.Read Go.Proofs.YtlgfinnldhjgeaaDoor.Q
open Go.ChangeMaps (open_string shut_string)
set_option linter.unusedVariables false
theorem own : ownKnob Tryd.prog.godebug = none := by kernel_rfl
theorem laidOut : laidOutB Tryd.prog = true := by kernel_rfl
set_option maxRecDepth 100000 in
theorem lifted (os : Os) (started : os.Started) (H : Type) (enc : TypeId × Value → H) :
    ReturnsInHanded {} Tryd.checked os 9 .any (fun w args => (Rows.addressRoundTripSpec.pre enc Tryd.prog Tryd.f9 Rows.addressRoundTripRow.domain false w args ∧ laidMetH Tryd.prog laidL w) ∧ sizedMet enc Tryd.prog Tryd.f9 (OpenSpec.ofChange Rows.addressRoundTripSpec) false w args) (Rows.addressRoundTripSpec.post enc Tryd.prog Tryd.f9 false true false false) := by
  refine returns_laid (C := Tryd.checked) (X := (fun w _ => laidMetH Tryd.prog laidL w)) (fun _ _ _ hh h => h.of_heap hh) own started (by kernel_rfl) Tryd.func9
    (ChangeSpec.witness_shaped (enc := enc) (C := Tryd.checked) (os := os) (X := (fun w _ => laidMetH Tryd.prog laidL w)) false (World.laidAll Tryd.prog os laidL) #[.agg #[.bool false, .int .u64 0, .int .u64 0], .int .i64 0] 8 (World.laidAll_os _ _ _)
      (World.shaped_of_ZipB (by kernel_rfl) (by kernel_rfl)) (by kernel_rfl) (by kernel_rfl) (by kernel_rfl) (laid_world os _)) ?_
  intro W base args ds gs before hval0 hW hcnd hsz0 hL hsh _
  have hWok := wok_of hL hsh
  have hsz : (DataW.weightsEach Tryd.prog (Tryd.f9.params.toList ++ Rows.addressRoundTripSpec.plain.varTypes Tryd.prog) (ds ++ gs)).all (· ≤ reachBytes) = true := hsz0
  have hval : ∀ (j : Nat) t v, Tryd.f9.params[j]? = some t → args[j]? = some v → Value.okWide Tryd.prog W .any base t v := hval0
  have hW' := hW
  obtain ⟨p, q, hA0, hV, rfl, hfz, hnd⟩ := hW
  have hA : DataW.TrodAll enc Tryd.prog W 0 (fun _ => true) true Tryd.f9.params.toList args.toList ds p := hA0
  rw [Tryd.params9] at hA hval hsz
  obtain ⟨v0, vs0, d0, ds0, p0, q0, hargs, rfl, rfl, h0, r0⟩ := trodAll_cons hA
  obtain ⟨v1, vs1, d1, ds1, p1, q1, rfl, rfl, rfl, h1, r1⟩ := trodAll_cons r0
  obtain ⟨rfl, rfl, rfl⟩ := trodAll_nil r1
  obtain rfl : args = #[v0, v1] := by cases args; simp_all
  obtain ⟨rfl, rfl⟩ := trodVars_none hV
  obtain ⟨cs0, rfl, hz0⟩ := okWide_struct Tryd.underlying25 (hval 0 25 v0 rfl rfl)
  have k0_ := h0
  have lt0 : ∀ x ∈ p0, x.block < W.heap.size := by obtain ⟨m, hm⟩ := k0_; exact DataW.trod_lt m _ _ _ hm
  obtain ⟨fuel0, hf0⟩ := h0
  obtain ⟨x0, hK0, hq0⟩ := reads_k25 W H enc fuel0 _ _ hf0
  have hcs0 := k25_open hK0
  simp only [Value.cells] at hcs0
  obtain rfl : cs0 = #[.bool x0.f0, .int .u64 x0.f1, .int .u64 x0.f2] := by rw [← Array.toList_inj]; exact hcs0
  obtain ⟨a1, rfl, rfl, rfl, w1⟩ := open_int Tryd.underlying3 (hval 1 3 v1 rfl rfl) h1
  clear hA0 hval0 hsz0 hsz
  obtain ⟨k, hk⟩ := Pure.AddressRoundTrip x0 a1 hq0 w1
  refine (intrusionlaw06_AddressRoundTrip.calls k x0.f0 x0.f1 x0.f2 a1 true W  hk hWok).mono fun e W' he => ?_
  obtain ⟨rfl, bel⟩ := he
  exact ⟨_, rfl, _, _, _, [], _, [], hW', trodAll_mk1 (shut_bool Tryd.underlying4 _), (trodAll_cons_mk (Below.trod laidOut (by kernel_rfl) (of_decide_eq_true (by kernel_rfl)) k0_ bel lt0) (trodAll_cons_mk (shut_int Tryd.underlying3 w1) trodAll_mk0)), rfl, bel.frame _, fun h => by cases h⟩
theorem over : Rows.addressRoundTripRow.holds Tryd.pinned (OpenSpec.ofChange Rows.addressRoundTripSpec) :=
  OpenClaim.holds_of_wide 9 Tryd.f9 rfl rfl rfl rfl rfl rfl rfl ⟨rfl, rfl, rfl, rfl, rfl⟩ rfl rfl rfl rfl rfl (by kernel_rfl) Tryd.func9 (by kernel_rfl)
    (of_decide_eq_true (by kernel_rfl)) (by unfold Func.isWrapper; first | (rw [if_pos (by decide +kernel)]; kernel_rfl) | (rw [if_neg (by decide +kernel)]; exact ⟨rfl, rfl⟩))
    (fun os started H enc _ => lifted os started H enc)
theorem card : Rows.AddressRoundTripCardSaid :=
  Claim7.holds_tied_plain_at .later [] [.data, .data, .data, .data, .pinned] true (true, "a4caf97771cecc6370fff57cddc3aa8f525d50a87a13146298f7be9fbc5a6ea2") false over (fun _ h => by cases h) (by kernel_rfl) (fun _ h => by cases h) addressRoundTrip_row_tie rfl ⟨rfl, rfl⟩ (by kernel_rfl) rfl
    (fun f fn hf hfn => by
      obtain rfl : f = 9 := Option.some.inj ((show Tryd.prog.funcNamed "intrusion/intrusionlaw06.AddressRoundTrip" = some 9 by kernel_rfl).symm.trans hf) |>.symm
      obtain rfl : fn = Tryd.f9 := (Option.some.inj (Tryd.func9.symm.trans hfn)).symm
      exact ⟨by kernel_rfl, fun j t ht => by
        rw [Tryd.params9] at ht
        have hm : t ∈ [25, 3] := by simpa using Array.mem_of_getElem? ht
        have hall : ([25, 3].all fun u => !Tryd.prog.wantsStandIn u) = true := by kernel_rfl
        exact (show Tryd.prog.wantsStandIn t = false by simpa using List.all_eq_true.1 hall t hm)⟩)
    (by kernel_rfl)
#print axioms card
end Go.Proofs.YtlgfinnldhjgeaaDoor.addressRoundTrip
namespace Go.Proofs.YtlgfinnldhjgeaaDoor
theorem addressRoundTrip_holds : Rows.AddressRoundTripCardSaid := addressRoundTrip.card
end Go.Proofs.YtlgfinnldhjgeaaDoor
end
