/- The law AddressParses answers true for every input and leaves its arguments as they were. No condition. (Part 5 of 5: the kit's printed words and walks, hand-made contracts and plain laws, joined in build order, without what the theorem does not reach.) -/
import Derived.Test.YtlgfinnldhjgeaaDoorRows
import Derived.ProofKit
import Derived.OpenShut
import Derived.LaidMore
import Derived.Lay
import Derived.SevenTiedAt
import Derived.Stop.Joined
import Derived.Lib.LaidTab
import Derived.Shelf.Vars
import Derived.HandedShaped
import Derived.WalkKit
import Derived.ShutString
import Derived.ChangeOld
import Derived.Below
import Derived.SizedLaws
import Derived.Carry
import Derived.Test.YtlgfinnldhjgeaaDoorTie
import Derived.Test.YtlgfinnldhjgeaaDoorCards
import Derived.Test.YtlgfinnldhjgeaaDoorGAddressParses4
section
set_option linter.unusedVariables false
set_option linter.unusedSimpArgs false
namespace Go.Proofs.YtlgfinnldhjgeaaDoor.Q
open Go.RowKit Go.Proofs.YtlgfinnldhjgeaaDoorW.PrintWords Go.Proofs.YtlgfinnldhjgeaaDoorW.PrintLast Go.Proofs.YtlgfinnldhjgeaaDoorW.PrintMore
def foldO : List (List UInt8) → Nat → Option Nat
  | [], n => some n
  | x :: t, n => match upTo x 255 with | none => none | some v => foldO t (n * 256 + v)
theorem upTo_le {l : List UInt8} {m v : Nat} (h : upTo l m = some v) : v ≤ m := by
  unfold upTo at h
  cases hd : decL l with
  | none => rw [hd] at h; cases h
  | some u =>
    rw [hd] at h
    dsimp only at h
    split at h
    · injection h with h; omega
    · cases h
def p4 (l : List UInt8) : Option Nat := if (spl 46 [] l).length = 4 then foldO (spl 46 [] l) 0 else none
def r4 (o : Option Nat) : Bool × Int × Int × Bool := match o with | none => (false, 0, 0, false) | some v => (false, 0, (v : Int), true)
theorem aparse40 (L : List (List UInt8)) (hL : L.length = 4) : ∀ (d i n : Nat), L.length - i = d → i ≤ L.length → n < 256 ^ i → Ev (fun k => address_parse4.l0 k (L.map mkB) (L.length : Int) (i : Int) false 0 (n : Int)) (r4 (foldO (L.drop i) n))
  | 0, i, n, hd, hi, hn => by
    rw [List.drop_of_length_le (by omega), foldO]
    refine Ev.step (f := fun _ => some (false, 0, (n : Int), true)) (fun k => ?_) (Ev.now _)
    rw [address_parse4.l0, if_neg (by omega)]
  | d + 1, i, n, hd, hi, hn => by
    have hl : i < L.length := by omega
    have hsp : L.drop i = L[i] :: L.drop (i + 1) := List.drop_eq_getElem_cons hl
    obtain ⟨r, ⟨K, e⟩, e2, e3⟩ := number_ev (mkB L[i]) 255 (by omega)
    rw [mkB_list] at e2 e3
    have hp := Nat.pow_le_pow_right (show 0 < 256 by decide) (show i ≤ 3 by omega)
    rw [show (256 : Nat) ^ 3 = 16777216 from by decide] at hp
    rw [hsp, foldO]
    cases hv : upTo L[i] 255 with
    | none =>
      rw [hv] at e2
      refine ⟨K + 1, fun k hk => ?_⟩
      obtain ⟨m, rfl⟩ : ∃ m, k = m + 1 := ⟨k - 1, by omega⟩
      have f := e m (by omega)
      dsimp only at f ⊢
      rw [show ((255 : Nat) : Int) = 255 from rfl] at f
      rw [address_parse4.l0, if_pos (by omega), if_pos (by omega), if_pos (by rw [List.length_map]; omega), rdOf_mk L i hl, f, Option.bind_some, e2, if_neg (by simp)]
      rfl
    | some v =>
      rw [hv] at e2
      have hr := e3 v hv
      have hle := upTo_le hv
      obtain ⟨K2, g⟩ := aparse40 L hL d (i + 1) (n * 256 + v) (by omega) (by omega) (by rw [Nat.pow_succ]; omega)
      refine ⟨K + K2 + 1, fun k hk => ?_⟩
      obtain ⟨m, rfl⟩ : ∃ m, k = m + 1 := ⟨k - 1, by omega⟩
      have f := e m (by omega)
      have f2 := g m (by omega)
      dsimp only at f f2 ⊢
      rw [show ((255 : Nat) : Int) = 255 from rfl] at f
      rw [address_parse4.l0, if_pos (by omega), if_pos (by omega), if_pos (by rw [List.length_map]; omega), rdOf_mk L i hl, f, Option.bind_some, e2, if_pos (show (some v).isSome = true from rfl), hr, u64_id (n := (v : Int)) (by omega) (by omega), or_256 n v (by omega) (by omega), up_i (by omega)]
      exact f2
theorem aparse4_ev (s : ByteArray) (hs : s.data.toList.length ≤ 100) : Ev (fun k => address_parse4.f k s) (r4 (p4 s.data.toList)) := by
  unfold address_parse4.f p4
  by_cases h : (spl 46 [] s.data.toList).length = 4
  · rw [if_pos h]
    have ev := aparse40 (spl 46 [] s.data.toList) h _ 0 0 rfl (by omega) (by decide)
    rw [List.drop_zero] at ev
    refine Ev.congr (fun k => ?_) ev
    rw [split_eq s 46 (by rw [size_list]; omega), Option.bind_some, if_pos (by rw [List.length_map]; omega), List.length_map]
    rfl
  · rw [if_neg h]
    refine Ev.congr (f := fun _ => some (false, 0, 0, false)) (fun k => ?_) (Ev.now _)
    rw [split_eq s 46 (by rw [size_list]; omega), Option.bind_some, if_neg (by rw [List.length_map]; omega)]
theorem decR_up (l : List UInt8) (m : Nat) : (upTo l m = none ∧ decR l m < 0) ∨ (∃ v, upTo l m = some v ∧ decR l m = (v : Int)) := by
  unfold upTo decR
  cases decL l with
  | none => exact .inl ⟨rfl, show (-1 : Int) < 0 from by decide⟩
  | some v =>
    by_cases h : v ≤ m
    · exact .inr ⟨v, by simp [h], by simp [h]⟩
    · exact .inl ⟨by simp [h], by simp [h]⟩
theorem rparse40 (L : List (List UInt8)) (hL : L.length = 4) (hz : ∀ x ∈ L, x.length ≤ 100) : ∀ (d i n : Nat), L.length - i = d → i ≤ L.length → n < 256 ^ i → Ev (fun k => intrusionref06_parse4.l0 k (L.map mkB) (i : Int) false 0 (n : Int)) (r4 (foldO (L.drop i) n))
  | 0, i, n, hd, hi, hn => by
    rw [List.drop_of_length_le (by omega), foldO]
    refine Ev.step (f := fun _ => some (false, 0, (n : Int), true)) (fun k => ?_) (Ev.now _)
    rw [intrusionref06_parse4.l0, if_neg (by omega)]
  | d + 1, i, n, hd, hi, hn => by
    have hl : i < L.length := by omega
    have hsp : L.drop i = L[i] :: L.drop (i + 1) := List.drop_eq_getElem_cons hl
    obtain ⟨K, e⟩ := rdec_ev (mkB L[i]) 255 (by omega) (hz _ (List.getElem_mem hl))
    rw [mkB_list] at e
    have hp := Nat.pow_le_pow_right (show 0 < 256 by decide) (show i ≤ 3 by omega)
    rw [show (256 : Nat) ^ 3 = 16777216 from by decide] at hp
    rw [hsp, foldO]
    rcases decR_up L[i] 255 with ⟨hv, hr⟩ | ⟨v, hv, hr⟩
    · rw [hv]
      refine ⟨K + 1, fun k hk => ?_⟩
      obtain ⟨m, rfl⟩ : ∃ m, k = m + 1 := ⟨k - 1, by omega⟩
      have f := e m (by omega)
      dsimp only at f ⊢
      rw [show ((255 : Nat) : Int) = 255 from rfl] at f
      rw [intrusionref06_parse4.l0, if_pos (by omega), if_pos (by omega), if_pos (by rw [List.length_map]; omega), rdOf_mk L i hl, f, Option.bind_some, if_pos hr]
      rfl
    · rw [hv]
      have hle := upTo_le hv
      obtain ⟨K2, g⟩ := rparse40 L hL hz d (i + 1) (n * 256 + v) (by omega) (by omega) (by rw [Nat.pow_succ]; omega)
      refine ⟨K + K2 + 1, fun k hk => ?_⟩
      obtain ⟨m, rfl⟩ : ∃ m, k = m + 1 := ⟨k - 1, by omega⟩
      have f := e m (by omega)
      have f2 := g m (by omega)
      dsimp only at f f2 ⊢
      rw [show ((255 : Nat) : Int) = 255 from rfl] at f
      rw [intrusionref06_parse4.l0, if_pos (by omega), if_pos (by omega), if_pos (by rw [List.length_map]; omega), rdOf_mk L i hl, f, Option.bind_some, hr, if_neg (by omega), u64_id (n := (v : Int)) (by omega) (by omega), or_256 n v (by omega) (by omega), up_i (by omega)]
      exact f2
theorem spl_mem (c : UInt8) : ∀ (l cur : List UInt8), ∀ x ∈ spl c cur l, x.length ≤ cur.length + l.length
  | [], cur, x, hx => by
    rw [spl] at hx
    rw [List.mem_singleton.1 hx]
    omega
  | y :: t, cur, x, hx => by
    rw [spl] at hx
    split at hx
    · rcases List.mem_cons.1 hx with rfl | h
      · omega
      · have := spl_mem c t [] x h
        simp at this ⊢
        omega
    · have := spl_mem c t (cur ++ [y]) x hx
      simp at this ⊢
      omega
theorem rparse4_ev (s : ByteArray) (hs : s.data.toList.length ≤ 100) : Ev (fun k => intrusionref06_parse4.f k s) (r4 (p4 s.data.toList)) := by
  unfold intrusionref06_parse4.f p4
  refine Ev.bind (rsplit_ev s 46 hs) ?_
  by_cases h : (spl 46 [] s.data.toList).length = 4
  · rw [if_pos h]
    have ev := rparse40 (spl 46 [] s.data.toList) h (fun x hx => by
      have h := spl_mem 46 _ [] x hx
      rw [List.length_nil, Nat.zero_add] at h
      omega) _ 0 0 rfl (by omega) (by decide)
    rw [List.drop_zero] at ev
    refine Ev.congr (fun k => ?_) ev
    rw [if_pos (by rw [List.length_map]; omega)]
    rfl
  · rw [if_neg h]
    refine Ev.congr (f := fun _ => some (false, 0, 0, false)) (fun k => ?_) (Ev.now _)
    rw [if_neg (by rw [List.length_map]; omega)]
def foldN (M : List Nat) : Nat := M.foldl (fun n x => n * 65536 + x) 0
theorem foldN_snoc (M : List Nat) (x : Nat) : foldN (M ++ [x]) = foldN M * 65536 + x := by unfold foldN; rw [List.foldl_append]; rfl
theorem foldN_take (M : List Nat) (i : Nat) (h : i < M.length) : foldN (M.take (i + 1)) = foldN (M.take i) * 65536 + M[i]'h := by
  rw [List.take_succ_eq_append_getElem h, foldN_snoc]
theorem foldN_lt {M : List Nat} (hb : ∀ x ∈ M, x < 65536) : ∀ i, i ≤ M.length → foldN (M.take i) < 65536 ^ i
  | 0, _ => by rw [List.take_zero]; exact Nat.one_pos
  | i + 1, h => by
    have hl : i < M.length := by omega
    have ih := foldN_lt hb i (by omega)
    have hx := hb _ (List.getElem_mem hl)
    rw [foldN_take M i hl, Nat.pow_succ]
    generalize foldN (M.take i) = a at *
    generalize 65536 ^ i = p at *
    omega
theorem or_65536 {x b : Nat} (hb : b < 65536) (hx : x * 65536 + b < 18446744073709551616) : Go.bits .or .u64 (IntKind.u64.wrap ((x : Int) * 65536)) (b : Int) = ((x * 65536 + b : Nat) : Int) := by
  have e : (2 : Nat) ^ 16 = 65536 := by decide
  have h := or_under x b 16 (by rw [e]; exact hb) (by rw [e]; exact hx)
  rw [e] at h
  exact h
theorem p65536 {n : Nat} (h : n ≤ 4) : 65536 ^ n ≤ 18446744073709551616 := Nat.le_trans (Nat.pow_le_pow_right (by decide) h) (by decide)
theorem rd_natI (M : List Nat) (i : Nat) (h : i < M.length) : rd (natI M) (i : Int) = ((M[i]'h : Nat) : Int) := by
  unfold rd natI
  rw [Int.toNat_natCast, List.getD_eq_getElem?_getD, List.getElem?_map, List.getElem?_eq_getElem h]
  rfl
theorem natI_len (M : List Nat) : (natI M).length = M.length := by unfold natI; rw [List.length_map]
theorem natI_app (M R : List Nat) : natI M ++ natI R = natI (M ++ R) := by unfold natI; rw [List.map_append]
def oct (M : List Nat) : Bool × Int × Int × Bool := (true, ((foldN (M.take 4) : Nat) : Int), ((foldN (M.drop 4) : Nat) : Int), true)
theorem afold2 (M : List Nat) (hM : M.length = 8) (hb : ∀ x ∈ M, x < 65536) : ∀ (d i : Nat), 8 - i = d → 4 ≤ i → i ≤ 8 → Ev (fun k => address_parse6.l1 k (natI M) 8 (i : Int) true ((foldN (M.take 4) : Nat) : Int) ((foldN ((M.drop 4).take (i - 4)) : Nat) : Int)) (oct M)
  | 0, i, hd, h4, hi => by
    refine Ev.step (f := fun _ => some (oct M)) (fun k => ?_) (Ev.now _)
    rw [address_parse6.l1, if_neg (by omega), show (M.drop 4).take (i - 4) = M.drop 4 from List.take_of_length_le (by rw [List.length_drop]; omega)]
    rfl
  | d + 1, i, hd, h4, hi => by
    have ih := afold2 M hM hb d (i + 1) (by omega) (by omega) (by omega)
    refine Ev.step (fun k => ?_) ih
    have hl : i < M.length := by omega
    have hl2 : i - 4 < (M.drop 4).length := by rw [List.length_drop]; omega
    have hg : (M.drop 4)[i - 4] = M[i] := by
      rw [List.getElem_drop]
      congr 1
      omega
    have hx := foldN_lt (M := M.drop 4) (fun x hx => hb x (List.mem_of_mem_drop hx)) (i - 4 + 1) (by rw [List.length_drop]; omega)
    have hp := p65536 (n := i - 4 + 1) (by omega)
    rw [foldN_take _ _ hl2, hg] at hx
    rw [address_parse6.l1, if_pos (by omega), if_pos (by omega), if_pos (by rw [natI_len]; omega), if_neg (by omega), rd_natI M i hl, or_65536 (hb _ (List.getElem_mem hl)) (Nat.lt_of_lt_of_le hx hp), up_i (by omega), show i + 1 - 4 = i - 4 + 1 from by omega, foldN_take _ _ hl2, hg]
theorem afold1 (M : List Nat) (hM : M.length = 8) (hb : ∀ x ∈ M, x < 65536) : ∀ (d i : Nat), 4 - i = d → i ≤ 4 → Ev (fun k => address_parse6.l1 k (natI M) 8 (i : Int) true ((foldN (M.take i) : Nat) : Int) 0) (oct M)
  | 0, i, hd, hi => by
    obtain rfl : i = 4 := by omega
    exact afold2 M hM hb _ 4 rfl (by omega) (by omega)
  | d + 1, i, hd, hi => by
    have ih := afold1 M hM hb d (i + 1) (by omega) (by omega)
    refine Ev.step (fun k => ?_) ih
    have hl : i < M.length := by omega
    have hx := foldN_lt hb (i + 1) (by omega)
    have hp := p65536 (n := i + 1) (by omega)
    rw [foldN_take M i hl] at hx
    rw [address_parse6.l1, if_pos (by omega), if_pos (by omega), if_pos (by rw [natI_len]; omega), if_pos (by omega), rd_natI M i hl, or_65536 (hb _ (List.getElem_mem hl)) (Nat.lt_of_lt_of_le hx hp), up_i (by omega), foldN_take M i hl]
theorem rfold (M : List Nat) (hM : M.length = 8) (hb : ∀ x ∈ M, x < 65536) : ∀ (d i : Nat), 4 - i = d → i ≤ 4 → Ev (fun k => intrusionref06_parse6.l1 k (natI M) (i : Int) true ((foldN (M.take i) : Nat) : Int) ((foldN ((M.drop 4).take i) : Nat) : Int)) (oct M)
  | 0, i, hd, hi => by
    obtain rfl : i = 4 := by omega
    refine Ev.step (f := fun _ => some (oct M)) (fun k => ?_) (Ev.now _)
    rw [intrusionref06_parse6.l1, if_neg (by omega), show (M.drop 4).take 4 = M.drop 4 from List.take_of_length_le (by rw [List.length_drop]; omega)]
    rfl
  | d + 1, i, hd, hi => by
    have ih := rfold M hM hb d (i + 1) (by omega) (by omega)
    refine Ev.step (fun k => ?_) ih
    have hl : i < M.length := by omega
    have hl4 : i + 4 < M.length := by omega
    have hl2 : i < (M.drop 4).length := by rw [List.length_drop]; omega
    have hg : (M.drop 4)[i] = M[i + 4] := by
      rw [List.getElem_drop]
      congr 1
      omega
    have hx := foldN_lt hb (i + 1) (by omega)
    have hy := foldN_lt (M := M.drop 4) (fun x hx => hb x (List.mem_of_mem_drop hx)) (i + 1) (by rw [List.length_drop]; omega)
    have hp := p65536 (n := i + 1) (by omega)
    rw [foldN_take M i hl] at hx
    rw [foldN_take _ _ hl2, hg] at hy
    have e4 : wrap64 ((i : Int) + 4) = ((i + 4 : Nat) : Int) := by rw [wid (by omega) (by omega)]; omega
    have b1 := hb _ (List.getElem_mem hl)
    have b2 := hb _ (List.getElem_mem hl4)
    have ra := rd_natI M i hl
    have rb := rd_natI M (i + 4) hl4
    have fa := foldN_take M i hl
    have fb := foldN_take (M.drop 4) i hl2
    rw [hg] at fb
    generalize M[i] = a at hx b1 ra fa
    generalize M[i + 4] = b at hy b2 rb fb
    have ga := or_65536 b1 (Nat.lt_of_lt_of_le hx hp)
    have gb := or_65536 b2 (Nat.lt_of_lt_of_le hy hp)
    rw [← fa] at ga
    rw [← fb] at gb
    have wa : IntKind.u64.wrap (a : Int) = (a : Int) := u64_id (by omega) (by omega)
    have wb : IntKind.u64.wrap (b : Int) = (b : Int) := u64_id (by omega) (by omega)
    rw [intrusionref06_parse6.l1, if_pos (by omega), if_pos (by omega), if_pos (by rw [natI_len]; omega), e4, if_pos (by omega), if_pos (by rw [natI_len]; omega), ra, rb, wa, wb, ga, gb, up_i (i := i) (by omega)]
def padN (x y : List Nat) : List Nat := x ++ List.replicate (8 - (x.length + y.length)) 0 ++ y
theorem pad_step (x y : List Nat) (h : x.length + y.length < 8) : padN (x ++ [0]) y = padN x y := by
  unfold padN
  rw [List.append_assoc x [0]]
  congr 2
  rw [List.length_append, List.length_cons, List.length_nil, show 8 - (x.length + y.length) = (8 - (x.length + (0 + 1) + y.length)) + 1 from by omega, List.replicate_succ]
  rfl
theorem padN_len (x y : List Nat) (h : x.length + y.length ≤ 8) : (padN x y).length = 8 := by
  unfold padN
  simp
  omega
theorem padN_b {x y : List Nat} (hx : ∀ a ∈ x, a < 65536) (hy : ∀ a ∈ y, a < 65536) : ∀ a ∈ padN x y, a < 65536 := by
  intro a ha
  unfold padN at ha
  rcases List.mem_append.1 ha with h | h
  · rcases List.mem_append.1 h with h | h
    · exact hx a h
    · rw [List.eq_of_mem_replicate h]; decide
  · exact hy a h
theorem apad : ∀ (d : Nat) (x y : List Nat), 8 - (x.length + y.length) = d → x.length + y.length ≤ 8 → (∀ a ∈ x, a < 65536) → (∀ a ∈ y, a < 65536) → Ev (fun k => address_parse6.l0 k (natI x) (natI y)) (oct (padN x y))
  | 0, x, y, hd, hl, hx, hy => by
    have e : padN x y = x ++ y := by unfold padN; rw [hd]; simp
    have hM := padN_len x y hl
    have hb := padN_b hx hy
    rw [e] at hM hb ⊢
    refine Ev.step (fun k => ?_) (afold1 (x ++ y) hM hb _ 0 rfl (by omega))
    rw [address_parse6.l0, wid (by rw [natI_len, natI_len]; omega) (by rw [natI_len, natI_len]; omega), if_neg (by rw [natI_len, natI_len]; omega), if_pos (by rw [natI_len, natI_len]; omega), Option.bind_some, natI_app, natI_len, hM]
    rfl
  | d + 1, x, y, hd, hl, hx, hy => by
    have ih := apad d (x ++ [0]) y (by rw [List.length_append]; simp; omega) (by rw [List.length_append]; simp; omega) (fun a ha => by
      rcases List.mem_append.1 ha with h | h
      · exact hx a h
      · rw [List.mem_singleton.1 h]; decide) hy
    rw [pad_step x y (by omega)] at ih
    refine Ev.step (fun k => ?_) ih
    rw [address_parse6.l0, wid (by rw [natI_len, natI_len]; omega) (by rw [natI_len, natI_len]; omega), if_pos (by rw [natI_len, natI_len]; omega), if_pos (by rw [natI_len]; omega)]
    rw [show natI (x ++ [0]) = natI x ++ [0] from by rw [← natI_app]; rfl]
theorem rpad : ∀ (d : Nat) (x y : List Nat), 8 - (x.length + y.length) = d → x.length + y.length ≤ 8 → (∀ a ∈ x, a < 65536) → (∀ a ∈ y, a < 65536) → Ev (fun k => intrusionref06_parse6.l0 k (natI x) (natI y)) (oct (padN x y))
  | 0, x, y, hd, hl, hx, hy => by
    have e : padN x y = x ++ y := by unfold padN; rw [hd]; simp
    have hM := padN_len x y hl
    have hb := padN_b hx hy
    rw [e] at hM hb ⊢
    refine Ev.step (f := fun k => intrusionref06_parse6.j2 k (natI (x ++ y))) (fun k => ?_) (Ev.step (fun k => ?_) (rfold (x ++ y) hM hb _ 0 rfl (by omega)))
    · rw [intrusionref06_parse6.l0, wid (by rw [natI_len, natI_len]; omega) (by rw [natI_len, natI_len]; omega), if_neg (by rw [natI_len, natI_len]; omega), if_pos (by rw [natI_len, natI_len]; omega), natI_app]
    · rw [intrusionref06_parse6.j2]
      rfl
  | d + 1, x, y, hd, hl, hx, hy => by
    have ih := rpad d (x ++ [0]) y (by rw [List.length_append]; simp; omega) (by rw [List.length_append]; simp; omega) (fun a ha => by
      rcases List.mem_append.1 ha with h | h
      · exact hx a h
      · rw [List.mem_singleton.1 h]; decide) hy
    rw [pad_step x y (by omega)] at ih
    refine Ev.step (fun k => ?_) ih
    rw [intrusionref06_parse6.l0, wid (by rw [natI_len, natI_len]; omega) (by rw [natI_len, natI_len]; omega), if_pos (by rw [natI_len, natI_len]; omega), if_pos (by rw [natI_len]; omega)]
    rw [show natI (x ++ [0]) = natI x ++ [0] from by rw [← natI_app]; rfl]
def p6 (l : List UInt8) : Option (List Nat) :=
  if (Lib.cut l [58, 58]).2.2 = true then (match grps (Lib.cut l [58, 58]).1, grps (Lib.cut l [58, 58]).2.1 with | some x, some y => if x.length + y.length ≤ 7 then some (padN x y) else none | _, _ => none)
  else (match grps l with | some x => if x.length = 8 then some x else none | none => none)
def r6 (o : Option (List Nat)) : Bool × Int × Int × Bool := match o with | none => (false, 0, 0, false) | some M => oct M
theorem grps_b {l : List UInt8} {r : List Nat} (h : grps l = some r) : (∀ x ∈ r, x < 65536) ∧ r.length ≤ l.length + 1 := by
  unfold grps at h
  split at h
  · injection h with h
    subst h
    simp
  · have := mapO_len h
    have h2 := spl_len 58 l []
    exact ⟨this.2, by rw [this.1]; exact h2⟩
theorem cut_len (l : List UInt8) : (Lib.cut l [58, 58]).1.length ≤ l.length ∧ (Lib.cut l [58, 58]).2.1.length ≤ l.length := by
  unfold Lib.cut
  split
  · simp only [List.length_take, List.length_drop]
    omega
  · simp
theorem aparse6_ev (s : ByteArray) (hs : s.data.toList.length ≤ 100) : Ev (fun k => address_parse6.f k s) (r6 (p6 s.data.toList)) := by
  have hc := cut_len s.data.toList
  obtain ⟨K1, e1⟩ := agroups_ev (mkB (Lib.cut s.data.toList [58, 58]).1) (by rw [mkB_list]; omega)
  obtain ⟨K2, e2⟩ := agroups_ev (mkB (Lib.cut s.data.toList [58, 58]).2.1) (by rw [mkB_list]; omega)
  rw [mkB_list] at e1 e2
  have hcut := cut_eq s ⟨#[58, 58]⟩ (by rw [size_list]; omega)
  rw [show (⟨#[58, 58]⟩ : ByteArray).data.toList = [58, 58] from rfl] at hcut
  have main : ∃ K, ∀ k, K ≤ k → (if (grpsV (Lib.cut s.data.toList [58, 58]).1).2 = true then (address_parse6.j0 k (Lib.cut s.data.toList [58, 58]).2.2 (grpsV (Lib.cut s.data.toList [58, 58]).1).1 (grpsV (Lib.cut s.data.toList [58, 58]).2.1).1 (!(grpsV (Lib.cut s.data.toList [58, 58]).2.1).2)) else (address_parse6.j0 k (Lib.cut s.data.toList [58, 58]).2.2 (grpsV (Lib.cut s.data.toList [58, 58]).1).1 (grpsV (Lib.cut s.data.toList [58, 58]).2.1).1 true)) = some (r6 (p6 s.data.toList)) := by
    have fail : ∀ (sh : Bool) (a b : List Int) (k : Nat), 1 ≤ k → address_parse6.j0 k sh a b true = some (false, 0, 0, false) := fun sh a b k hk => by
      obtain ⟨m, rfl⟩ : ∃ m, k = m + 1 := ⟨k - 1, by omega⟩
      rw [address_parse6.j0, if_pos rfl]
    unfold p6 grpsV
    cases h1 : grps (Lib.cut s.data.toList [58, 58]).1 with
    | none =>
      refine ⟨1, fun k hk => ?_⟩
      dsimp only
      rw [if_neg Bool.false_ne_true, fail _ _ _ k hk]
      by_cases hsh : (Lib.cut s.data.toList [58, 58]).2.2 = true
      · rw [if_pos hsh]; rfl
      · rw [if_neg hsh]
        have : (Lib.cut s.data.toList [58, 58]).1 = s.data.toList := by
          unfold Lib.cut at hsh ⊢
          split
          · rename_i h; rw [if_pos h] at hsh; exact absurd rfl hsh
          · rfl
        rw [this] at h1
        rw [h1]; rfl
    | some x =>
      have hxb := (grps_b h1).1
      have hxl := (grps_b h1).2
      cases h2 : grps (Lib.cut s.data.toList [58, 58]).2.1 with
      | none =>
        refine ⟨1, fun k hk => ?_⟩
        dsimp only
        rw [if_pos rfl, Bool.not_false, fail _ _ _ k hk]
        by_cases hsh : (Lib.cut s.data.toList [58, 58]).2.2 = true
        · rw [if_pos hsh]; rfl
        · exfalso
          have : (Lib.cut s.data.toList [58, 58]).2.1 = [] := by
            unfold Lib.cut at hsh ⊢
            split
            · rename_i h; rw [if_pos h] at hsh; exact absurd rfl hsh
            · rfl
          rw [this] at h2
          unfold grps at h2
          rw [if_pos rfl] at h2
          cases h2
      | some y =>
        have hyb := (grps_b h2).1
        have hyl := (grps_b h2).2
        by_cases hsh : (Lib.cut s.data.toList [58, 58]).2.2 = true
        · rw [hsh]
          by_cases h7 : x.length + y.length ≤ 7
          · obtain ⟨K, e⟩ := apad _ x y rfl (by omega) hxb hyb
            refine ⟨K + 3, fun k hk => ?_⟩
            obtain ⟨m, rfl⟩ : ∃ m, k = m + 3 := ⟨k - 3, by omega⟩
            dsimp only
            rw [if_pos rfl, Bool.not_true, address_parse6.j0, if_neg Bool.false_ne_true, if_pos rfl, address_parse6.j1, if_neg Bool.false_ne_true, if_pos rfl, wid (by rw [natI_len, natI_len]; omega) (by rw [natI_len, natI_len]; omega), if_neg (by rw [natI_len, natI_len]; omega), address_parse6.j2, if_pos rfl, if_pos h7]
            exact e m (by omega)
          · refine ⟨3, fun k hk => ?_⟩
            obtain ⟨m, rfl⟩ : ∃ m, k = m + 3 := ⟨k - 3, by omega⟩
            dsimp only
            rw [if_pos rfl, Bool.not_true, address_parse6.j0, if_neg Bool.false_ne_true, if_pos rfl, address_parse6.j1, if_neg Bool.false_ne_true, if_pos rfl, wid (by rw [natI_len, natI_len]; omega) (by rw [natI_len, natI_len]; omega), if_pos (by rw [natI_len, natI_len]; omega), if_pos rfl, if_neg h7]
            rfl
        · have hcz : (Lib.cut s.data.toList [58, 58]).1 = s.data.toList ∧ (Lib.cut s.data.toList [58, 58]).2.1 = [] := by
            unfold Lib.cut at hsh ⊢
            split
            · rename_i h; rw [if_pos h] at hsh; exact absurd rfl hsh
            · exact ⟨rfl, rfl⟩
          rw [hcz.2] at h2
          unfold grps at h2
          rw [if_pos rfl] at h2
          injection h2 with h2
          subst h2
          rw [hcz.1] at h1
          rw [if_neg hsh, h1]
          rw [Bool.not_eq_true] at hsh
          rw [hsh]
          by_cases h8 : x.length = 8
          · obtain ⟨K, e⟩ := apad _ x [] rfl (by simp; omega) hxb (by simp)
            have ep : padN x [] = x := by unfold padN; rw [h8]; simp
            rw [ep] at e
            refine ⟨K + 3, fun k hk => ?_⟩
            obtain ⟨m, rfl⟩ : ∃ m, k = m + 3 := ⟨k - 3, by omega⟩
            dsimp only
            rw [if_pos rfl, Bool.not_true, address_parse6.j0, if_neg Bool.false_ne_true, if_neg Bool.false_ne_true, natI_len, h8, show (((8 : Nat) : Int) != 8) = false from rfl, address_parse6.j1, if_neg Bool.false_ne_true, if_neg Bool.false_ne_true, address_parse6.j2, if_pos rfl]
            exact e m (by omega)
          · refine ⟨3, fun k hk => ?_⟩
            obtain ⟨m, rfl⟩ : ∃ m, k = m + 3 := ⟨k - 3, by omega⟩
            dsimp only
            rw [if_pos rfl, Bool.not_true, address_parse6.j0, if_neg Bool.false_ne_true, if_neg Bool.false_ne_true, natI_len, show ((x.length : Int) != 8) = true from bne_iff_ne.2 (by omega), address_parse6.j1, if_pos rfl, if_neg h8]
            rfl
  obtain ⟨K3, e3⟩ := main
  refine ⟨K1 + K2 + K3, fun k hk => ?_⟩
  have f1 := e1 k (by omega)
  have f2 := e2 k (by omega)
  have f3 := e3 k (by omega)
  dsimp only at f1 f2 ⊢
  unfold address_parse6.f
  rw [hcut, Option.bind_some, f1, Option.bind_some, f2, Option.bind_some]
  exact f3
end Go.Proofs.YtlgfinnldhjgeaaDoor.Q
end

section
set_option linter.unusedVariables false
set_option linter.unusedSimpArgs false
namespace Go.Proofs.YtlgfinnldhjgeaaDoor.Q
open Go.RowKit Go.Proofs.YtlgfinnldhjgeaaDoorW.PrintWords Go.Proofs.YtlgfinnldhjgeaaDoorW.PrintLast Go.Proofs.YtlgfinnldhjgeaaDoorW.PrintMore
theorem sum_w {x y : List Nat} (h : x.length + y.length ≤ 300) : wrap64 (((natI x).length : Int) + ((natI y).length : Int)) = ((x.length + y.length : Nat) : Int) := by
  rw [natI_len, natI_len, wid (by omega) (by omega)]
  omega
theorem dec7_f {x y : List Nat} (h : x.length + y.length ≤ 7) : decide (wrap64 (((natI x).length : Int) + ((natI y).length : Int)) > 7) = false := by
  rw [sum_w (by omega)]
  exact decide_eq_false (by omega)
theorem dec7_t {x y : List Nat} (h : 7 < x.length + y.length) (h2 : x.length + y.length ≤ 300) : decide (wrap64 (((natI x).length : Int) + ((natI y).length : Int)) > 7) = true := by
  rw [sum_w h2]
  exact decide_eq_true (by omega)
theorem rparse6_ev (s : ByteArray) (hs : s.data.toList.length ≤ 100) : Ev (fun k => intrusionref06_parse6.f k s) (r6 (p6 s.data.toList)) := by
  unfold intrusionref06_parse6.f
  refine Ev.bind (rgap_ev s hs) ?_
  have hge := Lib.index_ge s.data.toList [58, 58]
  by_cases hi : Lib.index s.data.toList [58, 58] < 0
  · have hcut : (Lib.cut s.data.toList [58, 58]).2.2 = false := by unfold Lib.cut; rw [if_neg (by omega)]
    refine Ev.congr (f := fun k => (intrusionref06_groups.f k s).bind fun t => if t.2 = true then (if (t.1.length : Int) = 8 then intrusionref06_parse6.j2 k t.1 else some (false, 0, 0, false)) else some (false, 0, 0, false)) (fun k => if_pos hi) ?_
    refine Ev.bind (rgroups_ev s hs) ?_
    unfold p6 grpsV
    rw [hcut, if_neg Bool.false_ne_true]
    cases h : grps s.data.toList with
    | none => exact Ev.now _
    | some x =>
      have hb := (grps_b h).1
      dsimp only
      by_cases h8 : x.length = 8
      · rw [if_pos h8]
        refine Ev.step (fun k => ?_) (rfold x h8 hb _ 0 rfl (by omega))
        rw [if_pos rfl, if_pos (by rw [natI_len]; omega), intrusionref06_parse6.j2]
        rfl
      · rw [if_neg h8]
        refine Ev.congr (f := fun _ => some (false, 0, 0, false)) (fun k => ?_) (Ev.now _)
        rw [if_pos rfl, if_neg (by rw [natI_len]; omega)]
  · obtain ⟨n, hn⟩ : ∃ n : Nat, Lib.index s.data.toList [58, 58] = (n : Int) := ⟨(Lib.index s.data.toList [58, 58]).toNat, by omega⟩
    have hroom := Lib.index_room s.data.toList [58, 58] (by omega)
    rw [hn] at hroom
    simp only [List.length_cons, List.length_nil] at hroom
    have hcut : Lib.cut s.data.toList [58, 58] = (s.data.toList.take n, s.data.toList.drop (n + 2), true) := by
      unfold Lib.cut
      rw [if_pos (by omega), hn]
      rfl
    have ex1 : s.extract 0 n = mkB (s.data.toList.take n) := extract_mk s 0 n
    have ex2 : s.extract (n + 2) s.size = mkB (s.data.toList.drop (n + 2)) := by
      rw [extract_mk, List.take_of_length_le (by rw [List.length_drop, size_list]; omega)]
    obtain ⟨K1, e1⟩ := rgroups_ev (mkB (s.data.toList.take n)) (by rw [mkB_list, List.length_take]; omega)
    obtain ⟨K2, e2⟩ := rgroups_ev (mkB (s.data.toList.drop (n + 2))) (by rw [mkB_list, List.length_drop]; omega)
    rw [mkB_list] at e1 e2
    have hw : wrap64 ((n : Int) + 2) = ((n + 2 : Nat) : Int) := by rw [wid (by omega) (by omega)]; omega
    have main : ∃ K, ∀ k, K ≤ k → (if (grpsV (s.data.toList.take n)).2 = true then (if (grpsV (s.data.toList.drop (n + 2))).2 = true then (intrusionref06_parse6.j0 k (grpsV (s.data.toList.take n)).1 (grpsV (s.data.toList.drop (n + 2))).1 (decide ((wrap64 (((grpsV (s.data.toList.take n)).1.length : Int) + ((grpsV (s.data.toList.drop (n + 2))).1.length : Int))) > 7))) else (intrusionref06_parse6.j0 k (grpsV (s.data.toList.take n)).1 (grpsV (s.data.toList.drop (n + 2))).1 true)) else (intrusionref06_parse6.j0 k (grpsV (s.data.toList.take n)).1 (grpsV (s.data.toList.drop (n + 2))).1 true)) = some (r6 (p6 s.data.toList)) := by
      have fail : ∀ (a b : List Int) (k : Nat), 1 ≤ k → intrusionref06_parse6.j0 k a b true = some (false, 0, 0, false) := fun a b k hk => by
        obtain ⟨m, rfl⟩ : ∃ m, k = m + 1 := ⟨k - 1, by omega⟩
        rw [intrusionref06_parse6.j0, if_pos rfl]
      have hp6 : p6 s.data.toList = (match grps (s.data.toList.take n), grps (s.data.toList.drop (n + 2)) with | some x, some y => if x.length + y.length ≤ 7 then some (padN x y) else none | _, _ => none) := by
        unfold p6
        rw [hcut]
        exact if_pos rfl
      rw [hp6]
      unfold grpsV
      cases h1 : grps (s.data.toList.take n) with
      | none =>
        refine ⟨1, fun k hk => ?_⟩
        dsimp only
        rw [if_neg Bool.false_ne_true, fail _ _ k hk]
        rfl
      | some x =>
        cases h2 : grps (s.data.toList.drop (n + 2)) with
        | none =>
          refine ⟨1, fun k hk => ?_⟩
          dsimp only
          rw [if_pos rfl, if_neg Bool.false_ne_true, fail _ _ k hk]
          rfl
        | some y =>
          have hx := grps_b h1
          have hy := grps_b h2
          have hx2 := hx.2
          have hy2 := hy.2
          rw [List.length_take] at hx2
          rw [List.length_drop] at hy2
          dsimp only
          by_cases h7 : x.length + y.length ≤ 7
          · obtain ⟨K, e⟩ := rpad _ x y rfl (by omega) hx.1 hy.1
            refine ⟨K + 1, fun k hk => ?_⟩
            obtain ⟨m, rfl⟩ : ∃ m, k = m + 1 := ⟨k - 1, by omega⟩
            have hdec := dec7_f h7
            have f := e m (by omega)
            dsimp only at f
            rw [hdec, if_pos rfl, if_pos rfl, intrusionref06_parse6.j0, if_neg Bool.false_ne_true, f, if_pos h7]
            rfl
          · refine ⟨1, fun k hk => ?_⟩
            have hdec := dec7_t (Nat.lt_of_not_le h7) (show x.length + y.length ≤ 300 by omega)
            rw [hdec, if_pos rfl, if_pos rfl, fail _ _ k hk, if_neg h7]
            rfl
    obtain ⟨K3, e3⟩ := main
    refine ⟨K1 + K2 + K3, fun k hk => ?_⟩
    have f1 := e1 k (by omega)
    have f2 := e2 k (by omega)
    have f3 := e3 k (by omega)
    dsimp only at f1 f2 ⊢
    rw [hn, if_neg (by omega), if_pos (by omega), if_pos (by rw [size_list]; omega), Int.toNat_natCast, ex1, f1, Option.bind_some, hw, if_pos (by omega), if_pos (by rw [size_list]; omega), Int.toNat_natCast, ex2, f2, Option.bind_some]
    exact f3
def parsePV (l : List UInt8) : Bool × Int × Int × Int :=
  if 64 < l.length then (false, 0, 0, 3) else match p4 l with
    | some v => (false, 0, (v : Int), 0)
    | none => match p6 l with
      | some M => (true, ((foldN (M.take 4) : Nat) : Int), ((foldN (M.drop 4) : Nat) : Int), 0)
      | none => (false, 0, 0, 2)
theorem aparse_ev (s : ByteArray) : Ev (fun k => address_Parse.f k s) (parsePV s.data.toList) := by
  unfold address_Parse.f parsePV
  by_cases h : 64 < s.data.toList.length
  · rw [if_pos h]
    exact Ev.congr (f := fun _ => some (false, 0, 0, 3)) (fun k => if_pos (by rw [size_list]; omega)) (Ev.now _)
  · rw [if_neg h]
    refine Ev.congr (fun k => if_neg (by rw [size_list]; omega)) ?_
    refine Ev.bind (aparse4_ev s (by omega)) ?_
    cases p4 s.data.toList with
    | some v => exact Ev.now _
    | none =>
      refine Ev.congr (fun k => if_neg Bool.false_ne_true) ?_
      refine Ev.bind (aparse6_ev s (by omega)) ?_
      cases p6 s.data.toList with
      | some M => exact Ev.now _
      | none => exact Ev.now _
theorem rparse_ev (s : ByteArray) : Ev (fun k => intrusionref06_Parse.f k s) (parsePV s.data.toList) := by
  unfold intrusionref06_Parse.f parsePV
  by_cases h : 64 < s.data.toList.length
  · rw [if_pos h]
    exact Ev.congr (f := fun _ => some (false, 0, 0, 3)) (fun k => if_pos (by rw [size_list]; omega)) (Ev.now _)
  · rw [if_neg h]
    refine Ev.congr (fun k => if_neg (by rw [size_list]; omega)) ?_
    refine Ev.bind (rparse4_ev s (by omega)) ?_
    cases p4 s.data.toList with
    | some v => exact Ev.now _
    | none =>
      refine Ev.congr (fun k => if_neg Bool.false_ne_true) ?_
      refine Ev.bind (rparse6_ev s (by omega)) ?_
      cases p6 s.data.toList with
      | some M => exact Ev.now _
      | none => exact Ev.now _
theorem foldO_lt : ∀ (L : List (List UInt8)) (n v : Nat), foldO L n = some v → v < (n + 1) * 256 ^ L.length
  | [], n, v, h => by
    rw [foldO] at h
    injection h with h
    simp
    omega
  | x :: t, n, v, h => by
    rw [foldO] at h
    cases hu : upTo x 255 with
    | none => rw [hu] at h; cases h
    | some u =>
      rw [hu] at h
      have hle := upTo_le hu
      have := foldO_lt t _ v h
      rw [List.length_cons, Nat.pow_succ]
      generalize 256 ^ t.length = p at *
      have e2 : (n + 1) * (p * 256) = (256 * n + 256) * p := by rw [Nat.mul_comm p 256, ← Nat.mul_assoc]; congr 1; omega
      have g2 : (n * 256 + u + 1) * p ≤ (256 * n + 256) * p := Nat.mul_le_mul_right _ (by omega)
      omega
theorem p4_lt {l : List UInt8} {v : Nat} (h : p4 l = some v) : v < 4294967296 := by
  unfold p4 at h
  split at h
  · rename_i h4
    have := foldO_lt _ _ _ h
    rw [h4] at this
    simpa using this
  · cases h
theorem p6_b {l : List UInt8} {M : List Nat} (h : p6 l = some M) : M.length = 8 ∧ ∀ x ∈ M, x < 65536 := by
  unfold p6 at h
  split at h
  · cases h1 : grps (Lib.cut l [58, 58]).1 with
    | none => rw [h1] at h; cases h
    | some x =>
      cases h2 : grps (Lib.cut l [58, 58]).2.1 with
      | none => rw [h1, h2] at h; cases h
      | some y =>
        rw [h1, h2] at h
        dsimp only at h
        split at h
        · injection h with h
          subst h
          exact ⟨padN_len x y (by omega), padN_b (grps_b h1).1 (grps_b h2).1⟩
        · cases h
  · cases h1 : grps l with
    | none => rw [h1] at h; cases h
    | some x =>
      rw [h1] at h
      dsimp only at h
      split at h
      · rename_i h8
        injection h with h
        subst h
        exact ⟨h8, (grps_b h1).1⟩
      · cases h
def parseA (l : List UInt8) : Ad := ⟨(parsePV l).1, (parsePV l).2.1, (parsePV l).2.2.1⟩
theorem foldN_all {M : List Nat} (hM : M.length = 4) (hb : ∀ x ∈ M, x < 65536) : foldN M < 18446744073709551616 := by
  have := foldN_lt hb 4 (by omega)
  rw [List.take_of_length_le (by omega)] at this
  exact this
theorem parse_aw (l : List UInt8) : AW (parseA l) := by
  unfold parseA parsePV
  split
  · exact ⟨by simp, by simp, by simp, by simp⟩
  · cases h4 : p4 l with
    | some v =>
      have := p4_lt h4
      exact ⟨by simp, by simp, by simp, by simp; omega⟩
    | none =>
      cases h6 : p6 l with
      | none => exact ⟨by simp, by simp, by simp, by simp⟩
      | some M =>
        have hb := p6_b h6
        have b1 := foldN_all (M := M.take 4) (by rw [List.length_take]; omega) (fun x hx => hb.2 x (List.mem_of_mem_take hx))
        have b2 := foldN_all (M := M.drop 4) (by rw [List.length_drop]; omega) (fun x hx => hb.2 x (List.mem_of_mem_drop hx))
        exact ⟨by simp, by simp; omega, by simp, by simp; omega⟩
theorem parse_e (l : List UInt8) (h : l.length ≤ 64) : (parsePV l).2.2.2 = 0 ∨ (parsePV l).2.2.2 = 2 := by
  unfold parsePV
  rw [if_neg (by omega)]
  cases p4 l with
  | some v => exact .inl rfl
  | none =>
    cases p6 l with
    | some M => exact .inl rfl
    | none => exact .inr rfl
theorem spl_ne (c : UInt8) (l cur : List UInt8) : spl c cur l ≠ [] := by
  obtain ⟨h, r, _, e⟩ := spl_cur c l cur
  rw [e]
  simp
theorem spl_cut (c : UInt8) : ∀ l : List UInt8, ∃ r, spl c [] l = (Lib.cut l [c]).1 :: r ∧ (r = [] ↔ (Lib.cut l [c]).2.2 = false) ∧ ((Lib.cut l [c]).2.2 = true → (Lib.cut l [c]).2.1 = l.drop ((Lib.cut l [c]).1.length + 1))
  | [] => by
    refine ⟨[], ?_, ?_, ?_⟩ <;> simp [spl, Lib.cut, Lib.index]
  | b :: l => by
    obtain ⟨r, e1, e2, e3⟩ := spl_cut c l
    by_cases hb : b = c
    · subst hb
      have e : Lib.index (b :: l) [b] = 0 := Lib.index_first (i := 0) (Nat.zero_le _) (by simp [Lib.occAt, List.isPrefixOf]) (fun _ h => absurd h (Nat.not_lt_zero _))
      have hcut : Lib.cut (b :: l) [b] = ([], l, true) := by
        unfold Lib.cut
        rw [e, if_pos (by omega)]
        rfl
      refine ⟨spl b [] l, ?_, ?_, ?_⟩
      · rw [hcut, spl, if_pos rfl]
      · rw [hcut]
        exact ⟨fun h => absurd h (spl_ne b l []), fun h => by cases h⟩
      · rw [hcut]
        intro _
        rfl
    · have hz : Lib.occAt (b :: l) [c] 0 = false := by
        unfold Lib.occAt
        simp [List.isPrefixOf]
        exact fun e => hb e.symm
      have hidx : Lib.index (b :: l) [c] = if Lib.index l [c] == -1 then -1 else Lib.index l [c] + 1 := by
        have := Lib.index_drop (s := b :: l) (sub := [c]) (i := 1) (fun j hj => by obtain rfl : j = 0 := (by omega); exact hz) (by simp)
        simpa using this
      have hge := Lib.index_ge l [c]
      have hcut : Lib.cut (b :: l) [c] = (b :: (Lib.cut l [c]).1, (Lib.cut l [c]).2.1, (Lib.cut l [c]).2.2) := by
        unfold Lib.cut
        rw [hidx]
        by_cases hi : (Lib.index l [c] == -1) = true
        · rw [if_pos hi]
          rw [beq_iff_eq] at hi
          rw [if_neg (by omega), if_neg (by omega)]
        · rw [if_neg hi]
          rw [beq_iff_eq] at hi
          rw [if_pos (by omega), if_pos (by omega), show (Lib.index l [c] + 1).toNat = (Lib.index l [c]).toNat + 1 from by omega]
          simp [Nat.add_right_comm]
      obtain ⟨h, r', g1, g2⟩ := spl_cur c l [b]
      rw [e1] at g1
      injection g1 with g3 g4
      subst g3 g4
      refine ⟨r, ?_, ?_, ?_⟩
      · rw [hcut, spl, if_neg hb, List.nil_append, g2]
        rfl
      · rw [hcut]; exact e2
      · rw [hcut]
        intro h
        rw [e3 h]
        rfl
def vpR (a : Ad) (b : Int) : Bool × Int × Int × Int × Int := if vpB a b = true then (a.f0, a.f1, a.f2, b, 0) else (false, 0, 0, 0, 2)
def parsePP (l : List UInt8) : Bool × Int × Int × Int × Int :=
  if 64 < l.length then (false, 0, 0, 0, 3)
  else if (parsePV (Lib.cut l [47]).1).2.2.2 = 0 then
    (if (Lib.cut l [47]).2.2 = true then (match decL (Lib.cut l [47]).2.1 with
      | none => (false, 0, 0, 0, 2)
      | some v => if szA (parseA (Lib.cut l [47]).1).f0 < v then (false, 0, 0, 0, 4) else vpR (parseA (Lib.cut l [47]).1) (v : Int))
    else vpR (parseA (Lib.cut l [47]).1) ((szA (parseA (Lib.cut l [47]).1).f0 : Nat) : Int))
  else (false, 0, 0, 0, 2)
theorem cut1_len (l : List UInt8) (c : UInt8) : (Lib.cut l [c]).1.length ≤ l.length ∧ (Lib.cut l [c]).2.1.length ≤ l.length := by
  unfold Lib.cut
  split
  · simp only [List.length_take, List.length_drop]
    omega
  · simp
theorem apprefix_ev (s : ByteArray) : Ev (fun k => address_ParsePrefix.f k s) (parsePP s.data.toList) := by
  unfold address_ParsePrefix.f parsePP
  by_cases h : 64 < s.data.toList.length
  · rw [if_pos h]
    exact Ev.congr (f := fun _ => some (false, 0, 0, 0, 3)) (fun k => if_pos (by rw [size_list]; omega)) (Ev.now _)
  · rw [if_neg h]
    have hcut := cut_eq s ⟨#[47]⟩ (by rw [size_list]; omega)
    rw [show (⟨#[47]⟩ : ByteArray).data.toList = [47] from rfl] at hcut
    have hl := cut1_len s.data.toList 47
    obtain ⟨cc, hc⟩ : ∃ cc, Lib.cut s.data.toList [47] = cc := ⟨_, rfl⟩
    obtain ⟨c1, c2, c3⟩ := cc
    rw [hc] at hcut hl ⊢
    dsimp only at hcut hl ⊢
    have hp := aparse_ev (mkB c1)
    rw [mkB_list] at hp
    have haw := parse_aw c1
    refine Ev.congr (f := fun k => (address_Parse.f k (mkB c1)).bind _) (fun k => by rw [if_neg (by rw [size_list]; omega), hcut, Option.bind_some]) ?_
    refine Ev.bind hp ?_
    by_cases he : (parsePV c1).2.2.2 = 0
    · rw [if_pos he]
      have hsz : address_size.f (parsePV c1).1 (parsePV c1).2.1 (parsePV c1).2.2.1 = some ((szA (parseA c1).f0 : Nat) : Int) := size_eq (parseA c1)
      have hvp : ∀ b, address_ValidPrefix.f (parsePV c1).1 (parsePV c1).2.1 (parsePV c1).2.2.1 b = some (vpB (parseA c1) b) := fun b => vp_eq haw b
      refine Ev.congr (fun k => by rw [if_pos he, hsz, Option.bind_some]) ?_
      cases c3
      · refine Ev.congr (f := fun _ => some (vpR (parseA c1) ((szA (parseA c1).f0 : Nat) : Int))) (fun k => ?_) (Ev.now _)
        rw [if_neg Bool.false_ne_true, hvp, Option.bind_some]
        unfold vpR
        cases vpB (parseA c1) ((szA (parseA c1).f0 : Nat) : Int) <;> rfl
      · have hd := dig_ev (mkB c2) (by rw [mkB_list]; omega)
        rw [mkB_list] at hd
        refine Ev.congr (fun k => if_pos rfl) ?_
        refine Ev.bind hd ?_
        rw [if_pos rfl]
        have hs128 := szA_le (parseA c1).f0
        unfold digV
        cases hdec : decL c2 with
        | none => exact Ev.now _
        | some v =>
          dsimp only
          by_cases hv : szA (parseA c1).f0 < v
          · rw [if_pos hv]
            refine Ev.congr (f := fun _ => some (false, 0, 0, 0, 4)) (fun k => ?_) (Ev.now _)
            rw [if_pos rfl, Option.bind_some, if_pos (by omega)]
          · rw [if_neg hv]
            refine Ev.congr (f := fun _ => some (vpR (parseA c1) (v : Int))) (fun k => ?_) (Ev.now _)
            rw [if_pos rfl, Option.bind_some, if_neg (by omega), show ((min v 1000 : Nat) : Int) = (v : Int) from by omega, hvp, Option.bind_some]
            unfold vpR
            cases vpB (parseA c1) (v : Int) <;> rfl
    · rw [if_neg he]
      exact Ev.congr (f := fun _ => some (false, 0, 0, 0, 2)) (fun k => if_neg he) (Ev.now _)
theorem rpp_j0 {a : Ad} (h : AW a) (b : Int) (h1 : b ≠ -1) (h2 : b ≠ -2) : Ev (fun k => intrusionref06_ParsePrefix.j0 k b a.f0 a.f1 a.f2) (vpR a b) := by
  refine Ev.step (f := fun k => (intrusionref06_ValidPrefix.f k a.f0 a.f1 a.f2 b).bind fun t => if t = true then some (a.f0, a.f1, a.f2, b, 0) else some (false, 0, 0, 0, 2)) (fun k => ?_) ?_
  · rw [intrusionref06_ParsePrefix.j0, if_neg h1, if_neg h2]
  · refine Ev.bind (rvp_ev h b) ?_
    unfold vpR
    cases vpB a b
    · exact Ev.now _
    · exact Ev.now _
theorem rpprefix_ev (s : ByteArray) : Ev (fun k => intrusionref06_ParsePrefix.f k s) (parsePP s.data.toList) := by
  unfold intrusionref06_ParsePrefix.f parsePP
  by_cases h : 64 < s.data.toList.length
  · rw [if_pos h]
    exact Ev.congr (f := fun _ => some (false, 0, 0, 0, 3)) (fun k => if_pos (by rw [size_list]; omega)) (Ev.now _)
  · rw [if_neg h]
    refine Ev.congr (f := fun k => (intrusionref06_Split.f k s 47).bind _) (fun k => if_neg (by rw [size_list]; omega)) ?_
    refine Ev.bind (rsplit_ev s 47 (by omega)) ?_
    obtain ⟨r, e1, e2, e3⟩ := spl_cut 47 s.data.toList
    have hl := cut1_len s.data.toList 47
    rw [e1]
    obtain ⟨cc, hc⟩ : ∃ cc, Lib.cut s.data.toList [47] = cc := ⟨_, rfl⟩
    obtain ⟨c1, c2, c3⟩ := cc
    rw [hc] at e1 e2 e3 hl ⊢
    dsimp only at e1 e2 e3 hl ⊢
    have hp := rparse_ev (mkB c1)
    rw [mkB_list] at hp
    have haw := parse_aw c1
    have hr0 : rdOf ByteArray.empty ((c1 :: r).map mkB) 0 = mkB c1 := rdOf_mk (c1 :: r) 0 (by simp)
    have hlen : (((c1 :: r).map mkB).length : Int) = (r.length : Int) + 1 := by rw [List.length_map, List.length_cons]; omega
    refine Ev.congr (f := fun k => (intrusionref06_Parse.f k (mkB c1)).bind _) (fun k => by rw [if_pos (by rw [hlen]; omega), hr0]) ?_
    refine Ev.bind hp ?_
    by_cases he : (parsePV c1).2.2.2 = 0
    · rw [if_pos he]
      have hsz : intrusionref06_Width.f (parsePV c1).1 (parsePV c1).2.1 (parsePV c1).2.2.1 = some ((szA (parseA c1).f0 : Nat) : Int) := width_eq (parseA c1)
      have hs128 := szA_le (parseA c1).f0
      refine Ev.congr (fun k => by rw [if_pos he, hsz, Option.bind_some]) ?_
      cases c3
      · have hr : r = [] := e2.2 rfl
        rw [if_neg Bool.false_ne_true]
        refine Ev.congr (fun k => by rw [if_neg (by rw [hlen, hr]; simp)]) ?_
        exact rpp_j0 haw _ (by omega) (by omega)
      · have hr : r ≠ [] := fun e => by have := e2.1 e; cases this
        have hrl := List.length_pos_iff.2 hr
        have h2 := e3 rfl
        have hw : wrap64 (((mkB c1).size : Int) + 1) = ((c1.length + 1 : Nat) : Int) := by rw [size_list, mkB_list, wid (by omega) (by omega)]; omega
        have hroom : c1.length + 1 ≤ s.data.toList.length := by
          have := congrArg (·.1.length) hc
          have h0 : 0 ≤ Lib.index s.data.toList [47] := by
            by_cases h : 0 ≤ Lib.index s.data.toList [47]
            · exact h
            · unfold Lib.cut at hc
              rw [if_neg h] at hc
              injection hc with _ hc
              injection hc with _ hc
              cases hc
          have hroom := Lib.index_room s.data.toList [47] h0
          unfold Lib.cut at hc
          rw [if_pos h0] at hc
          injection hc with hc _
          rw [← hc, List.length_take]
          simp only [List.length_cons, List.length_nil] at hroom
          omega
        have hex : s.extract (c1.length + 1) s.size = mkB c2 := by
          rw [extract_mk, h2, List.take_of_length_le (by rw [List.length_drop, size_list]; omega)]
        have hd := rdec_ev (mkB c2) (szA (parseA c1).f0) (by omega) (by rw [mkB_list]; omega)
        rw [mkB_list] at hd
        rw [if_pos rfl]
        refine Ev.congr (f := fun k => (intrusionref06_Decimal.f k (mkB c2) ((szA (parseA c1).f0 : Nat) : Int)).bind fun t => intrusionref06_ParsePrefix.j0 k t (parsePV c1).1 (parsePV c1).2.1 (parsePV c1).2.2.1) (fun k => ?_) ?_
        · rw [if_pos (by rw [hlen]; omega), hw, if_pos (by omega), if_pos (by rw [size_list]; omega), Option.bind_some, Int.toNat_natCast, hex]
        · refine Ev.bind hd ?_
          unfold decR
          cases hdec : decL c2 with
          | none =>
            refine Ev.step (f := fun _ => some (false, 0, 0, 0, 2)) (fun k => ?_) (Ev.now _)
            rw [intrusionref06_ParsePrefix.j0, if_pos rfl]
          | some v =>
            dsimp only
            by_cases hv : szA (parseA c1).f0 < v
            · rw [if_pos hv, if_neg (by omega)]
              refine Ev.step (f := fun _ => some (false, 0, 0, 0, 4)) (fun k => ?_) (Ev.now _)
              rw [intrusionref06_ParsePrefix.j0, if_neg (by decide), if_pos rfl]
            · rw [if_neg hv, if_pos (by omega)]
              exact rpp_j0 haw (v : Int) (by omega) (by omega)
    · rw [if_neg he]
      have h2 : (parsePV c1).2.2.2 = 2 := by
        rcases parse_e c1 (by omega) with h | h
        · exact absurd h he
        · exact h
      refine Ev.congr (f := fun _ => some (false, 0, 0, 0, 2)) (fun k => ?_) (Ev.now _)
      rw [if_neg he, h2]
end Go.Proofs.YtlgfinnldhjgeaaDoor.Q
end

section
set_option linter.unusedVariables false
set_option linter.unusedSimpArgs false
namespace Go.Proofs.YtlgfinnldhjgeaaDoor.Pure
open Go.RowKit Go.Proofs.YtlgfinnldhjgeaaDoor.Q Go.Proofs.YtlgfinnldhjgeaaDoorW.PrintWords Go.Proofs.YtlgfinnldhjgeaaDoorW.PrintLast
theorem AddressParses : ∀ (a0 : ByteArray), a0.size ≤ 140737488351232 → ∃ k, intrusionlaw06_AddressParses.f k a0 = some true := by
  intro s _
  unfold intrusionlaw06_AddressParses.f
  by_cases h80 : (s.size : Int) > 80
  · exact ⟨0, by rw [if_pos h80]; rfl⟩
  · obtain ⟨K1, e1⟩ := aparse_ev s
    obtain ⟨K2, e2⟩ := rparse_ev s
    obtain ⟨K3, e3⟩ := apprefix_ev s
    obtain ⟨K4, e4⟩ := rpprefix_ev s
    refine ⟨K1 + K2 + K3 + K4, ?_⟩
    have f1 := e1 (K1 + K2 + K3 + K4) (by omega)
    have f2 := e2 (K1 + K2 + K3 + K4) (by omega)
    have f3 := e3 (K1 + K2 + K3 + K4) (by omega)
    have f4 := e4 (K1 + K2 + K3 + K4) (by omega)
    dsimp only at f1 f2 f3 f4
    rw [if_neg h80, f1, Option.bind_some, f2, Option.bind_some, f3, Option.bind_some, f4, Option.bind_some]
    simp [intrusionlaw06_lives.f]
end Go.Proofs.YtlgfinnldhjgeaaDoor.Pure
end

section
set_option linter.unusedVariables false
namespace Go.Proofs.YtlgfinnldhjgeaaDoor.Q
open Go.RowKit
theorem returns_laid {H : Type} {enc : TypeId × Value → H} {a : Assume} {C : Checked} {os : Os} {f : FuncId} {fn : Func} {s : ChangeSpec} {conds : List PathCond} {apart fresh handsOn again : Bool} {X : World → Array Value → Prop}
    (hX : ∀ (w w' : World) (args : Array Value), w.heap = w'.heap → X w args → X w' args)
    (own : ownKnob C.prog.godebug = none) (started : os.Started) (noInit : C.prog.inits.idxOf? f = none) (hfn : C.prog.funcs[f]? = some fn)
    (witness : ∃ (w : World) (tape : Tape) (i : Input), w.os = os ∧ (w.forCall tape i).Shaped C.prog ∧ i.vars = [] ∧ Input.okWide C.prog (w.forCall tape i) .any w.heap.size f i ∧
      ((s.pre enc C.prog fn conds apart (w.forCall tape i).memory i.args ∧ X (w.forCall tape i).memory i.args) ∧ sizedMet enc C.prog fn (OpenSpec.ofChange s) apart (w.forCall tape i).memory i.args) ∧ a.holds C.prog (lone (Frame.enter C.prog f i.args .normal) [] (w.forCall tape i)))
    (contract : ∀ (W : World) (base : Nat) (args : Array Value) (ds gs : List (DataW H)) (before : List MemPlace),
      (∀ (j : Nat) t v, fn.params[j]? = some t → args[j]? = some v → Value.okWide C.prog W .any base t v) →
      DataW.Whole enc C.prog fn.params.toList s.vars apart W args.toList ds gs before →
      conds.all (PathCond.test C.prog ⟨fn.params.toList, ds, s.plain.varTypes C.prog, gs⟩) = true →
      (DataW.weightsEach C.prog (fn.params.toList ++ s.plain.varTypes C.prog) (ds ++ gs)).all (· ≤ reachBytes) = true → X W args → W.ShapedOpen C.prog →
      a.holds C.prog (lone (Frame.enter C.prog f args .normal) [] W) →
      Calls C.prog f args W fun e W' => ∃ v, e = .returned v ∧ s.post enc C.prog fn apart fresh handsOn again W args v W') :
    ReturnsInHanded a C os f .any (fun w args => (s.pre enc C.prog fn conds apart w args ∧ X w args) ∧ sizedMet enc C.prog fn (OpenSpec.ofChange s) apart w args) (s.post enc C.prog fn apart fresh handsOn again) := by
  refine returnsInHanded_of_calls own started noInit witness ?_
  intro w tape i _ hsh _ hok hpre hholds
  obtain ⟨_, _, _, fn', hfn', _, _, _, _, hval⟩ := hok
  have e : fn' = fn := Option.some.inj (hfn'.symm.trans hfn)
  subst e
  obtain ⟨⟨⟨ds, gs, before, hw, hc⟩, hx⟩, hz⟩ := hpre
  have hw' := DataW.Whole.of_heap (w' := w.forCall tape i) (by rfl) hw
  refine (contract (w.forCall tape i) w.heap.size i.args ds gs before hval hw' hc (hz.weights hw) (hX _ _ _ (by rfl) hx) hsh hholds).mono fun e W' ⟨v, he, hp⟩ => ?_
  subst he
  exact ChangeSpec.post_blind hp
theorem laidVars_at {P : Program} {W : World} : ∀ {laid : List (String × DataW Unit)} {ps : List MemPlace}, DataW.LaidVars P W laid ps → ∀ (i : Nat) (n : String) (d : DataW Unit), laid[i]? = some (n, d) →
    ∃ g t cs fuel p, P.globalNamed n = some g ∧ (P.globals[g]?).map (·.type) = some t ∧ W.var? P n = some cs ∧ DataW.trod (fun _ => ()) P W 0 (fun _ => true) false fuel t cs.toList = some (d, p)
  | [], _, _, i, _, _, h => by simp at h
  | (m, c) :: r, ps, h, i, n, d, hi => by
    obtain ⟨g, t, cs, fuel, p, q, h1, h2, h3, h4, h5, _⟩ := h
    cases i with
    | zero =>
      simp only [List.getElem?_cons_zero, Option.some.injEq, Prod.mk.injEq] at hi
      obtain ⟨rfl, rfl⟩ := hi
      exact ⟨g, t, cs, fuel, p, h1, h2, h3, h4⟩
    | succ j => exact laidVars_at h5 j n d (by simpa using hi)
theorem tabIs_at {P : Program} {W : World} {laid : List (String × DataW Unit)} {name : String} {k : IntKind} {zs : List Int} {g : Nat} {t e : TypeId} {n : Nat} (i : Nat) (hi : laid[i]? = some (name, Lib.tabData k zs))
    (hg : P.globalNamed name = some g) (hty : (P.globals[g]?).map (·.type) = some t) (ht : P.underlying t = some (.array n e)) (he : P.underlying e = some (.int k)) (hce : P.cellsOf e = 1) (hct : P.cellsOf t = n)
    (h : laidMet P laid W) : Lib.TabIs P W name k zs := by
  obtain ⟨ps, h, _⟩ := h
  obtain ⟨g', t', cs, fuel, p, hg', ht', hvar, hd⟩ := laidVars_at h i _ _ hi
  obtain rfl := Option.some.inj (hg.symm.trans hg')
  obtain rfl := Option.some.inj (hty.symm.trans ht')
  unfold Lib.TabIs
  rw [hvar, ← Lib.cells_of_tab ht he hce hct hd]
def laidL : List (String × DataW Unit) := [("math/bits.deBruijn32tab", Rows.laid_math_bits_deBruijn32tab), ("math/bits.deBruijn64tab", Rows.laid_math_bits_deBruijn64tab), ("internal/strconv.uint64pow10", Rows.laid_internal_strconv_uint64pow10), ("unicode/utf8.acceptRanges", Rows.laid_unicode_utf8_acceptRanges), ("unicode/utf8.first", Rows.laid_unicode_utf8_first)]
theorem wok_of {W : World} (h : laidMetH Tryd.prog laidL W) (hs : W.ShapedOpen Tryd.prog) : WOK W := by
  rw [MakeChecks.laidMetH_plain _ _ _ (by kernel_rfl)] at h
  refine ⟨?_, ?_, ?_⟩
  · exact cell_of_shapedOpen_int (t := 3) (zero := #[.int .i64 0]) hs (by decide +kernel) (by kernel_rfl) (by kernel_rfl) (by kernel_rfl) (by kernel_rfl) Tryd.underlying3
  · exact tabIs_at (g := 1) (n := 20) 2 (by rfl) (by kernel_rfl) (t := 112) (by kernel_rfl) (by kernel_rfl) (e := 23) Tryd.underlying23 (by kernel_rfl) (by kernel_rfl) h
  · have hb : Lib.TabIs Tryd.prog W "math/bits.deBruijn64tab" .u8 (Lib.deBruijn64tab.map Int.ofNat) := tabIs_at (g := 3) (n := 64) 1 (by rfl) (by kernel_rfl) (t := 123) (by kernel_rfl) (by kernel_rfl) (e := 5) Tryd.underlying5 (by kernel_rfl) (by kernel_rfl) h
    intro j hj
    have h2 := hb.cell (g := 3) (by kernel_rfl) j (by rw [List.length_map]; exact hj)
    rw [h2, List.getD, List.getD, List.getElem?_map, List.getElem?_eq_getElem hj]
    rfl
set_option maxRecDepth 100000 in
theorem laid_world (os : Os) (args : Array Value) : laidMetH Tryd.prog laidL ((World.laidAll Tryd.prog os laidL).forCall (fun _ _ => 0) ⟨#[], args, []⟩).memory := by
  rw [MakeChecks.laidMetH_plain _ _ _ (by kernel_rfl)]
  exact laidMet_laidAll _ (by kernel_rfl) (by kernel_rfl)
end Go.Proofs.YtlgfinnldhjgeaaDoor.Q
end

section
namespace Go.Proofs.YtlgfinnldhjgeaaDoor.addressParses
open Go.ChangeShapes Go.WideShapes Go.ChangeAt Go.RowKit Go.Proofs.YtlgfinnldhjgeaaDoorW.PrintWords Go.Proofs.YtlgfinnldhjgeaaDoor.Q
open Go.ChangeMaps (open_string shut_string)
set_option linter.unusedVariables false
theorem own : ownKnob Tryd.prog.godebug = none := by kernel_rfl
set_option maxRecDepth 100000 in
theorem lifted (os : Os) (started : os.Started) (H : Type) (enc : TypeId × Value → H) :
    ReturnsInHanded {} Tryd.checked os 3 .any (fun w args => (Rows.addressParsesSpec.pre enc Tryd.prog Tryd.f3 Rows.addressParsesRow.domain false w args ∧ laidMetH Tryd.prog laidL w) ∧ sizedMet enc Tryd.prog Tryd.f3 (OpenSpec.ofChange Rows.addressParsesSpec) false w args) (Rows.addressParsesSpec.post enc Tryd.prog Tryd.f3 false true false false) := by
  refine returns_laid (C := Tryd.checked) (X := (fun w _ => laidMetH Tryd.prog laidL w)) (fun _ _ _ hh h => h.of_heap hh) own started (by kernel_rfl) Tryd.func3
    (ChangeSpec.witness_shaped (enc := enc) (C := Tryd.checked) (os := os) (X := (fun w _ => laidMetH Tryd.prog laidL w)) false (World.laidAll Tryd.prog os laidL) #[.string ByteArray.empty] 8 (World.laidAll_os _ _ _)
      (World.shaped_of_ZipB (by kernel_rfl) (by kernel_rfl)) (by kernel_rfl) (by kernel_rfl) (by kernel_rfl) (laid_world os _)) ?_
  intro W base args ds gs before hval0 hW hcnd hsz0 hL hsh _
  have hWok := wok_of hL hsh
  have hsz : (DataW.weightsEach Tryd.prog (Tryd.f3.params.toList ++ Rows.addressParsesSpec.plain.varTypes Tryd.prog) (ds ++ gs)).all (· ≤ reachBytes) = true := hsz0
  have hval : ∀ (j : Nat) t v, Tryd.f3.params[j]? = some t → args[j]? = some v → Value.okWide Tryd.prog W .any base t v := hval0
  have hW' := hW
  obtain ⟨p, q, hA0, hV, rfl, hfz, hnd⟩ := hW
  have hA : DataW.TrodAll enc Tryd.prog W 0 (fun _ => true) true Tryd.f3.params.toList args.toList ds p := hA0
  rw [Tryd.params3] at hA hval hsz
  obtain ⟨v0, vs0, d0, ds0, p0, q0, hargs, rfl, rfl, h0, r0⟩ := trodAll_cons hA
  obtain ⟨rfl, rfl, rfl⟩ := trodAll_nil r0
  obtain rfl : args = #[v0] := by cases args; simp_all
  obtain ⟨rfl, rfl⟩ := trodVars_none hV
  obtain ⟨a0, rfl, rfl, rfl, y0⟩ := open_string Tryd.underlying9 (hval 0 9 v0 rfl rfl) h0
  have w0 : a0.size ≤ 140737488351232 := by
    have z := sized_string hsz (j := 0) (t := 9) rfl rfl
    rw [Array.length_toList] at z
    exact z
  clear hA0 hval0 hsz0 hsz
  obtain ⟨k, hk⟩ := Pure.AddressParses a0 w0
  refine (intrusionlaw06_AddressParses.calls k a0 true W  hk hWok).mono fun e W' he => ?_
  obtain ⟨rfl, bel⟩ := he
  exact ⟨_, rfl, _, _, _, [], _, [], hW', trodAll_mk1 (shut_bool Tryd.underlying4 _), (trodAll_cons_mk (shut_string Tryd.underlying9 y0) trodAll_mk0), rfl, bel.frame _, fun h => by cases h⟩
theorem over : Rows.addressParsesRow.holds Tryd.pinned (OpenSpec.ofChange Rows.addressParsesSpec) :=
  OpenClaim.holds_of_wide 3 Tryd.f3 rfl rfl rfl rfl rfl rfl rfl ⟨rfl, rfl, rfl, rfl, rfl⟩ rfl rfl rfl rfl rfl (by kernel_rfl) Tryd.func3 (by kernel_rfl)
    (of_decide_eq_true (by kernel_rfl)) (by unfold Func.isWrapper; first | (rw [if_pos (by decide +kernel)]; kernel_rfl) | (rw [if_neg (by decide +kernel)]; exact ⟨rfl, rfl⟩))
    (fun os started H enc _ => lifted os started H enc)
theorem card : Rows.AddressParsesCardSaid :=
  Claim7.holds_tied_plain_at .later [] [.data, .data, .data, .data, .pinned] true (true, "a4caf97771cecc6370fff57cddc3aa8f525d50a87a13146298f7be9fbc5a6ea2") false over (fun _ h => by cases h) (by kernel_rfl) (fun _ h => by cases h) addressParses_row_tie rfl ⟨rfl, rfl⟩ (by kernel_rfl) rfl
    (fun f fn hf hfn => by
      obtain rfl : f = 3 := Option.some.inj ((show Tryd.prog.funcNamed "intrusion/intrusionlaw06.AddressParses" = some 3 by kernel_rfl).symm.trans hf) |>.symm
      obtain rfl : fn = Tryd.f3 := (Option.some.inj (Tryd.func3.symm.trans hfn)).symm
      exact ⟨by kernel_rfl, fun j t ht => by
        rw [Tryd.params3] at ht
        have hm : t ∈ [9] := by simpa using Array.mem_of_getElem? ht
        have hall : ([9].all fun u => !Tryd.prog.wantsStandIn u) = true := by kernel_rfl
        exact (show Tryd.prog.wantsStandIn t = false by simpa using List.all_eq_true.1 hall t hm)⟩)
    (by kernel_rfl)
#print axioms card
end Go.Proofs.YtlgfinnldhjgeaaDoor.addressParses
namespace Go.Proofs.YtlgfinnldhjgeaaDoor
theorem addressParses_holds : Rows.AddressParsesCardSaid := addressParses.card
end Go.Proofs.YtlgfinnldhjgeaaDoor
end
