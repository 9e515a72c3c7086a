/- The law AddressSteps answers true for every input and leaves its arguments as they were. No condition. (Part 3 of 3: the kit's printed words and walks, hand-made contracts and plain laws, joined in build order, without what the theorem does not reach.) -/
import Derived.Deep.Slices
import Derived.ChangeArms
import Derived.WideShapes
import Derived.DataElems
import Derived.Lib.AppendIntMem
import Derived.IntWalk
import Derived.Test.YtlgfinnldhjgeaaDoorRows
import Derived.ProofKit
import Derived.OpenShut
import Derived.LaidMore
import Derived.Lay
import Derived.SevenTiedAt
import Derived.Stop.Joined
import Derived.Lib.LaidTab
import Derived.Shelf.Vars
import Derived.HandedShaped
import Derived.WalkKit
import Derived.ShutString
import Derived.ChangeOld
import Derived.Below
import Derived.SizedLaws
import Derived.Carry
import Derived.Test.YtlgfinnldhjgeaaDoorTie
import Derived.Test.YtlgfinnldhjgeaaDoorCards
import Derived.Test.YtlgfinnldhjgeaaDoorGAddressSteps2
section
set_option linter.unusedVariables false
set_option linter.unusedSimpArgs false
namespace Go.Proofs.YtlgfinnldhjgeaaDoor.Q
open Go.RowKit Go.Proofs.YtlgfinnldhjgeaaDoorW.PrintWords Go.Proofs.YtlgfinnldhjgeaaDoorW.PrintLast Go.Proofs.YtlgfinnldhjgeaaDoorW.PrintMore
def hexD (n : Nat) : UInt8 := [48, 49, 50, 51, 52, 53, 54, 55, 56, 57, 97, 98, 99, 100, 101, 102].getD n 0
def hexL : Nat → Nat → List UInt8
  | 0, _ => []
  | k + 1, n => if n < 16 then [hexD n] else hexL k (n / 16) ++ [hexD (n % 16)]
theorem pow2_16 (w : World) : Calls Tryd.prog 100 #[.int .i64 16] w fun e w' => e = .returned (.bool true) ∧ Below w.heap.size w w' := by
  go_enter Tryd.func100, Tryd.ntmps100
  go_wp2
  go_ret
  exact ⟨rfl, by repeat (first | (with_reducible apply below_alloc) | (with_reducible apply pw_below_drewN) | (with_reducible apply below_drew1) | exact Below.refl _ _)⟩
theorem tz16 (w : World) (hW : WOK w) : Calls Tryd.prog 101 #[.int .u64 16] w fun e w' => e = .returned (.int .i64 4) ∧ Below w.heap.size w w' := by
  have h := Tryd.bits_TrailingZeros 16 (by decide) w (fun _ => hW.bit)
  rw [show Lib.ctz 64 16 = 4 from by decide] at h
  refine h.mono ?_
  rintro e w' ⟨rfl, rfl⟩
  exact ⟨rfl, Below.refl _ _⟩
theorem bits_and15 (x : Nat) (hx : x < 18446744073709551616) : Go.bits .and .u64 (x : Int) 15 = ((x % 16 : Nat) : Int) := by
  have e : ∀ y : Nat, y < 18446744073709551616 → (BitVec.ofInt 64 (y : Int)).toNat = y := fun y hy => by rw [BitVec.toNat_ofInt]; simp; omega
  unfold Go.bits
  show IntKind.u64.wrap ((((BitVec.ofInt 64 (x : Int)) &&& (BitVec.ofInt 64 ((15 : Nat) : Int))).toNat : Nat) : Int) = _
  rw [BitVec.toNat_and, e x hx, e 15 (by decide), show (15 : Nat) = 2 ^ 4 - 1 from rfl, Nat.and_two_pow_sub_one_eq_mod]
  exact IntWalk.u64_in _ ⟨by omega, by have := Nat.mod_lt x (show 0 < 2 ^ 4 by decide); omega⟩
structure HexAt (w0 : World) (g : Nat) (n0 : Nat) (wr : World) (i u : Nat) : Prop where
  arr : ∃ cs : Array Value, wr.heap[g]? = some (.cells cs 114 (0, 0)) ∧ cs.size = 65 ∧ ∃ ds : List UInt8, cs.toList.drop i = ds.map (fun d => Value.int .u8 d.toNat) ∧ ds.length = 65 - i ∧ hexL 4 n0 = hexL (i - 61) u ++ ds
  lo : 62 ≤ i
  hi : i ≤ 65
  small : u < 16 ^ (i - 61)
  bel : Below w0.heap.size w0 wr
theorem drop_set_self {l : List Value} {j : Nat} (hj : j < l.length) (v : Value) : (l.set j v).drop j = v :: l.drop (j + 1) := by
  rw [List.drop_eq_getElem_cons (by simpa using hj), List.getElem_set_self, List.drop_set_of_lt (by omega)]
theorem HexAt.put {w0 wr : World} {g n0 j n : Nat} (h : HexAt w0 g n0 wr (j + 1) n) (hn : 16 ≤ n) (hg : w0.heap.size ≤ g) (dv : UInt8) (hd : dv = hexD (n % 16)) : HexAt w0 g n0 (wr.setCell ⟨g, j, none⟩ (.int .u8 dv.toNat)) j (n / 16) := by
  obtain ⟨⟨cs, hx, hs, ds, hd1, hd2, hd3⟩, hlo, hhi, hsm, hbl⟩ := h
  have hj : 62 ≤ j := by
    rcases Nat.lt_or_ge j 62 with h | h
    · rw [show j + 1 - 61 = 1 from by omega] at hsm; omega
    · exact h
  have hk : j + 1 - 61 = (j - 61) + 1 := by omega
  rw [hk] at hsm hd3
  refine ⟨⟨_, blk_set hx j _, by simpa using hs, dv :: ds, ?_, by simp; omega, ?_⟩, hj, by omega, ?_, hbl.setCell hg _⟩
  · rw [Array.toList_setIfInBounds, drop_set_self (by simpa using by omega), hd1]
    rfl
  · rw [hd3, hexL, if_neg (by omega), hd, List.append_assoc]
    rfl
  · rw [Nat.pow_succ] at hsm
    exact Nat.div_lt_of_lt_mul (by rw [Nat.mul_comm]; exact hsm)
theorem HexAt.last {w0 wr : World} {g n0 j n : Nat} (h : HexAt w0 g n0 wr (j + 1) n) (hn : n < 16) (hg : w0.heap.size ≤ g) (dv : UInt8) (hd : dv = hexD n) :
    Below w0.heap.size w0 (wr.setCell ⟨g, j, none⟩ (.int .u8 dv.toNat)) ∧ ∃ cs : Array Value, (wr.setCell ⟨g, j, none⟩ (.int .u8 dv.toNat)).heap[g]? = some (.cells cs 114 (0, 0)) ∧ cs.size = 65 ∧ cs.toList.drop j = (hexL 4 n0).map (fun d => Value.int .u8 d.toNat) := by
  obtain ⟨⟨cs, hx, hs, ds, hd1, hd2, hd3⟩, hlo, hhi, hsm, hbl⟩ := h
  refine ⟨hbl.setCell hg _, _, blk_set hx j _, by simpa using hs, ?_⟩
  rw [Array.toList_setIfInBounds, drop_set_self (by simpa using by omega), hd1, hd3, show j + 1 - 61 = (j - 61) + 1 from by omega, hexL, if_pos hn, hd]
  rfl
theorem digit_ix : ∀ d : Nat, d < 16 → ∀ h, (⟨#[48, 49, 50, 51, 52, 53, 54, 55, 56, 57, 97, 98, 99, 100, 101, 102, 103, 104, 105, 106, 107, 108, 109, 110, 111, 112, 113, 114, 115, 116, 117, 118, 119, 120, 121, 122]⟩ : ByteArray)[d]'h = hexD d := by decide
theorem digit_at (n : Nat) (h : (Go.bits .and .u64 (n : Int) 15).toNat < (⟨#[48, 49, 50, 51, 52, 53, 54, 55, 56, 57, 97, 98, 99, 100, 101, 102, 103, 104, 105, 106, 107, 108, 109, 110, 111, 112, 113, 114, 115, 116, 117, 118, 119, 120, 121, 122]⟩ : ByteArray).size) (hb : Go.bits .and .u64 (n : Int) 15 = ((n % 16 : Nat) : Int)) :
    (⟨#[48, 49, 50, 51, 52, 53, 54, 55, 56, 57, 97, 98, 99, 100, 101, 102, 103, 104, 105, 106, 107, 108, 109, 110, 111, 112, 113, 114, 115, 116, 117, 118, 119, 120, 121, 122]⟩ : ByteArray)[(Go.bits .and .u64 (n : Int) 15).toNat]'h = hexD (n % 16) := by
  have e : (Go.bits .and .u64 (n : Int) 15).toNat = n % 16 := by rw [hb]; exact Int.toNat_natCast _
  have hlt : n % 16 < 16 := Nat.mod_lt _ (by decide)
  have key : ∀ m (hm : m < (⟨#[48, 49, 50, 51, 52, 53, 54, 55, 56, 57, 97, 98, 99, 100, 101, 102, 103, 104, 105, 106, 107, 108, 109, 110, 111, 112, 113, 114, 115, 116, 117, 118, 119, 120, 121, 122]⟩ : ByteArray).size), m = n % 16 → (⟨#[48, 49, 50, 51, 52, 53, 54, 55, 56, 57, 97, 98, 99, 100, 101, 102, 103, 104, 105, 106, 107, 108, 109, 110, 111, 112, 113, 114, 115, 116, 117, 118, 119, 120, 121, 122]⟩ : ByteArray)[m]'hm = hexD (n % 16) := fun m hm e2 => by subst e2; exact digit_ix _ hlt _
  exact key _ h e
theorem hex_slice (ga j : Nat) (hj : j < 65) (h0 : 0 < j) : ∀ W, (Instr.sliceAt 114 (.pointer (some ⟨ga, 0, none⟩)) (some (.int .i64 (j : Int))) none none).run Tryd.prog W = .ok (.slice (some ⟨ga, j, none⟩) (65 - j) (65 - j)) W := fun W => by
  have hal : Tryd.prog.arrayLen 114 = 65 := by kernel_rfl
  rw [run_sliceAt_array_l W 114 ⟨ga, 0, none⟩ (by kernel_rfl) .i64 (j : Int) (by omega) (by rw [hal]; omega), hal]
  go_simp
  omega
theorem hex_string {W : World} {ga j : Nat} {cs : Array Value} {l : List UInt8} (hx : W.heap[ga]? = some (.cells cs 114 (0, 0))) (hs : cs.size = 65) (hd : cs.toList.drop j = l.map (fun d => Value.int .u8 d.toNat)) (hj : j < 65) :
    (convert 75 9 (.slice (some ⟨ga, j, none⟩) (65 - j) (65 - j))).run Tryd.prog W = .ok (.string ⟨l.toArray⟩) W := by
  have hlen : l.length = 65 - j := by
    have := congrArg List.length hd
    simp only [List.length_drop, List.length_map, Array.length_toList] at this
    omega
  have hr : ReadsInt W .u8 (some ⟨ga, j, none⟩) (65 - j) (l.map (fun d => (d.toNat : Int))) := by
    refine ⟨by simp [hlen], by omega, fun _ => ⟨_, rfl, fun i hi => ?_⟩⟩
    have e : (⟨ga, j, none⟩ : Addr).add i = ⟨ga, j + i, none⟩ := by
      unfold Addr.add
      by_cases h0 : i = 0
      · rw [if_pos h0, h0]; rfl
      · rw [if_neg h0]
    rw [e]
    unfold World.cell?
    simp only [hx]
    have h2 := congrArg (fun q => q[i]?) hd
    simp only [List.getElem?_drop, List.getElem?_map] at h2
    rw [List.getElem?_eq_getElem (show i < l.length from by omega)] at h2
    simp only [Option.isSome_none, Bool.false_eq_true, if_false]
    rw [← Array.getElem?_toList, h2]
    simp [List.getElem?_eq_getElem (show i < l.length from by omega)]
  have := string_of_reads (P := Tryd.prog) (src := 75) (dst := 9) (e := 5) (c := 65 - j) (by kernel_rfl) (by kernel_rfl) (by kernel_rfl) hr
  have e : strOfNums (l.map (fun d => (d.toNat : Int))) = ⟨l.toArray⟩ := by
    have h2 : ∀ l : List UInt8, (l.map (fun d => (d.toNat : Int))).map (fun n => UInt8.ofNat n.toNat) = l := fun l => by
      induction l with
      | nil => rfl
      | cons a t ih => simp only [List.map_cons, ih, Int.toNat_natCast, UInt8.ofNat_toNat]
    unfold strOfNums
    rw [h2]
  rw [this, e]
set_option maxHeartbeats 4000000 in
set_option maxRecDepth 100000 in
theorem formatBits16 (u : Nat) (hu : u < 65536) (w : World) (hW : WOK w) : Calls Tryd.prog 87 #[.slice none 0 0, .int .u64 (u : Int), .int .i64 16, .bool false, .bool false] w fun e w' => e = .returned (.tuple #[.slice none 0 0, .string ⟨(hexL 4 u).toArray⟩]) ∧ Below w.heap.size w w' := by
  have HW := Aside0.mk hW
  clear hW
  go_enter Tryd.func87, Tryd.ntmps87
  go_wp2_with fail
  refine (pow2_16 _).mono ?_
  rintro e w2 ⟨rfl, hb⟩
  have hX := blk_below (heap_alloc_new w (.cells Tryd.zeroCells114 114)) hb
  have hB := (below_alloc (Below.refl w.heap.size w) (.cells Tryd.zeroCells114 114)).trans (hb.mono (by simp))
  have HX := Aside0.mk hX
  have HB := Aside0.mk hB
  have hG : w.heap.size ≤ w.heap.size := Nat.le_refl _
  revert HX hG
  clear hb hX hB
  generalize hga : w.heap.size = ga
  intro HX hG
  have HG : Aside0 (w.heap.size ≤ ga) := ⟨by omega⟩
  clear hG
  go_wp2_with fail
  refine (tz16 _ (HW.out.below (hga ▸ HB.out))).mono ?_
  rintro e w3 ⟨rfl, hb⟩
  have HX3 := Aside0.mk (blk_below HX.out hb)
  have HB3 := Aside0.mk (HB.out.trans (hb.mono (HB.out.size)))
  clear hb HX HB
  clear hga
  have H0 : Aside0 (HexAt w ga u w3 65 u) := ⟨⟨⟨_, HX3.out, by rfl, [], by rfl, rfl, by simp⟩, by omega, by omega, by simpa using hu, HB3.out⟩⟩
  clear HX3 HB3
  go_wp2_with fail
  go_loopg [1, 13] 65 (fun gg v1 v13 wr => ∃ (i n : Nat), i ≤ gg ∧ v1 = .int .u64 (n : Int) ∧ v13 = .int .i64 (i : Int) ∧ Aside0 (HexAt w ga u wr i n))
  case atStart => exact ⟨65, u, by omega, rfl, rfl, H0⟩
  case round =>
    obtain ⟨i, n, hig, rfl, rfl, HA⟩ := hrel
    clear H0
    by_cases hn : 16 ≤ n
    · have hn1 : ((n : Int) ≥ 16) = True := eq_true (by omega)
      have hn2 : decide ((n : Int) ≥ 16) = true := decide_eq_true (by omega)
      have hA := HA.out
      obtain ⟨⟨cs, hx, hs, ds, hd1, hd2, hd3⟩, hlo, hhi, hsm, hbl⟩ := hA
      have hi2 : 63 ≤ i := by
        rcases Nat.lt_or_ge i 63 with h | h
        · rw [show i - 61 = 1 from by omega] at hsm; omega
        · exact h
      obtain ⟨j, rfl⟩ : ∃ j, i = j + 1 := ⟨i - 1, by omega⟩
      have hw1 : wrap64 (j : Int) = (j : Int) := by unfold wrap64; omega
      have hw0 : ((j + 1 : Nat) : Int) - 1 = (j : Int) := by omega
      have hq0 : Go.bits .and .u64 (n : Int) 15 = ((n % 16 : Nat) : Int) := bits_and15 n (by
        have : 16 ^ (j + 1 - 61) ≤ 16 ^ 4 := Nat.pow_le_pow_right (by decide) (by omega)
        omega)
      have hq1 : (0 ≤ Go.bits .and .u64 (n : Int) 15 ∧ Go.bits .and .u64 (n : Int) 15 < 36) = True := eq_true (by rw [hq0]; omega)
      have hj1 : ((j : Int) < 65) = True := eq_true (by omega)
      have hc1 : ∃ old, wr.cell? ⟨ga, j, none⟩ = some old := by
        unfold World.cell?
        simp only [hx]
        exact ⟨_, Array.getElem?_eq_getElem (show j < cs.size from by omega)⟩
      obtain ⟨old, hc⟩ := hc1
      have hf : wr.frozen? ⟨ga, j, none⟩ = false := by
        unfold World.frozen?
        simp only [hx]
        simp
      clear hx hs hd1 hd2 hd3 hsm hbl
      have HQ0 := Aside0.mk hq0
      clear hq0
      go_wp2_with fail
      go_roundg j
      case measure => omega
      case rel => exact ⟨j, n / 16, Nat.le_refl _, by simp, rfl, ⟨HA.out.put hn HG.out _ (digit_at n _ HQ0.out)⟩⟩
    · have hA := HA.out
      obtain ⟨⟨cs, hx, hs, ds, hd1, hd2, hd3⟩, hlo, hhi, hsm, hbl⟩ := hA
      obtain ⟨j, rfl⟩ : ∃ j, i = j + 1 := ⟨i - 1, by omega⟩
      have hn1 : ((n : Int) ≥ 16) = False := eq_false (by omega)
      have hn2 : decide ((n : Int) ≥ 16) = false := decide_eq_false (by omega)
      have hw1 : wrap64 (j : Int) = (j : Int) := by unfold wrap64; omega
      have hw0 : ((j + 1 : Nat) : Int) - 1 = (j : Int) := by omega
      have hn36 : ((n : Int) < 36) = True := eq_true (by omega)
      have hj1 : ((j : Int) < 65) = True := eq_true (by omega)
      have hc1 : ∃ old, wr.cell? ⟨ga, j, none⟩ = some old := by
        unfold World.cell?
        simp only [hx]
        exact ⟨_, Array.getElem?_eq_getElem (show j < cs.size from by omega)⟩
      obtain ⟨old, hc⟩ := hc1
      have hf : wr.frozen? ⟨ga, j, none⟩ = false := by
        unfold World.frozen?
        simp only [hx]
        simp
      have HJ : Aside0 (62 ≤ j + 1 ∧ j + 1 ≤ 65) := ⟨hlo, hhi⟩
      clear hx hs hd1 hd2 hd3 hsm hbl
      go_upto_region 30 with (fail)
      have hD : ∀ h, (⟨#[48, 49, 50, 51, 52, 53, 54, 55, 56, 57, 97, 98, 99, 100, 101, 102, 103, 104, 105, 106, 107, 108, 109, 110, 111, 112, 113, 114, 115, 116, 117, 118, 119, 120, 121, 122]⟩ : ByteArray)[n]'h = hexD n := fun h => digit_ix n (by omega) h
      have hl := HA.out.last (by omega) HG.out (hexD n) rfl
      simp only [hD]
      obtain ⟨hb, cs, hx, hs, hd⟩ := hl
      have hj2 := HJ.out
      have hsl := hex_slice ga j (by omega) (by omega)
      have hst := hex_string hx hs hd (by omega)
      have HB := Aside0.mk hb
      clear hx hs hd hb hc hf HA hD
      generalize wr.setCell ⟨ga, j, none⟩ (.int .u8 (hexD n).toNat) = W at hst HB ⊢
      go_wp2_with fail
      exact bodyPost_ret (v := .tuple #[.slice none 0 0, .string ⟨(hexL 4 u).toArray⟩]) (by simp [results, Tryd.results87, go_sem]) rfl ⟨rfl, HB.out⟩
set_option maxHeartbeats 1000000 in
theorem formatUint16 (u : Nat) (hu : u < 65536) (w : World) (hW : WOK w) : Calls Tryd.prog 76 #[.int .u64 (u : Int), .int .i64 16] w fun e w' => e = .returned (.string ⟨(hexL 4 u).toArray⟩) ∧ Below w.heap.size w w' := by
  go_enter Tryd.func76, Tryd.ntmps76
  go_wp2_with fail
  refine (formatBits16 u hu _ (hW.below (by repeat (first | (with_reducible apply below_alloc) | (with_reducible apply pw_below_drewN) | (with_reducible apply below_drew1) | exact Below.refl _ _)))).mono ?_
  rintro e w2 ⟨rfl, hb⟩
  have HB := Aside0.mk hb
  clear hb
  go_wp2_with fail
  go_ret
  exact ⟨rfl, by first | exact HB.out | exact (below_alloc (Below.refl _ _) _).trans (HB.out.mono (by simp))⟩
set_option maxHeartbeats 1000000 in
theorem formatUint16p (u : Nat) (hu : u < 65536) (w : World) (hW : WOK w) : Calls Tryd.prog 58 #[.int .u64 (u : Int), .int .i64 16] w fun e w' => e = .returned (.string ⟨(hexL 4 u).toArray⟩) ∧ Below w.heap.size w w' := by
  go_enter Tryd.func58, Tryd.ntmps58
  go_wp2_with fail
  refine (formatUint16 u hu _ (hW.below (by repeat (first | (with_reducible apply below_alloc) | (with_reducible apply pw_below_drewN) | (with_reducible apply below_drew1) | exact Below.refl _ _)))).mono ?_
  rintro e w2 ⟨rfl, hb⟩
  have HB := Aside0.mk hb
  clear hb
  go_wp2_with fail
  go_ret
  exact ⟨rfl, by first | exact HB.out | exact (below_alloc (Below.refl _ _) _).trans (HB.out.mono (by simp))⟩
def strconv_FormatUint.f (i : Int) (base : Int) : Option ByteArray := if base = 16 then if 0 ≤ i ∧ i < 65536 then some ⟨(hexL 4 i.toNat).toArray⟩ else none else none
theorem strconv_FormatUint.calls (i base : Int) (r : ByteArray) (w : World) (h : strconv_FormatUint.f i base = some r) (hW : WOK w) :
    Calls Tryd.prog 58 #[.int .u64 i, .int .i64 base] w fun e w' => e = .returned (.string r) ∧ Below w.heap.size w w' := by
  unfold strconv_FormatUint.f at h
  split at h
  case isFalse => cases h
  rename_i hb
  subst hb
  split at h
  case isFalse => cases h
  rename_i hi
  injection h with h
  subst h
  have := formatUint16p i.toNat (by omega) w hW
  rw [show ((i.toNat : Nat) : Int) = i from by omega] at this
  exact this
end Go.Proofs.YtlgfinnldhjgeaaDoor.Q
end

section
set_option linter.unusedVariables false
set_option linter.unusedSimpArgs false
namespace Go.Proofs.YtlgfinnldhjgeaaDoor.Q
open Go.RowKit Go.Proofs.YtlgfinnldhjgeaaDoorW.PrintWords Go.Proofs.YtlgfinnldhjgeaaDoorW.PrintLast Go.Proofs.YtlgfinnldhjgeaaDoorW.PrintMore
theorem blk_apart {α : Type} {d : Kd α} {W w1 : World} {g base : Nat} {cs : Array Value} {t e : TypeId} {ok : Nat → Prop} {v : Value} {xs : List α} (hX : W.heap[g]? = some (.cells cs t (0, 0))) (ht : t ≠ e) (hR : d.R e W base ok v xs) (hg : W.grownBy w1 v.ownBlock) : w1.heap[g]? = some (.cells cs t (0, 0)) :=
  blk_grown hX hg (fun h => by
    obtain ⟨c, hc⟩ := Kd.R_typed hR g h.symm
    rw [hX] at hc
    injection hc with hc
    injection hc with _ hc
    exact ht hc)
def decB (n : Int) : ByteArray := ⟨(Lib.itoa n).toArray⟩
theorem itoa_b {x : Int} (h : 0 ≤ Go.bits .and .u64 x 255 ∧ Go.bits .and .u64 x 255 < 256) : strconv_Itoa.f (wrap64 (Go.bits .and .u64 x 255)) = some (decB (Go.bits .and .u64 x 255)) := by
  have e : wrap64 (Go.bits .and .u64 x 255) = Go.bits .and .u64 x 255 := by unfold wrap64; omega
  unfold strconv_Itoa.f decB
  rw [e, if_pos (by omega)]
theorem and255 (x : Int) : 0 ≤ Go.bits .and .u64 x 255 ∧ Go.bits .and .u64 x 255 < 256 := by
  unfold Go.bits
  have h1 : ((BitVec.ofInt 64 x) &&& (BitVec.ofInt 64 255)).toNat < 256 := by
    rw [BitVec.toNat_and, show (BitVec.ofInt 64 255).toNat = 2 ^ 8 - 1 from by decide, Nat.and_two_pow_sub_one_eq_mod]
    exact Nat.mod_lt _ (by decide)
  show 0 ≤ IntKind.u64.wrap _ ∧ IntKind.u64.wrap _ < 256
  rw [IntWalk.u64_in _ ⟨by show (0 : Int) ≤ (((BitVec.ofInt 64 x) &&& (BitVec.ofInt 64 255)).toNat : Int); omega, by show (((BitVec.ofInt 64 x) &&& (BitVec.ofInt 64 255)).toNat : Int) ≤ _; omega⟩]
  exact ⟨by show (0 : Int) ≤ (((BitVec.ofInt 64 x) &&& (BitVec.ofInt 64 255)).toNat : Int); omega, by show (((BitVec.ofInt 64 x) &&& (BitVec.ofInt 64 255)).toNat : Int) < 256; omega⟩
set_option maxHeartbeats 4000000 in
set_option maxRecDepth 100000 in
theorem format4 (hi lo : Int) (r : ByteArray) (w : World) (hr : strings_Join.f [decB (Go.bits .and .u64 (lo / 16777216) 255), decB (Go.bits .and .u64 (lo / 65536) 255), decB (Go.bits .and .u64 (lo / 256) 255), decB (Go.bits .and .u64 (lo) 255)] (⟨#[46]⟩ : ByteArray) = some r) (hW : WOK w) : Calls Tryd.prog 33 #[.agg #[.bool false, .int .u64 hi, .int .u64 lo]] w fun e w' => e = .returned (.string r) ∧ Below w.heap.size w w' := by
  have HW := Aside0.mk hW
  have HJ := Aside0.mk hr
  clear hW hr
  have HX : Aside0 ((w.alloc (.cells #[.bool false, .int .u64 hi, .int .u64 lo] 25)).heap[w.heap.size]? = some (.cells #[.bool false, .int .u64 hi, .int .u64 lo] 25 (0, 0))) := ⟨heap_alloc_new _ _⟩
  have HB : Aside0 (Below w.heap.size w (w.alloc (.cells #[.bool false, .int .u64 hi, .int .u64 lo] 25))) := ⟨below_alloc (Below.refl _ _) _⟩
  have HO : Aside0 (Kd.R Kd.string 9 (w.alloc (.cells #[.bool false, .int .u64 hi, .int .u64 lo] 25)) w.heap.size (fun _ => True) (.slice none 0 0) ([] : List ByteArray)) := ⟨Kd.R_nil _ _ _ _ _⟩
  go_enter Tryd.func33, Tryd.ntmps33
  go_upto_region 3 with (fail)
  obtain ⟨g, hg⟩ : ∃ g, w.heap.size = g := ⟨_, rfl⟩
  rw [hg] at HX
  simp only [hg]
  clear hg
  generalize w.alloc (.cells #[.bool false, .int .u64 hi, .int .u64 lo] 25) = W at HX HB HO ⊢
  go_upto_region 4 with (fail)
  refine wp_loop_rounds 5 ?_
  have hc : W.cell? ⟨g, 2, none⟩ = some (.int .u64 lo) := (blk_cell HX.out 2).trans rfl
  rw [rounds_succ]
  go_wp2_with fail
  clear hc
  refine (strconv_Itoa.calls _ _ _ (itoa_b (and255 _)) (HW.out.below HB.out)).mono ?_
  rintro e w2 ⟨rfl, hb⟩
  replace HX := Aside0.mk (blk_below HX.out hb)
  replace HO := Aside0.mk (Kd.R_below HO.out hb)
  replace HB := Aside0.mk (below_step HB.out hb)
  clear hb
  go_wp2_with (first | ((with_reducible refine gate_builtin (b := .append) (xs := #[.tmp 17, .tmp 27]) rfl ?_); at_builtin; refine Kd.R_append Kd.string (w0 := w) w.heap.size rfl (.tmp 17) (.tmp 27) 56 9 (.string ⟨#[]⟩) 16 rfl Tryd.underlying56 info9 rfl (by decide) (by omega) _ ([] : List ByteArray) (decB (Go.bits .and .u64 (lo / 16777216) 255)) [.string (decB (Go.bits .and .u64 (lo / 16777216) 255))] (fun _ => True) (fun _ => False) rfl rfl ?aP (fun _ hk => hk.elim) ?aF ?aO ?aB ?aS ?aL ?_; (case aP => exact rfl); (case aB => exact HB.out); (case aF => exact (fun _ _ => trivial)); (case aO => exact HO.out); (case aS => exact (below_size HB.out)); (case aL => simp); intro v0 W0 ho hb hg hat; replace HX := Aside0.mk (blk_apart HX.out (by decide) HO.out hg); replace HB := Aside0.mk hb; replace HO := Aside0.mk ho; clear ho hb hg hat))
  have hc : W0.cell? ⟨g, 2, none⟩ = some (.int .u64 lo) := (blk_cell HX.out 2).trans rfl
  rw [rounds_succ]
  go_wp2_with fail
  clear hc
  refine (strconv_Itoa.calls _ _ _ (itoa_b (and255 _)) (HW.out.below HB.out)).mono ?_
  rintro e w2 ⟨rfl, hb⟩
  replace HX := Aside0.mk (blk_below HX.out hb)
  replace HO := Aside0.mk (Kd.R_below HO.out hb)
  replace HB := Aside0.mk (below_step HB.out hb)
  clear hb
  go_wp2_with (first | ((with_reducible refine gate_builtin (b := .append) (xs := #[.tmp 17, .tmp 27]) rfl ?_); at_builtin; refine Kd.R_append Kd.string (w0 := w) w.heap.size rfl (.tmp 17) (.tmp 27) 56 9 (.string ⟨#[]⟩) 16 rfl Tryd.underlying56 info9 rfl (by decide) (by omega) _ [decB (Go.bits .and .u64 (lo / 16777216) 255)] (decB (Go.bits .and .u64 (lo / 65536) 255)) [.string (decB (Go.bits .and .u64 (lo / 65536) 255))] (fun _ => True) (fun _ => False) rfl rfl ?aP (fun _ hk => hk.elim) ?aF ?aO ?aB ?aS ?aL ?_; (case aP => exact rfl); (case aB => exact HB.out); (case aF => exact (fun _ _ => trivial)); (case aO => exact HO.out); (case aS => exact (below_size HB.out)); (case aL => simp); intro v1 W1 ho hb hg hat; replace HX := Aside0.mk (blk_apart HX.out (by decide) HO.out hg); replace HB := Aside0.mk hb; replace HO := Aside0.mk ho; clear ho hb hg hat))
  have hc : W1.cell? ⟨g, 2, none⟩ = some (.int .u64 lo) := (blk_cell HX.out 2).trans rfl
  rw [rounds_succ]
  go_wp2_with fail
  clear hc
  refine (strconv_Itoa.calls _ _ _ (itoa_b (and255 _)) (HW.out.below HB.out)).mono ?_
  rintro e w2 ⟨rfl, hb⟩
  replace HX := Aside0.mk (blk_below HX.out hb)
  replace HO := Aside0.mk (Kd.R_below HO.out hb)
  replace HB := Aside0.mk (below_step HB.out hb)
  clear hb
  go_wp2_with (first | ((with_reducible refine gate_builtin (b := .append) (xs := #[.tmp 17, .tmp 27]) rfl ?_); at_builtin; refine Kd.R_append Kd.string (w0 := w) w.heap.size rfl (.tmp 17) (.tmp 27) 56 9 (.string ⟨#[]⟩) 16 rfl Tryd.underlying56 info9 rfl (by decide) (by omega) _ [decB (Go.bits .and .u64 (lo / 16777216) 255), decB (Go.bits .and .u64 (lo / 65536) 255)] (decB (Go.bits .and .u64 (lo / 256) 255)) [.string (decB (Go.bits .and .u64 (lo / 256) 255))] (fun _ => True) (fun _ => False) rfl rfl ?aP (fun _ hk => hk.elim) ?aF ?aO ?aB ?aS ?aL ?_; (case aP => exact rfl); (case aB => exact HB.out); (case aF => exact (fun _ _ => trivial)); (case aO => exact HO.out); (case aS => exact (below_size HB.out)); (case aL => simp); intro v2 W2 ho hb hg hat; replace HX := Aside0.mk (blk_apart HX.out (by decide) HO.out hg); replace HB := Aside0.mk hb; replace HO := Aside0.mk ho; clear ho hb hg hat))
  have hc : W2.cell? ⟨g, 2, none⟩ = some (.int .u64 lo) := (blk_cell HX.out 2).trans rfl
  rw [rounds_succ]
  go_wp2_with fail
  clear hc
  refine (strconv_Itoa.calls _ _ _ (itoa_b (and255 _)) (HW.out.below HB.out)).mono ?_
  rintro e w2 ⟨rfl, hb⟩
  replace HX := Aside0.mk (blk_below HX.out hb)
  replace HO := Aside0.mk (Kd.R_below HO.out hb)
  replace HB := Aside0.mk (below_step HB.out hb)
  clear hb
  go_wp2_with (first | ((with_reducible refine gate_builtin (b := .append) (xs := #[.tmp 17, .tmp 27]) rfl ?_); at_builtin; refine Kd.R_append Kd.string (w0 := w) w.heap.size rfl (.tmp 17) (.tmp 27) 56 9 (.string ⟨#[]⟩) 16 rfl Tryd.underlying56 info9 rfl (by decide) (by omega) _ [decB (Go.bits .and .u64 (lo / 16777216) 255), decB (Go.bits .and .u64 (lo / 65536) 255), decB (Go.bits .and .u64 (lo / 256) 255)] (decB (Go.bits .and .u64 (lo) 255)) [.string (decB (Go.bits .and .u64 (lo) 255))] (fun _ => True) (fun _ => False) rfl rfl ?aP (fun _ hk => hk.elim) ?aF ?aO ?aB ?aS ?aL ?_; (case aP => exact rfl); (case aB => exact HB.out); (case aF => exact (fun _ _ => trivial)); (case aO => exact HO.out); (case aS => exact (below_size HB.out)); (case aL => simp); intro v3 W3 ho hb hg hat; replace HX := Aside0.mk (blk_apart HX.out (by decide) HO.out hg); replace HB := Aside0.mk hb; replace HO := Aside0.mk ho; clear ho hb hg hat))
  rw [rounds_succ]
  obtain ⟨A, c, e⟩ := Kd.R_slice HO.out
  subst e
  go_wp2_with fail
  refine (strings_Join.calls A c _ _ r _ (Kd.R_reads' HO.out).2.2 (Kd.R_reads' HO.out).2.1 HJ.out).mono ?_
  rintro e w2 ⟨rfl, hb⟩
  replace HB := Aside0.mk (below_step HB.out hb)
  clear hb
  go_wp2_with fail
  exact bodyPost_ret (v := .string r) (by simp [results, Tryd.results33, go_sem]) rfl ⟨rfl, HB.out⟩
theorem and65535 (x : Int) : 0 ≤ Go.bits .and .u64 x 65535 ∧ Go.bits .and .u64 x 65535 < 65536 := by
  unfold Go.bits
  have h1 : ((BitVec.ofInt 64 x) &&& (BitVec.ofInt 64 65535)).toNat < 65536 := by
    rw [BitVec.toNat_and, show (BitVec.ofInt 64 65535).toNat = 2 ^ 16 - 1 from by decide, Nat.and_two_pow_sub_one_eq_mod]
    exact Nat.mod_lt _ (by decide)
  show 0 ≤ IntKind.u64.wrap _ ∧ IntKind.u64.wrap _ < 65536
  rw [IntWalk.u64_in _ ⟨by show (0 : Int) ≤ (((BitVec.ofInt 64 x) &&& (BitVec.ofInt 64 65535)).toNat : Int); omega, by show (((BitVec.ofInt 64 x) &&& (BitVec.ofInt 64 65535)).toNat : Int) ≤ _; omega⟩]
  exact ⟨by show (0 : Int) ≤ (((BitVec.ofInt 64 x) &&& (BitVec.ofInt 64 65535)).toNat : Int); omega, by show (((BitVec.ofInt 64 x) &&& (BitVec.ofInt 64 65535)).toNat : Int) < 65536; omega⟩
def grpL (hi lo : Int) : List Int := [Go.bits .and .u64 (hi / 281474976710656) 65535, Go.bits .and .u64 (hi / 4294967296) 65535, Go.bits .and .u64 (hi / 65536) 65535, Go.bits .and .u64 (hi) 65535, Go.bits .and .u64 (lo / 281474976710656) 65535, Go.bits .and .u64 (lo / 4294967296) 65535, Go.bits .and .u64 (lo / 65536) 65535, Go.bits .and .u64 (lo) 65535]
def fmtT (l : List Int) (p q : Nat) : Nat → Nat → ByteArray → ByteArray
  | 0, _, o => o
  | d + 1, i, o => if i < 8 then (if i = p ∧ 1 < q - p then fmtT l p q d q (o ++ ⟨#[58, 58]⟩) else fmtT l p q d (i + 1) ((if o.toList ≠ [] ∧ Lib.hasSuffix o.data.toList [58] = false then o ++ ⟨#[58]⟩ else o) ++ ⟨(hexL 4 (l.getD i 0).toNat).toArray⟩)) else o
theorem runF_le (l : List Int) : ∀ (d i a b : Nat), a ≤ b → b ≤ 8 → i + d ≤ 8 → (runF l d i (a, b)).1 ≤ (runF l d i (a, b)).2 ∧ (runF l d i (a, b)).2 ≤ 8
  | 0, i, a, b, h1, h2, _ => ⟨h1, h2⟩
  | d + 1, i, a, b, h1, h2, h3 => by
    unfold runF
    split
    · have := zEnd_le l (8 - i) i
      exact runF_le l d (i + 1) _ _ this.1 (by omega) (by omega)
    · exact runF_le l d (i + 1) _ _ h1 h2 (by omega)
theorem runF_ok (l : List Int) : (runF l 8 0 (0, 0)).1 ≤ (runF l 8 0 (0, 0)).2 ∧ (runF l 8 0 (0, 0)).2 ≤ 8 := runF_le l 8 0 0 0 (by omega) (by omega) (by omega)
structure TxtI (l : List Int) (p q gg i : Nat) (o r : ByteArray) : Prop where
  m : 8 - i ≤ gg
  i8 : i ≤ 8
  res : fmtT l p q gg i o = r
  sz : o.size + 8 * gg ≤ 64
theorem TxtI.pos {l : List Int} {p q gg i : Nat} {o r : ByteArray} (h : TxtI l p q gg i o r) (hi : i < 8) : ∃ m, gg = m + 1 := ⟨gg - 1, by have := h.m; omega⟩
theorem TxtI.fin {l : List Int} {p q gg i : Nat} {o r : ByteArray} (h : TxtI l p q gg i o r) (hi : ¬ i < 8) : o = r := by
  have := h.res
  cases gg with
  | zero => exact this
  | succ d => rw [fmtT, if_neg hi] at this; exact this
theorem TxtI.gap {l : List Int} {p q d i : Nat} {o r : ByteArray} (h : TxtI l p q (d + 1) i o r) (hi : i < 8) (hp : i = p) (hq : 1 < q - p) (hq8 : q ≤ 8) : TxtI l p q d q (o ++ ⟨#[58, 58]⟩) r := by
  obtain ⟨h1, h2, h3, h4⟩ := h
  refine ⟨by omega, hq8, ?_, ?_⟩
  · rw [fmtT, if_pos hi, if_pos ⟨hp, hq⟩] at h3; exact h3
  · rw [ByteArray.size_append, show (⟨#[58, 58]⟩ : ByteArray).size = 2 from rfl]; omega
theorem hexL_len : ∀ (k n : Nat), (hexL k n).length ≤ k
  | 0, _ => Nat.le_refl _
  | k + 1, n => by
    unfold hexL
    split
    · simp
    · have := hexL_len k (n / 16); simp; omega
theorem hexL_size (k n : Nat) : (⟨(hexL k n).toArray⟩ : ByteArray).size ≤ k := by
  show (hexL k n).toArray.size ≤ k
  rw [List.size_toArray]
  exact hexL_len k n
theorem TxtI.hexA {l : List Int} {p q d i : Nat} {o r : ByteArray} {x : Int} (hx : l.getD i 0 = x) (h : TxtI l p q (d + 1) i o r) (hi : i < 8) (hp : ¬ (i = p ∧ 1 < q - p)) (hs : ¬ (o.toList ≠ [] ∧ Lib.hasSuffix o.data.toList [58] = false)) : TxtI l p q d (i + 1) (o ++ ⟨(hexL 4 x.toNat).toArray⟩) r := by
  subst hx
  obtain ⟨h1, h2, h3, h4⟩ := h
  refine ⟨by omega, by omega, ?_, ?_⟩
  · rw [fmtT, if_pos hi, if_neg hp, if_neg hs] at h3; exact h3
  · have := hexL_size 4 (l.getD i 0).toNat
    rw [ByteArray.size_append]; omega
theorem TxtI.hexB {l : List Int} {p q d i : Nat} {o r : ByteArray} {x : Int} (hx : l.getD i 0 = x) (h : TxtI l p q (d + 1) i o r) (hi : i < 8) (hp : ¬ (i = p ∧ 1 < q - p)) (hs : o.toList ≠ [] ∧ Lib.hasSuffix o.data.toList [58] = false) : TxtI l p q d (i + 1) (o ++ ⟨#[58]⟩ ++ ⟨(hexL 4 x.toNat).toArray⟩) r := by
  subst hx
  obtain ⟨h1, h2, h3, h4⟩ := h
  refine ⟨by omega, by omega, ?_, ?_⟩
  · rw [fmtT, if_pos hi, if_neg hp, if_pos hs] at h3; exact h3
  · have := hexL_size 4 (l.getD i 0).toNat
    rw [ByteArray.size_append, ByteArray.size_append, show (⟨#[58]⟩ : ByteArray).size = 1 from rfl]; omega
theorem hex_u {x : Int} (h : 0 ≤ x ∧ x < 65536) : strconv_FormatUint.f x 16 = some ⟨(hexL 4 x.toNat).toArray⟩ := by unfold strconv_FormatUint.f; rw [if_pos rfl, if_pos h]
theorem suf_u {o : ByteArray} (h : o.size ≤ 64) : strings_HasSuffix.f o ⟨#[58]⟩ = some (Lib.hasSuffix o.data.toList [58]) := by unfold strings_HasSuffix.f; rw [if_pos (by omega)]
theorem i_eq {i p : Nat} (h : i = p) : ((i : Int) == (p : Int)) = true := by simp [h]
theorem i_ne {i p : Nat} (h : ¬ i = p) : ((i : Int) == (p : Int)) = false := beq_eq_false_iff_ne.mpr (fun e => h (by omega))
theorem i_eqd {i p : Nat} (h : i = p) : decide ((i : Int) = (p : Int)) = true := by simp [h]
theorem i_ned {i p : Nat} (h : ¬ i = p) : decide ((i : Int) = (p : Int)) = false := decide_eq_false (fun e => h (by omega))
theorem q_gt {p q : Nat} (h : 1 < q - p) (h8 : q ≤ 8) : decide (wrap64 ((q : Int) - (p : Int)) > 1) = true := decide_eq_true (by unfold wrap64; omega)
theorem q_ngt {p q : Nat} (h : ¬ 1 < q - p) (h8 : p ≤ q ∧ q ≤ 8) : decide (wrap64 ((q : Int) - (p : Int)) > 1) = false := decide_eq_false (by unfold wrap64; omega)
theorem sz_2 {l : List Int} {p q d i : Nat} {o r : ByteArray} (h : TxtI l p q d i o r) : (9223372036854775807 < o.size + 2) = False := eq_false (by have := h.sz; omega)
theorem sz_1 {l : List Int} {p q d i : Nat} {o r : ByteArray} (h : TxtI l p q d i o r) : (9223372036854775807 < o.size + 1) = False := eq_false (by have := h.sz; omega)
theorem sz_h {l : List Int} {p q d i : Nat} {o t r : ByteArray} (h : TxtI l p q d i (o ++ t) r) : (9223372036854775807 < o.size + t.size) = False := eq_false (by have := h.sz; rw [ByteArray.size_append] at this; omega)
theorem q_next {p q : Nat} (h : 1 < q - p) (h8 : q ≤ 8) : wrap64 (wrap64 ((q : Int) - 1) + 1) = (q : Int) := by unfold wrap64; omega
theorem run_g (hi lo : Int) (w : World) : Calls Tryd.prog 56 #[.agg #[.int .u64 (Go.bits .and .u64 (hi / 281474976710656) 65535), .int .u64 (Go.bits .and .u64 (hi / 4294967296) 65535), .int .u64 (Go.bits .and .u64 (hi / 65536) 65535), .int .u64 (Go.bits .and .u64 (hi) 65535), .int .u64 (Go.bits .and .u64 (lo / 281474976710656) 65535), .int .u64 (Go.bits .and .u64 (lo / 4294967296) 65535), .int .u64 (Go.bits .and .u64 (lo / 65536) 65535), .int .u64 (Go.bits .and .u64 (lo) 65535)]] w fun e w' => e = .returned (.tuple #[.int .i64 ((runF (grpL hi lo) 8 0 (0, 0)).1 : Nat), .int .i64 ((runF (grpL hi lo) 8 0 (0, 0)).2 : Nat)]) ∧ Below w.heap.size w w' := address_run.calls _ _ _ _ _ _ _ _ w
def fmt6 (hi lo : Int) : ByteArray := fmtT (grpL hi lo) (runF (grpL hi lo) 8 0 (0, 0)).1 (runF (grpL hi lo) 8 0 (0, 0)).2 8 0 ⟨#[]⟩
def fmt.T13 : Bool × List (List Nat × List Nat) := (true, [([], []), ([], []), ([1], [1]), ([], []), ([3], [3]), ([], []), ([5], [5]), ([6], [6]), ([4, 7], [4, 7]), ([8], [8]), ([], []), ([10], [10]), ([], []), ([12], [12]), ([13], [13]), ([11, 14], [11, 14]), ([15], [15]), ([0, 0, 3, 4, 5, 6, 7, 8, 9], [0]), ([17, 9, 0, 3, 4, 5, 6, 7, 8, 9], [9, 17]), ([2, 0, 1, 2, 3, 4, 5, 6, 7, 8, 9, 10, 11, 12, 13, 14, 15, 16, 17, 18], [2]), ([19, 16, 18, 0, 1, 2, 3, 4, 5, 6, 7, 8, 9, 10, 11, 12, 13, 14, 15, 16, 17, 18], [16, 19])])
def fmt.B13 : List Nat := [0, 0, 2, 0, 8, 0, 32, 96, 248, 504, 0, 1024, 0, 4096, 12288, 31744, 64512, 1017, 132089, 524287, 1048575]
theorem fmt.tab13 : rtab .any (opsOf Tryd.f33 13) = fmt.T13 := by kernel_rfl
theorem fmt.bits13 : waitsOk fmt.T13.2 fmt.B13 = true := by kernel_rfl
set_option maxHeartbeats 4000000 in
set_option maxRecDepth 100000 in
theorem format6 (hi lo : Int) (w : World) (hW : WOK w) : Calls Tryd.prog 33 #[.agg #[.bool true, .int .u64 hi, .int .u64 lo]] w fun e w' => e = .returned (.string (fmt6 hi lo)) ∧ Below w.heap.size w w' := by
  have HW := Aside0.mk hW
  clear hW
  obtain ⟨r, hr⟩ : ∃ r, fmt6 hi lo = r := ⟨_, rfl⟩
  have HR := Aside0.mk hr
  rw [hr]
  clear hr
  have HX : Aside0 ((w.alloc (.cells #[.bool true, .int .u64 hi, .int .u64 lo] 25)).heap[w.heap.size]? = some (.cells #[.bool true, .int .u64 hi, .int .u64 lo] 25 (0, 0))) := ⟨heap_alloc_new _ _⟩
  have HB : Aside0 (Below w.heap.size w (w.alloc (.cells #[.bool true, .int .u64 hi, .int .u64 lo] 25))) := ⟨below_alloc (Below.refl _ _) _⟩
  go_enter Tryd.func33, Tryd.ntmps33
  go_upto_region 9 with (fail)
  obtain ⟨g, hg⟩ : ∃ g, w.heap.size = g := ⟨_, rfl⟩
  rw [hg] at HX
  simp only [hg]
  clear hg
  generalize w.alloc (.cells #[.bool true, .int .u64 hi, .int .u64 lo] 25) = W at HX HB ⊢
  have HY : Aside0 ((W.alloc (.cells #[.int .u64 0, .int .u64 0, .int .u64 0, .int .u64 0, .int .u64 0, .int .u64 0, .int .u64 0, .int .u64 0] 68)).heap[W.heap.size]? = some (.cells #[.int .u64 0, .int .u64 0, .int .u64 0, .int .u64 0, .int .u64 0, .int .u64 0, .int .u64 0, .int .u64 0] 68 (0, 0))) := ⟨heap_alloc_new _ _⟩
  have HL := Aside0.mk (blk_lt HX.out)
  replace HX := Aside0.mk (blk_alloc HX.out (.cells #[.int .u64 0, .int .u64 0, .int .u64 0, .int .u64 0, .int .u64 0, .int .u64 0, .int .u64 0, .int .u64 0] 68))
  have HG := Aside0.mk HB.out.size
  replace HB := Aside0.mk (below_alloc HB.out (.cells #[.int .u64 0, .int .u64 0, .int .u64 0, .int .u64 0, .int .u64 0, .int .u64 0, .int .u64 0, .int .u64 0] 68))
  go_upto_region 11 with (fail)
  obtain ⟨ga, hga⟩ : ∃ ga, W.heap.size = ga := ⟨_, rfl⟩
  rw [hga] at HY HG HL
  simp only [hga]
  clear hga
  have HN := Aside0.mk (Nat.ne_of_lt HL.out)
  clear HL
  generalize W.alloc (.cells #[.int .u64 0, .int .u64 0, .int .u64 0, .int .u64 0, .int .u64 0, .int .u64 0, .int .u64 0, .int .u64 0] 68) = W0 at HX HY HB ⊢
  refine wp_loop_rounds 5 ?_
  rw [rounds_succ]
  go_upto_region 13 with (fail)
  refine start_ (n := 21) (S := fun w' => w'.cell? ⟨g, 1, none⟩ = some (.int .u64 hi) ∧ w'.cell? ⟨g, 2, none⟩ = some (.int .u64 lo)) (ds := [20]) #[false, false, false, false, false, false, false, false, false, false, false, false, false, false, false, false, false, false, false, false, false] (by kernel_rfl) rfl rfl ⟨(blk_cell (blk_drew HX.out) 1).trans rfl, (blk_cell (blk_drew HX.out) 2).trans rfl⟩ (fun hHeld => ?_)
  refine with_tabW fmt.tab13 fmt.bits13 (fun HT_ HW_ => ?_)
  replace HX := Aside0.mk (blk_drew HX.out)
  replace HY := Aside0.mk (blk_drew HY.out)
  replace HB := Aside0.mk (below_drew1 HB.out)
  generalize W0.drew = V0 at HX HY HB hHeld ⊢
  refine zp 0 35 HT_ ?_; refine zp 1 36 HT_ ?_; refine zp (v := .int .i64 4) 2 37 HT_ ?_ (hy := fun _ => rfl); refine zp 3 38 HT_ ?_; refine zt 4 39 HT_ HW_ hHeld ?_; refine zp 5 40 HT_ ?_; refine zp (v := .int .i64 0) 6 41 HT_ ?_ (hy := fun _ => rfl); refine zp (v := .int .i64 48) 7 42 HT_ ?_ (hy := fun _ => rfl); refine zp 8 43 HT_ ?_; refine zp 9 44 HT_ ?_; refine zp 10 45 HT_ ?_; refine zt 11 46 HT_ HW_ hHeld ?_; refine zp 12 47 HT_ ?_; refine zp (v := .int .i64 0) 13 48 HT_ ?_ (hy := fun _ => rfl); refine zp (v := .int .i64 48) 14 49 HT_ ?_ (hy := fun _ => rfl); refine zp 15 50 HT_ ?_; refine zp 16 51 HT_ ?_; refine zp 17 52 HT_ ?_
  have hc : V0.cell? ⟨ga, 0, none⟩ = some (.int .u64 0) := (blk_cell HY.out 0).trans rfl
  have hf : V0.frozen? ⟨ga, 0, none⟩ = false := blk_frozen HY.out 0
  refine one_ (i := 18) (N := none) #[true, true, true, true, true, true, true, true, true, true, true, true, true, true, true, true, true, true, true, false, false] rfl rfl (one_of HT_.out (by kernel_rfl)) (by decide) (fun K hK => ?_)
  refine skip_ (w1 := V0.setCell ⟨ga, 0, none⟩ (.int .u64 (Go.bits .and .u64 (hi / 281474976710656) 65535))) (by rfl) rfl (by go_simp) ?_
  clear hc hf
  replace HX := Aside0.mk (blk_far HX.out (p := ⟨ga, 0, none⟩) HN.out (.int .u64 (Go.bits .and .u64 (hi / 281474976710656) 65535)))
  replace HY : Aside0 ((V0.setCell ⟨ga, 0, none⟩ (.int .u64 (Go.bits .and .u64 (hi / 281474976710656) 65535))).heap[ga]? = some (.cells #[.int .u64 (Go.bits .and .u64 (hi / 281474976710656) 65535), .int .u64 0, .int .u64 0, .int .u64 0, .int .u64 0, .int .u64 0, .int .u64 0, .int .u64 0] 68 (0, 0))) := ⟨blk_put (cs := #[.int .u64 0, .int .u64 0, .int .u64 0, .int .u64 0, .int .u64 0, .int .u64 0, .int .u64 0, .int .u64 0]) HY.out 0 _ rfl⟩
  replace HB := Aside0.mk (HB.out.setCell (p := ⟨ga, 0, none⟩) HG.out (.int .u64 (Go.bits .and .u64 (hi / 281474976710656) 65535)))
  generalize V0.setCell ⟨ga, 0, none⟩ (.int .u64 (Go.bits .and .u64 (hi / 281474976710656) 65535)) = U0 at HX HY HB ⊢
  refine hK.out _ _ ⟨(blk_cell HX.out 1).trans rfl, (blk_cell HX.out 2).trans rfl⟩ (fun _ => ?_)
  clear hK K
  refine zp 19 53 HT_ ?_
  have hc : U0.cell? ⟨ga, 4, none⟩ = some (.int .u64 0) := (blk_cell HY.out 4).trans rfl
  have hf : U0.frozen? ⟨ga, 4, none⟩ = false := blk_frozen HY.out 4
  refine last_ (i := 20) (N := none) #[true, true, true, true, true, true, true, true, true, true, true, true, true, true, true, true, true, true, true, true, true] rfl rfl (one_of HT_.out (by kernel_rfl)) (by decide) (fun K hK => ?_)
  refine skip_ (w1 := U0.setCell ⟨ga, 4, none⟩ (.int .u64 (Go.bits .and .u64 (lo / 281474976710656) 65535))) (by rfl) rfl (by go_simp) ?_
  clear hc hf
  replace HX := Aside0.mk (blk_far HX.out (p := ⟨ga, 4, none⟩) HN.out (.int .u64 (Go.bits .and .u64 (lo / 281474976710656) 65535)))
  replace HY : Aside0 ((U0.setCell ⟨ga, 4, none⟩ (.int .u64 (Go.bits .and .u64 (lo / 281474976710656) 65535))).heap[ga]? = some (.cells #[.int .u64 (Go.bits .and .u64 (hi / 281474976710656) 65535), .int .u64 0, .int .u64 0, .int .u64 0, .int .u64 (Go.bits .and .u64 (lo / 281474976710656) 65535), .int .u64 0, .int .u64 0, .int .u64 0] 68 (0, 0))) := ⟨blk_put (cs := #[.int .u64 (Go.bits .and .u64 (hi / 281474976710656) 65535), .int .u64 0, .int .u64 0, .int .u64 0, .int .u64 0, .int .u64 0, .int .u64 0, .int .u64 0]) HY.out 4 _ rfl⟩
  replace HB := Aside0.mk (HB.out.setCell (p := ⟨ga, 4, none⟩) HG.out (.int .u64 (Go.bits .and .u64 (lo / 281474976710656) 65535)))
  generalize U0.setCell ⟨ga, 4, none⟩ (.int .u64 (Go.bits .and .u64 (lo / 281474976710656) 65535)) = W1 at HX HY HB ⊢
  refine hK.out _ _ ?_
  clear hK K
  refine zd HT_ ?_
  clear hHeld HT_ HW_
  go_wp2_with fail
  rw [rounds_succ]
  go_upto_region 13 with (fail)
  refine start_ (n := 21) (S := fun w' => w'.cell? ⟨g, 1, none⟩ = some (.int .u64 hi) ∧ w'.cell? ⟨g, 2, none⟩ = some (.int .u64 lo)) (ds := [20]) #[false, false, false, false, false, false, false, false, false, false, false, false, false, false, false, false, false, false, false, false, false] (by kernel_rfl) rfl rfl ⟨(blk_cell (blk_drew HX.out) 1).trans rfl, (blk_cell (blk_drew HX.out) 2).trans rfl⟩ (fun hHeld => ?_)
  refine with_tabW fmt.tab13 fmt.bits13 (fun HT_ HW_ => ?_)
  replace HX := Aside0.mk (blk_drew HX.out)
  replace HY := Aside0.mk (blk_drew HY.out)
  replace HB := Aside0.mk (below_drew1 HB.out)
  generalize W1.drew = V1 at HX HY HB hHeld ⊢
  refine zp 0 35 HT_ ?_; refine zp 1 36 HT_ ?_; refine zp (v := .int .i64 5) 2 37 HT_ ?_ (hy := fun _ => rfl); refine zp 3 38 HT_ ?_; refine zt 4 39 HT_ HW_ hHeld ?_; refine zp 5 40 HT_ ?_; refine zp (v := .int .i64 16) 6 41 HT_ ?_ (hy := fun _ => rfl); refine zp (v := .int .i64 32) 7 42 HT_ ?_ (hy := fun _ => rfl); refine zp 8 43 HT_ ?_; refine zp 9 44 HT_ ?_; refine zp 10 45 HT_ ?_; refine zt 11 46 HT_ HW_ hHeld ?_; refine zp 12 47 HT_ ?_; refine zp (v := .int .i64 16) 13 48 HT_ ?_ (hy := fun _ => rfl); refine zp (v := .int .i64 32) 14 49 HT_ ?_ (hy := fun _ => rfl); refine zp 15 50 HT_ ?_; refine zp 16 51 HT_ ?_; refine zp 17 52 HT_ ?_
  have hc : V1.cell? ⟨ga, 1, none⟩ = some (.int .u64 0) := (blk_cell HY.out 1).trans rfl
  have hf : V1.frozen? ⟨ga, 1, none⟩ = false := blk_frozen HY.out 1
  refine one_ (i := 18) (N := none) #[true, true, true, true, true, true, true, true, true, true, true, true, true, true, true, true, true, true, true, false, false] rfl rfl (one_of HT_.out (by kernel_rfl)) (by decide) (fun K hK => ?_)
  refine skip_ (w1 := V1.setCell ⟨ga, 1, none⟩ (.int .u64 (Go.bits .and .u64 (hi / 4294967296) 65535))) (by rfl) rfl (by go_simp) ?_
  clear hc hf
  replace HX := Aside0.mk (blk_far HX.out (p := ⟨ga, 1, none⟩) HN.out (.int .u64 (Go.bits .and .u64 (hi / 4294967296) 65535)))
  replace HY : Aside0 ((V1.setCell ⟨ga, 1, none⟩ (.int .u64 (Go.bits .and .u64 (hi / 4294967296) 65535))).heap[ga]? = some (.cells #[.int .u64 (Go.bits .and .u64 (hi / 281474976710656) 65535), .int .u64 (Go.bits .and .u64 (hi / 4294967296) 65535), .int .u64 0, .int .u64 0, .int .u64 (Go.bits .and .u64 (lo / 281474976710656) 65535), .int .u64 0, .int .u64 0, .int .u64 0] 68 (0, 0))) := ⟨blk_put (cs := #[.int .u64 (Go.bits .and .u64 (hi / 281474976710656) 65535), .int .u64 0, .int .u64 0, .int .u64 0, .int .u64 (Go.bits .and .u64 (lo / 281474976710656) 65535), .int .u64 0, .int .u64 0, .int .u64 0]) HY.out 1 _ rfl⟩
  replace HB := Aside0.mk (HB.out.setCell (p := ⟨ga, 1, none⟩) HG.out (.int .u64 (Go.bits .and .u64 (hi / 4294967296) 65535)))
  generalize V1.setCell ⟨ga, 1, none⟩ (.int .u64 (Go.bits .and .u64 (hi / 4294967296) 65535)) = U1 at HX HY HB ⊢
  refine hK.out _ _ ⟨(blk_cell HX.out 1).trans rfl, (blk_cell HX.out 2).trans rfl⟩ (fun _ => ?_)
  clear hK K
  refine zp 19 53 HT_ ?_
  have hc : U1.cell? ⟨ga, 5, none⟩ = some (.int .u64 0) := (blk_cell HY.out 5).trans rfl
  have hf : U1.frozen? ⟨ga, 5, none⟩ = false := blk_frozen HY.out 5
  refine last_ (i := 20) (N := none) #[true, true, true, true, true, true, true, true, true, true, true, true, true, true, true, true, true, true, true, true, true] rfl rfl (one_of HT_.out (by kernel_rfl)) (by decide) (fun K hK => ?_)
  refine skip_ (w1 := U1.setCell ⟨ga, 5, none⟩ (.int .u64 (Go.bits .and .u64 (lo / 4294967296) 65535))) (by rfl) rfl (by go_simp) ?_
  clear hc hf
  replace HX := Aside0.mk (blk_far HX.out (p := ⟨ga, 5, none⟩) HN.out (.int .u64 (Go.bits .and .u64 (lo / 4294967296) 65535)))
  replace HY : Aside0 ((U1.setCell ⟨ga, 5, none⟩ (.int .u64 (Go.bits .and .u64 (lo / 4294967296) 65535))).heap[ga]? = some (.cells #[.int .u64 (Go.bits .and .u64 (hi / 281474976710656) 65535), .int .u64 (Go.bits .and .u64 (hi / 4294967296) 65535), .int .u64 0, .int .u64 0, .int .u64 (Go.bits .and .u64 (lo / 281474976710656) 65535), .int .u64 (Go.bits .and .u64 (lo / 4294967296) 65535), .int .u64 0, .int .u64 0] 68 (0, 0))) := ⟨blk_put (cs := #[.int .u64 (Go.bits .and .u64 (hi / 281474976710656) 65535), .int .u64 (Go.bits .and .u64 (hi / 4294967296) 65535), .int .u64 0, .int .u64 0, .int .u64 (Go.bits .and .u64 (lo / 281474976710656) 65535), .int .u64 0, .int .u64 0, .int .u64 0]) HY.out 5 _ rfl⟩
  replace HB := Aside0.mk (HB.out.setCell (p := ⟨ga, 5, none⟩) HG.out (.int .u64 (Go.bits .and .u64 (lo / 4294967296) 65535)))
  generalize U1.setCell ⟨ga, 5, none⟩ (.int .u64 (Go.bits .and .u64 (lo / 4294967296) 65535)) = W2 at HX HY HB ⊢
  refine hK.out _ _ ?_
  clear hK K
  refine zd HT_ ?_
  clear hHeld HT_ HW_
  go_wp2_with fail
  rw [rounds_succ]
  go_upto_region 13 with (fail)
  refine start_ (n := 21) (S := fun w' => w'.cell? ⟨g, 1, none⟩ = some (.int .u64 hi) ∧ w'.cell? ⟨g, 2, none⟩ = some (.int .u64 lo)) (ds := [20]) #[false, false, false, false, false, false, false, false, false, false, false, false, false, false, false, false, false, false, false, false, false] (by kernel_rfl) rfl rfl ⟨(blk_cell (blk_drew HX.out) 1).trans rfl, (blk_cell (blk_drew HX.out) 2).trans rfl⟩ (fun hHeld => ?_)
  refine with_tabW fmt.tab13 fmt.bits13 (fun HT_ HW_ => ?_)
  replace HX := Aside0.mk (blk_drew HX.out)
  replace HY := Aside0.mk (blk_drew HY.out)
  replace HB := Aside0.mk (below_drew1 HB.out)
  generalize W2.drew = V2 at HX HY HB hHeld ⊢
  refine zp 0 35 HT_ ?_; refine zp 1 36 HT_ ?_; refine zp (v := .int .i64 6) 2 37 HT_ ?_ (hy := fun _ => rfl); refine zp 3 38 HT_ ?_; refine zt 4 39 HT_ HW_ hHeld ?_; refine zp 5 40 HT_ ?_; refine zp (v := .int .i64 32) 6 41 HT_ ?_ (hy := fun _ => rfl); refine zp (v := .int .i64 16) 7 42 HT_ ?_ (hy := fun _ => rfl); refine zp 8 43 HT_ ?_; refine zp 9 44 HT_ ?_; refine zp 10 45 HT_ ?_; refine zt 11 46 HT_ HW_ hHeld ?_; refine zp 12 47 HT_ ?_; refine zp (v := .int .i64 32) 13 48 HT_ ?_ (hy := fun _ => rfl); refine zp (v := .int .i64 16) 14 49 HT_ ?_ (hy := fun _ => rfl); refine zp 15 50 HT_ ?_; refine zp 16 51 HT_ ?_; refine zp 17 52 HT_ ?_
  have hc : V2.cell? ⟨ga, 2, none⟩ = some (.int .u64 0) := (blk_cell HY.out 2).trans rfl
  have hf : V2.frozen? ⟨ga, 2, none⟩ = false := blk_frozen HY.out 2
  refine one_ (i := 18) (N := none) #[true, true, true, true, true, true, true, true, true, true, true, true, true, true, true, true, true, true, true, false, false] rfl rfl (one_of HT_.out (by kernel_rfl)) (by decide) (fun K hK => ?_)
  refine skip_ (w1 := V2.setCell ⟨ga, 2, none⟩ (.int .u64 (Go.bits .and .u64 (hi / 65536) 65535))) (by rfl) rfl (by go_simp) ?_
  clear hc hf
  replace HX := Aside0.mk (blk_far HX.out (p := ⟨ga, 2, none⟩) HN.out (.int .u64 (Go.bits .and .u64 (hi / 65536) 65535)))
  replace HY : Aside0 ((V2.setCell ⟨ga, 2, none⟩ (.int .u64 (Go.bits .and .u64 (hi / 65536) 65535))).heap[ga]? = some (.cells #[.int .u64 (Go.bits .and .u64 (hi / 281474976710656) 65535), .int .u64 (Go.bits .and .u64 (hi / 4294967296) 65535), .int .u64 (Go.bits .and .u64 (hi / 65536) 65535), .int .u64 0, .int .u64 (Go.bits .and .u64 (lo / 281474976710656) 65535), .int .u64 (Go.bits .and .u64 (lo / 4294967296) 65535), .int .u64 0, .int .u64 0] 68 (0, 0))) := ⟨blk_put (cs := #[.int .u64 (Go.bits .and .u64 (hi / 281474976710656) 65535), .int .u64 (Go.bits .and .u64 (hi / 4294967296) 65535), .int .u64 0, .int .u64 0, .int .u64 (Go.bits .and .u64 (lo / 281474976710656) 65535), .int .u64 (Go.bits .and .u64 (lo / 4294967296) 65535), .int .u64 0, .int .u64 0]) HY.out 2 _ rfl⟩
  replace HB := Aside0.mk (HB.out.setCell (p := ⟨ga, 2, none⟩) HG.out (.int .u64 (Go.bits .and .u64 (hi / 65536) 65535)))
  generalize V2.setCell ⟨ga, 2, none⟩ (.int .u64 (Go.bits .and .u64 (hi / 65536) 65535)) = U2 at HX HY HB ⊢
  refine hK.out _ _ ⟨(blk_cell HX.out 1).trans rfl, (blk_cell HX.out 2).trans rfl⟩ (fun _ => ?_)
  clear hK K
  refine zp 19 53 HT_ ?_
  have hc : U2.cell? ⟨ga, 6, none⟩ = some (.int .u64 0) := (blk_cell HY.out 6).trans rfl
  have hf : U2.frozen? ⟨ga, 6, none⟩ = false := blk_frozen HY.out 6
  refine last_ (i := 20) (N := none) #[true, true, true, true, true, true, true, true, true, true, true, true, true, true, true, true, true, true, true, true, true] rfl rfl (one_of HT_.out (by kernel_rfl)) (by decide) (fun K hK => ?_)
  refine skip_ (w1 := U2.setCell ⟨ga, 6, none⟩ (.int .u64 (Go.bits .and .u64 (lo / 65536) 65535))) (by rfl) rfl (by go_simp) ?_
  clear hc hf
  replace HX := Aside0.mk (blk_far HX.out (p := ⟨ga, 6, none⟩) HN.out (.int .u64 (Go.bits .and .u64 (lo / 65536) 65535)))
  replace HY : Aside0 ((U2.setCell ⟨ga, 6, none⟩ (.int .u64 (Go.bits .and .u64 (lo / 65536) 65535))).heap[ga]? = some (.cells #[.int .u64 (Go.bits .and .u64 (hi / 281474976710656) 65535), .int .u64 (Go.bits .and .u64 (hi / 4294967296) 65535), .int .u64 (Go.bits .and .u64 (hi / 65536) 65535), .int .u64 0, .int .u64 (Go.bits .and .u64 (lo / 281474976710656) 65535), .int .u64 (Go.bits .and .u64 (lo / 4294967296) 65535), .int .u64 (Go.bits .and .u64 (lo / 65536) 65535), .int .u64 0] 68 (0, 0))) := ⟨blk_put (cs := #[.int .u64 (Go.bits .and .u64 (hi / 281474976710656) 65535), .int .u64 (Go.bits .and .u64 (hi / 4294967296) 65535), .int .u64 (Go.bits .and .u64 (hi / 65536) 65535), .int .u64 0, .int .u64 (Go.bits .and .u64 (lo / 281474976710656) 65535), .int .u64 (Go.bits .and .u64 (lo / 4294967296) 65535), .int .u64 0, .int .u64 0]) HY.out 6 _ rfl⟩
  replace HB := Aside0.mk (HB.out.setCell (p := ⟨ga, 6, none⟩) HG.out (.int .u64 (Go.bits .and .u64 (lo / 65536) 65535)))
  generalize U2.setCell ⟨ga, 6, none⟩ (.int .u64 (Go.bits .and .u64 (lo / 65536) 65535)) = W3 at HX HY HB ⊢
  refine hK.out _ _ ?_
  clear hK K
  refine zd HT_ ?_
  clear hHeld HT_ HW_
  go_wp2_with fail
  rw [rounds_succ]
  go_upto_region 13 with (fail)
  refine start_ (n := 21) (S := fun w' => w'.cell? ⟨g, 1, none⟩ = some (.int .u64 hi) ∧ w'.cell? ⟨g, 2, none⟩ = some (.int .u64 lo)) (ds := [20]) #[false, false, false, false, false, false, false, false, false, false, false, false, false, false, false, false, false, false, false, false, false] (by kernel_rfl) rfl rfl ⟨(blk_cell (blk_drew HX.out) 1).trans rfl, (blk_cell (blk_drew HX.out) 2).trans rfl⟩ (fun hHeld => ?_)
  refine with_tabW fmt.tab13 fmt.bits13 (fun HT_ HW_ => ?_)
  replace HX := Aside0.mk (blk_drew HX.out)
  replace HY := Aside0.mk (blk_drew HY.out)
  replace HB := Aside0.mk (below_drew1 HB.out)
  generalize W3.drew = V3 at HX HY HB hHeld ⊢
  refine zp 0 35 HT_ ?_; refine zp 1 36 HT_ ?_; refine zp (v := .int .i64 7) 2 37 HT_ ?_ (hy := fun _ => rfl); refine zp 3 38 HT_ ?_; refine zt 4 39 HT_ HW_ hHeld ?_; refine zp 5 40 HT_ ?_; refine zp (v := .int .i64 48) 6 41 HT_ ?_ (hy := fun _ => rfl); refine zp (v := .int .i64 0) 7 42 HT_ ?_ (hy := fun _ => rfl); refine zp 8 43 HT_ ?_; refine zp 9 44 HT_ ?_; refine zp 10 45 HT_ ?_; refine zt 11 46 HT_ HW_ hHeld ?_; refine zp 12 47 HT_ ?_; refine zp (v := .int .i64 48) 13 48 HT_ ?_ (hy := fun _ => rfl); refine zp (v := .int .i64 0) 14 49 HT_ ?_ (hy := fun _ => rfl); refine zp 15 50 HT_ ?_; refine zp 16 51 HT_ ?_; refine zp 17 52 HT_ ?_
  have hc : V3.cell? ⟨ga, 3, none⟩ = some (.int .u64 0) := (blk_cell HY.out 3).trans rfl
  have hf : V3.frozen? ⟨ga, 3, none⟩ = false := blk_frozen HY.out 3
  refine one_ (i := 18) (N := none) #[true, true, true, true, true, true, true, true, true, true, true, true, true, true, true, true, true, true, true, false, false] rfl rfl (one_of HT_.out (by kernel_rfl)) (by decide) (fun K hK => ?_)
  refine skip_ (w1 := V3.setCell ⟨ga, 3, none⟩ (.int .u64 (Go.bits .and .u64 (hi) 65535))) (by rfl) rfl (by go_simp) ?_
  clear hc hf
  replace HX := Aside0.mk (blk_far HX.out (p := ⟨ga, 3, none⟩) HN.out (.int .u64 (Go.bits .and .u64 (hi) 65535)))
  replace HY : Aside0 ((V3.setCell ⟨ga, 3, none⟩ (.int .u64 (Go.bits .and .u64 (hi) 65535))).heap[ga]? = some (.cells #[.int .u64 (Go.bits .and .u64 (hi / 281474976710656) 65535), .int .u64 (Go.bits .and .u64 (hi / 4294967296) 65535), .int .u64 (Go.bits .and .u64 (hi / 65536) 65535), .int .u64 (Go.bits .and .u64 (hi) 65535), .int .u64 (Go.bits .and .u64 (lo / 281474976710656) 65535), .int .u64 (Go.bits .and .u64 (lo / 4294967296) 65535), .int .u64 (Go.bits .and .u64 (lo / 65536) 65535), .int .u64 0] 68 (0, 0))) := ⟨blk_put (cs := #[.int .u64 (Go.bits .and .u64 (hi / 281474976710656) 65535), .int .u64 (Go.bits .and .u64 (hi / 4294967296) 65535), .int .u64 (Go.bits .and .u64 (hi / 65536) 65535), .int .u64 0, .int .u64 (Go.bits .and .u64 (lo / 281474976710656) 65535), .int .u64 (Go.bits .and .u64 (lo / 4294967296) 65535), .int .u64 (Go.bits .and .u64 (lo / 65536) 65535), .int .u64 0]) HY.out 3 _ rfl⟩
  replace HB := Aside0.mk (HB.out.setCell (p := ⟨ga, 3, none⟩) HG.out (.int .u64 (Go.bits .and .u64 (hi) 65535)))
  generalize V3.setCell ⟨ga, 3, none⟩ (.int .u64 (Go.bits .and .u64 (hi) 65535)) = U3 at HX HY HB ⊢
  refine hK.out _ _ ⟨(blk_cell HX.out 1).trans rfl, (blk_cell HX.out 2).trans rfl⟩ (fun _ => ?_)
  clear hK K
  refine zp 19 53 HT_ ?_
  have hc : U3.cell? ⟨ga, 7, none⟩ = some (.int .u64 0) := (blk_cell HY.out 7).trans rfl
  have hf : U3.frozen? ⟨ga, 7, none⟩ = false := blk_frozen HY.out 7
  refine last_ (i := 20) (N := none) #[true, true, true, true, true, true, true, true, true, true, true, true, true, true, true, true, true, true, true, true, true] rfl rfl (one_of HT_.out (by kernel_rfl)) (by decide) (fun K hK => ?_)
  refine skip_ (w1 := U3.setCell ⟨ga, 7, none⟩ (.int .u64 (Go.bits .and .u64 (lo) 65535))) (by rfl) rfl (by go_simp) ?_
  clear hc hf
  replace HX := Aside0.mk (blk_far HX.out (p := ⟨ga, 7, none⟩) HN.out (.int .u64 (Go.bits .and .u64 (lo) 65535)))
  replace HY : Aside0 ((U3.setCell ⟨ga, 7, none⟩ (.int .u64 (Go.bits .and .u64 (lo) 65535))).heap[ga]? = some (.cells #[.int .u64 (Go.bits .and .u64 (hi / 281474976710656) 65535), .int .u64 (Go.bits .and .u64 (hi / 4294967296) 65535), .int .u64 (Go.bits .and .u64 (hi / 65536) 65535), .int .u64 (Go.bits .and .u64 (hi) 65535), .int .u64 (Go.bits .and .u64 (lo / 281474976710656) 65535), .int .u64 (Go.bits .and .u64 (lo / 4294967296) 65535), .int .u64 (Go.bits .and .u64 (lo / 65536) 65535), .int .u64 (Go.bits .and .u64 (lo) 65535)] 68 (0, 0))) := ⟨blk_put (cs := #[.int .u64 (Go.bits .and .u64 (hi / 281474976710656) 65535), .int .u64 (Go.bits .and .u64 (hi / 4294967296) 65535), .int .u64 (Go.bits .and .u64 (hi / 65536) 65535), .int .u64 (Go.bits .and .u64 (hi) 65535), .int .u64 (Go.bits .and .u64 (lo / 281474976710656) 65535), .int .u64 (Go.bits .and .u64 (lo / 4294967296) 65535), .int .u64 (Go.bits .and .u64 (lo / 65536) 65535), .int .u64 0]) HY.out 7 _ rfl⟩
  replace HB := Aside0.mk (HB.out.setCell (p := ⟨ga, 7, none⟩) HG.out (.int .u64 (Go.bits .and .u64 (lo) 65535)))
  generalize U3.setCell ⟨ga, 7, none⟩ (.int .u64 (Go.bits .and .u64 (lo) 65535)) = W4 at HX HY HB ⊢
  refine hK.out _ _ ?_
  clear hK K
  refine zd HT_ ?_
  clear hHeld HT_ HW_
  go_wp2_with fail
  rw [rounds_succ]
  have hc0 : W4.cell? ⟨ga, 0, none⟩ = some (.int .u64 (Go.bits .and .u64 (hi / 281474976710656) 65535)) := (blk_cell HY.out 0).trans rfl
  have hc1 : W4.cell? ⟨ga, 1, none⟩ = some (.int .u64 (Go.bits .and .u64 (hi / 4294967296) 65535)) := (blk_cell HY.out 1).trans rfl
  have hc2 : W4.cell? ⟨ga, 2, none⟩ = some (.int .u64 (Go.bits .and .u64 (hi / 65536) 65535)) := (blk_cell HY.out 2).trans rfl
  have hc3 : W4.cell? ⟨ga, 3, none⟩ = some (.int .u64 (Go.bits .and .u64 (hi) 65535)) := (blk_cell HY.out 3).trans rfl
  have hc4 : W4.cell? ⟨ga, 4, none⟩ = some (.int .u64 (Go.bits .and .u64 (lo / 281474976710656) 65535)) := (blk_cell HY.out 4).trans rfl
  have hc5 : W4.cell? ⟨ga, 5, none⟩ = some (.int .u64 (Go.bits .and .u64 (lo / 4294967296) 65535)) := (blk_cell HY.out 5).trans rfl
  have hc6 : W4.cell? ⟨ga, 6, none⟩ = some (.int .u64 (Go.bits .and .u64 (lo / 65536) 65535)) := (blk_cell HY.out 6).trans rfl
  have hc7 : W4.cell? ⟨ga, 7, none⟩ = some (.int .u64 (Go.bits .and .u64 (lo) 65535)) := (blk_cell HY.out 7).trans rfl
  go_wp2_with fail
  clear hc0 hc1 hc2 hc3 hc4 hc5 hc6 hc7
  refine (run_g hi lo _).mono ?_
  rintro e w2 ⟨rfl, hb⟩
  replace HX := Aside0.mk (blk_below HX.out hb)
  replace HY := Aside0.mk (blk_below HY.out hb)
  replace HB := Aside0.mk (below_step HB.out hb)
  clear hb
  have HC : Aside0 (∀ k : Nat, k < 8 → (#[.int .u64 (Go.bits .and .u64 (hi / 281474976710656) 65535), .int .u64 (Go.bits .and .u64 (hi / 4294967296) 65535), .int .u64 (Go.bits .and .u64 (hi / 65536) 65535), .int .u64 (Go.bits .and .u64 (hi) 65535), .int .u64 (Go.bits .and .u64 (lo / 281474976710656) 65535), .int .u64 (Go.bits .and .u64 (lo / 4294967296) 65535), .int .u64 (Go.bits .and .u64 (lo / 65536) 65535), .int .u64 (Go.bits .and .u64 (lo) 65535)] : Array Value)[k]? = some (.int .u64 ((grpL hi lo).getD k 0))) := ⟨fun k hk => by
    rcases k with _ | _ | _ | _ | _ | _ | _ | _ | k <;> first | omega | rfl⟩
  have HH : Aside0 (∀ k : Nat, k < 8 → 0 ≤ (grpL hi lo).getD k 0 ∧ (grpL hi lo).getD k 0 < 65536) := ⟨fun k hk => by
    rcases k with _ | _ | _ | _ | _ | _ | _ | _ | k <;> first | omega | exact and65535 _⟩
  have HP := Aside0.mk (runF_ok (grpL hi lo))
  have H0 : Aside0 (TxtI (grpL hi lo) (runF (grpL hi lo) 8 0 (0, 0)).1 (runF (grpL hi lo) 8 0 (0, 0)).2 8 0 ⟨#[]⟩ r) := ⟨⟨by omega, by omega, HR.out, by decide⟩⟩
  clear HR
  generalize grpL hi lo = l at HC HH HP H0 ⊢
  generalize (#[.int .u64 (Go.bits .and .u64 (hi / 281474976710656) 65535), .int .u64 (Go.bits .and .u64 (hi / 4294967296) 65535), .int .u64 (Go.bits .and .u64 (hi / 65536) 65535), .int .u64 (Go.bits .and .u64 (hi) 65535), .int .u64 (Go.bits .and .u64 (lo / 281474976710656) 65535), .int .u64 (Go.bits .and .u64 (lo / 4294967296) 65535), .int .u64 (Go.bits .and .u64 (lo / 65536) 65535), .int .u64 (Go.bits .and .u64 (lo) 65535)] : Array Value) = C at HC HY
  obtain ⟨pq, hpq⟩ : ∃ pq, runF l 8 0 (0, 0) = pq := ⟨_, rfl⟩
  rw [hpq] at HP H0
  simp only [hpq]
  clear hpq
  obtain ⟨p, q⟩ := pq
  dsimp only at HP H0 ⊢
  go_wp2_with fail
  go_loopg [9, 10] 8 (fun gg v9 v10 wr => ∃ (i : Nat) (o : ByteArray), v9 = .string o ∧ v10 = .int .i64 (i : Int) ∧ Aside0 (TxtI l p q gg i o r) ∧ Aside0 (wr.heap[ga]? = some (.cells C 68 (0, 0))) ∧ Aside0 (Below w.heap.size w wr))
  case atStart => exact ⟨0, _, rfl, rfl, H0, HY, HB⟩
  case round =>
    obtain ⟨i, o, rfl, rfl, HT, HY, HB⟩ := hrel
    clear H0
    by_cases hi8 : i < 8
    · obtain ⟨m, rfl⟩ := HT.out.pos hi8
      have hlt := r_lt hi8
      have hlt2 := r_ltd hi8
      have hc : wr.cell? ⟨ga, i, none⟩ = some (.int .u64 (l.getD i 0)) := (blk_cell HY.out i).trans (HC.out i hi8)
      have HV := Aside0.mk (HH.out i hi8)
      obtain ⟨x, hx⟩ : ∃ x, l.getD i 0 = x := ⟨_, rfl⟩
      rw [hx] at hc HV
      have HS := Aside0.mk (r_suc (Nat.le_of_lt hi8))
      have HE := Aside0.mk hx
      clear hx
      have HI := Aside0.mk hi8
      clear hi8
      by_cases hip : i = p
      · have he1 := i_eq hip
        have he2 := i_eqd hip
        by_cases hq : 1 < q - p
        · have hg1 := q_gt hq HP.out.2
          have HN := Aside0.mk (HT.out.gap HI.out hip hq HP.out.2)
          have hs2 := sz_2 HT.out
          have HS2 := Aside0.mk (q_next hq HP.out.2)
          clear hip hq
          go_wp2_with fail
          go_roundg m
          case measure => exact Nat.lt_succ_self m
          case rel => exact ⟨q, _, rfl, by rw [HS2.out], HN, HY, HB⟩
        · have hg1 := q_ngt hq HP.out
          have HNP : Aside0 (¬ (i = p ∧ 1 < q - p)) := ⟨fun h => hq h.2⟩
          clear hip hq
          by_cases ho : o.toList = []
          · have ho1 : (o.toList == ([] : List UInt8)) = true := beq_iff_eq.mpr ho
            have ho2 : (o.toList != ([] : List UInt8)) = false := bne_eq_false_iff_eq.mpr ho
            have HN := Aside0.mk (HT.out.hexA HE.out HI.out HNP.out (fun h => h.1 ho))
            clear ho
            go_wp2_with fail
            refine (strconv_FormatUint.calls _ _ _ _ (hex_u HV.out) (HW.out.below HB.out)).mono ?_
            rintro e w4 ⟨rfl, hb⟩
            replace HY := Aside0.mk (blk_below HY.out hb)
            replace HB := Aside0.mk (below_step HB.out hb)
            clear hb
            generalize (⟨(hexL 4 x.toNat).toArray⟩ : ByteArray) = hx at HN ⊢
            have hs4 := sz_h HN.out
            try rw [ByteArray.size_append, show (⟨#[58]⟩ : ByteArray).size = 1 from rfl] at hs4
            go_wp2_with fail
            go_roundg m
            case measure => exact Nat.lt_succ_self m
            case rel => exact ⟨i + 1, _, rfl, by rw [HS.out], HN, HY, HB⟩
          · have ho1 : (o.toList == ([] : List UInt8)) = false := beq_eq_false_iff_ne.mpr ho
            have ho2 : (o.toList != ([] : List UInt8)) = true := bne_iff_ne.mpr ho
            have HO := Aside0.mk ho
            clear ho
            go_wp2_with fail
            refine (strings_HasSuffix.calls _ _ _ _ (suf_u (Nat.le_trans (Nat.le_add_right _ _) HT.out.sz))).mono ?_
            rintro e w3 ⟨rfl, hb⟩
            replace HY := Aside0.mk (blk_below HY.out hb)
            replace HB := Aside0.mk (below_step HB.out hb)
            clear hb hc
            have hc : w3.cell? ⟨ga, i, none⟩ = some (.int .u64 x) := (blk_cell HY.out i).trans ((HC.out i HI.out).trans (by rw [HE.out]))
            cases hs : Lib.hasSuffix o.data.toList [58] with
            | true =>
              have HN := Aside0.mk (HT.out.hexA HE.out HI.out HNP.out (fun h => Bool.noConfusion (hs.symm.trans h.2)))
              clear hs
              go_wp2_with fail
              refine (strconv_FormatUint.calls _ _ _ _ (hex_u HV.out) (HW.out.below HB.out)).mono ?_
              rintro e w4 ⟨rfl, hb⟩
              replace HY := Aside0.mk (blk_below HY.out hb)
              replace HB := Aside0.mk (below_step HB.out hb)
              clear hb
              generalize (⟨(hexL 4 x.toNat).toArray⟩ : ByteArray) = hx at HN ⊢
              have hs4 := sz_h HN.out
              try rw [ByteArray.size_append, show (⟨#[58]⟩ : ByteArray).size = 1 from rfl] at hs4
              go_wp2_with fail
              go_roundg m
              case measure => exact Nat.lt_succ_self m
              case rel => exact ⟨i + 1, _, rfl, by rw [HS.out], HN, HY, HB⟩
            | false =>
              have HN := Aside0.mk (HT.out.hexB HE.out HI.out HNP.out ⟨HO.out, hs⟩)
              have hs1 := sz_1 HT.out
              clear hs
              go_wp2_with fail
              refine (strconv_FormatUint.calls _ _ _ _ (hex_u HV.out) (HW.out.below HB.out)).mono ?_
              rintro e w4 ⟨rfl, hb⟩
              replace HY := Aside0.mk (blk_below HY.out hb)
              replace HB := Aside0.mk (below_step HB.out hb)
              clear hb
              generalize (⟨(hexL 4 x.toNat).toArray⟩ : ByteArray) = hx at HN ⊢
              have hs4 := sz_h HN.out
              try rw [ByteArray.size_append, show (⟨#[58]⟩ : ByteArray).size = 1 from rfl] at hs4
              go_wp2_with fail
              go_roundg m
              case measure => exact Nat.lt_succ_self m
              case rel => exact ⟨i + 1, _, rfl, by rw [HS.out], HN, HY, HB⟩
      · have he1 := i_ne hip
        have he2 := i_ned hip
        have HNP : Aside0 (¬ (i = p ∧ 1 < q - p)) := ⟨fun h => hip h.1⟩
        clear hip
        by_cases ho : o.toList = []
        · have ho1 : (o.toList == ([] : List UInt8)) = true := beq_iff_eq.mpr ho
          have ho2 : (o.toList != ([] : List UInt8)) = false := bne_eq_false_iff_eq.mpr ho
          have HN := Aside0.mk (HT.out.hexA HE.out HI.out HNP.out (fun h => h.1 ho))
          clear ho
          go_wp2_with fail
          refine (strconv_FormatUint.calls _ _ _ _ (hex_u HV.out) (HW.out.below HB.out)).mono ?_
          rintro e w4 ⟨rfl, hb⟩
          replace HY := Aside0.mk (blk_below HY.out hb)
          replace HB := Aside0.mk (below_step HB.out hb)
          clear hb
          generalize (⟨(hexL 4 x.toNat).toArray⟩ : ByteArray) = hx at HN ⊢
          have hs4 := sz_h HN.out
          try rw [ByteArray.size_append, show (⟨#[58]⟩ : ByteArray).size = 1 from rfl] at hs4
          go_wp2_with fail
          go_roundg m
          case measure => exact Nat.lt_succ_self m
          case rel => exact ⟨i + 1, _, rfl, by rw [HS.out], HN, HY, HB⟩
        · have ho1 : (o.toList == ([] : List UInt8)) = false := beq_eq_false_iff_ne.mpr ho
          have ho2 : (o.toList != ([] : List UInt8)) = true := bne_iff_ne.mpr ho
          have HO := Aside0.mk ho
          clear ho
          go_wp2_with fail
          refine (strings_HasSuffix.calls _ _ _ _ (suf_u (Nat.le_trans (Nat.le_add_right _ _) HT.out.sz))).mono ?_
          rintro e w3 ⟨rfl, hb⟩
          replace HY := Aside0.mk (blk_below HY.out hb)
          replace HB := Aside0.mk (below_step HB.out hb)
          clear hb hc
          have hc : w3.cell? ⟨ga, i, none⟩ = some (.int .u64 x) := (blk_cell HY.out i).trans ((HC.out i HI.out).trans (by rw [HE.out]))
          cases hs : Lib.hasSuffix o.data.toList [58] with
          | true =>
            have HN := Aside0.mk (HT.out.hexA HE.out HI.out HNP.out (fun h => Bool.noConfusion (hs.symm.trans h.2)))
            clear hs
            go_wp2_with fail
            refine (strconv_FormatUint.calls _ _ _ _ (hex_u HV.out) (HW.out.below HB.out)).mono ?_
            rintro e w4 ⟨rfl, hb⟩
            replace HY := Aside0.mk (blk_below HY.out hb)
            replace HB := Aside0.mk (below_step HB.out hb)
            clear hb
            generalize (⟨(hexL 4 x.toNat).toArray⟩ : ByteArray) = hx at HN ⊢
            have hs4 := sz_h HN.out
            try rw [ByteArray.size_append, show (⟨#[58]⟩ : ByteArray).size = 1 from rfl] at hs4
            go_wp2_with fail
            go_roundg m
            case measure => exact Nat.lt_succ_self m
            case rel => exact ⟨i + 1, _, rfl, by rw [HS.out], HN, HY, HB⟩
          | false =>
            have HN := Aside0.mk (HT.out.hexB HE.out HI.out HNP.out ⟨HO.out, hs⟩)
            have hs1 := sz_1 HT.out
            clear hs
            go_wp2_with fail
            refine (strconv_FormatUint.calls _ _ _ _ (hex_u HV.out) (HW.out.below HB.out)).mono ?_
            rintro e w4 ⟨rfl, hb⟩
            replace HY := Aside0.mk (blk_below HY.out hb)
            replace HB := Aside0.mk (below_step HB.out hb)
            clear hb
            generalize (⟨(hexL 4 x.toNat).toArray⟩ : ByteArray) = hx at HN ⊢
            have hs4 := sz_h HN.out
            try rw [ByteArray.size_append, show (⟨#[58]⟩ : ByteArray).size = 1 from rfl] at hs4
            go_wp2_with fail
            go_roundg m
            case measure => exact Nat.lt_succ_self m
            case rel => exact ⟨i + 1, _, rfl, by rw [HS.out], HN, HY, HB⟩
    · have hlt := r_ge hi8
      have hlt2 := r_ged hi8
      have e := HT.out.fin hi8
      subst e
      clear hi8
      go_wp2_with fail
      exact bodyPost_ret (v := .string o) (by simp [results, Tryd.results33, go_sem]) rfl ⟨rfl, HB.out⟩
def address_Format.f (a0 : Bool) (a1 a2 : Int) : Option ByteArray := if a0 = true then some (fmt6 a1 a2) else strings_Join.f [decB (Go.bits .and .u64 (a2 / 16777216) 255), decB (Go.bits .and .u64 (a2 / 65536) 255), decB (Go.bits .and .u64 (a2 / 256) 255), decB (Go.bits .and .u64 (a2) 255)] (⟨#[46]⟩ : ByteArray)
theorem address_Format.calls (a0 : Bool) (a1 a2 : Int) (r : ByteArray) (w : World) (h : address_Format.f a0 a1 a2 = some r) (hW : WOK w) :
    Calls Tryd.prog 33 #[.agg #[.bool a0, .int .u64 a1, .int .u64 a2]] w fun e w' => e = .returned (.string r) ∧ Below w.heap.size w w' := by
  unfold address_Format.f at h
  cases a0 with
  | true =>
    rw [if_pos rfl] at h
    injection h with h
    subst h
    exact format6 a1 a2 w hW
  | false =>
    rw [if_neg (by decide)] at h
    exact format4 a1 a2 r w h hW
end Go.Proofs.YtlgfinnldhjgeaaDoor.Q
end

section
set_option linter.unusedVariables false
set_option linter.unusedSimpArgs false
namespace Go.Proofs.YtlgfinnldhjgeaaDoor.Q
open Go.RowKit Go.Proofs.YtlgfinnldhjgeaaDoorW.PrintWords Go.Proofs.YtlgfinnldhjgeaaDoorW.PrintLast Go.Proofs.YtlgfinnldhjgeaaDoorW.PrintMore
theorem lives06.e1 : address_Parse.f 40 (⟨#[58, 58, 49, 58, 48]⟩ : ByteArray) = some (true, 0, 65536, 0) := by kernel_rfl
theorem lives06.e2 : address_ParsePrefix.f 40 (⟨#[49, 48, 46, 48, 46, 48, 46, 48, 47, 56]⟩ : ByteArray) = some (false, 0, 167772160, 8, 0) := by kernel_rfl
theorem lives06.e3 : address_Parse.f 40 (⟨#[49, 48, 46, 49, 46, 50, 46, 51]⟩ : ByteArray) = some (false, 0, 167838211, 0) := by kernel_rfl
theorem lives06.e4 : address_Next.f false 0 255 = some (false, 0, 256, true) := by kernel_rfl
theorem lives06.e5 : address_Contains.f false 0 167772160 8 false 0 167838211 = some true := by kernel_rfl
theorem lives06.e6 : address_Format.f false 0 167838211 = some ⟨#[49, 48, 46, 49, 46, 50, 46, 51]⟩ := by kernel_rfl
theorem lives06.e7 : address_Format.f true 0 65536 = some ⟨#[58, 58, 49, 58, 48]⟩ := by kernel_rfl
theorem lives06.e8 : address_Compare.f false 0 167838211 true 0 65536 = some (-1) := by kernel_rfl
theorem lives06.e9 : address_Valid.f false 0 167838211 = some true := by kernel_rfl
def intrusionlaw06_lives.f : Option Bool := some true
set_option maxHeartbeats 4000000 in
set_option maxRecDepth 100000 in
theorem intrusionlaw06_lives.calls (r : Bool) (w : World) (h : intrusionlaw06_lives.f = some r) (hW : WOK w) :
    Calls Tryd.prog 10 #[] w fun e w' => e = .returned (.bool r) ∧ Below w.heap.size w w' := by
  injection h with h
  subst h
  have HW := Aside0.mk hW
  have HB : Aside0 (Below w.heap.size w w) := ⟨Below.refl _ _⟩
  clear hW
  go_enter Tryd.func10, Tryd.ntmps10
  go_wp2_with fail
  refine (address_Parse.calls 40 _ _ _ _ _ _ lives06.e1 (HW.out.below HB.out)).mono ?_
  rintro e w1 ⟨rfl, hb⟩
  replace HB := Aside0.mk (below_step HB.out hb)
  clear hb
  have HXa : Aside0 ((w1.alloc (.cells #[.bool true, .int .u64 0, .int .u64 65536] 25)).heap[w1.heap.size]? = some (.cells #[.bool true, .int .u64 0, .int .u64 65536] 25 (0, 0))) := ⟨heap_alloc_new _ _⟩
  replace HB := Aside0.mk (below_alloc HB.out (.cells #[.bool true, .int .u64 0, .int .u64 65536] 25))
  go_wp2_with fail
  obtain ⟨ga, hg⟩ : ∃ g, w1.heap.size = g := ⟨_, rfl⟩
  rw [hg] at HXa
  simp only [hg]
  clear hg
  generalize w1.alloc (.cells #[.bool true, .int .u64 0, .int .u64 65536] 25) = Wa at HXa HB ⊢
  refine (address_ParsePrefix.calls 40 _ _ _ _ _ _ _ lives06.e2 (HW.out.below HB.out)).mono ?_
  rintro e w2 ⟨rfl, hb⟩
  replace HB := Aside0.mk (below_step HB.out hb)
  replace HXa := Aside0.mk (blk_below HXa.out hb)
  clear hb
  have HXp : Aside0 ((w2.alloc (.cells #[.bool false, .int .u64 0, .int .u64 167772160, .int .i64 8] 30)).heap[w2.heap.size]? = some (.cells #[.bool false, .int .u64 0, .int .u64 167772160, .int .i64 8] 30 (0, 0))) := ⟨heap_alloc_new _ _⟩
  replace HXa := Aside0.mk (blk_alloc HXa.out (.cells #[.bool false, .int .u64 0, .int .u64 167772160, .int .i64 8] 30))
  replace HB := Aside0.mk (below_alloc HB.out (.cells #[.bool false, .int .u64 0, .int .u64 167772160, .int .i64 8] 30))
  go_wp2_with fail
  obtain ⟨gp, hg⟩ : ∃ g, w2.heap.size = g := ⟨_, rfl⟩
  rw [hg] at HXp
  simp only [hg]
  clear hg
  generalize w2.alloc (.cells #[.bool false, .int .u64 0, .int .u64 167772160, .int .i64 8] 30) = Wp at HXa HXp HB ⊢
  refine (address_Parse.calls 40 _ _ _ _ _ _ lives06.e3 (HW.out.below HB.out)).mono ?_
  rintro e w3 ⟨rfl, hb⟩
  replace HB := Aside0.mk (below_step HB.out hb)
  replace HXa := Aside0.mk (blk_below HXa.out hb)
  replace HXp := Aside0.mk (blk_below HXp.out hb)
  clear hb
  have HXb : Aside0 ((w3.alloc (.cells #[.bool false, .int .u64 0, .int .u64 167838211] 25)).heap[w3.heap.size]? = some (.cells #[.bool false, .int .u64 0, .int .u64 167838211] 25 (0, 0))) := ⟨heap_alloc_new _ _⟩
  replace HXa := Aside0.mk (blk_alloc HXa.out (.cells #[.bool false, .int .u64 0, .int .u64 167838211] 25))
  replace HXp := Aside0.mk (blk_alloc HXp.out (.cells #[.bool false, .int .u64 0, .int .u64 167838211] 25))
  replace HB := Aside0.mk (below_alloc HB.out (.cells #[.bool false, .int .u64 0, .int .u64 167838211] 25))
  go_wp2_with fail
  obtain ⟨gb, hg⟩ : ∃ g, w3.heap.size = g := ⟨_, rfl⟩
  rw [hg] at HXb
  simp only [hg]
  clear hg
  generalize w3.alloc (.cells #[.bool false, .int .u64 0, .int .u64 167838211] 25) = Wb at HXa HXp HXb HB ⊢
  refine (address_Next.calls _ _ _ _ _ _ _ _ lives06.e4).mono ?_
  rintro e w4 ⟨rfl, hb⟩
  replace HB := Aside0.mk (below_step HB.out hb)
  replace HXa := Aside0.mk (blk_below HXa.out hb)
  replace HXp := Aside0.mk (blk_below HXp.out hb)
  replace HXb := Aside0.mk (blk_below HXb.out hb)
  clear hb
  have HXn : Aside0 ((w4.alloc (.cells #[.bool false, .int .u64 0, .int .u64 256] 25)).heap[w4.heap.size]? = some (.cells #[.bool false, .int .u64 0, .int .u64 256] 25 (0, 0))) := ⟨heap_alloc_new _ _⟩
  replace HXa := Aside0.mk (blk_alloc HXa.out (.cells #[.bool false, .int .u64 0, .int .u64 256] 25))
  replace HXp := Aside0.mk (blk_alloc HXp.out (.cells #[.bool false, .int .u64 0, .int .u64 256] 25))
  replace HXb := Aside0.mk (blk_alloc HXb.out (.cells #[.bool false, .int .u64 0, .int .u64 256] 25))
  replace HB := Aside0.mk (below_alloc HB.out (.cells #[.bool false, .int .u64 0, .int .u64 256] 25))
  go_upto_region 5 with (fail)
  obtain ⟨gn, hg⟩ : ∃ g, w4.heap.size = g := ⟨_, rfl⟩
  rw [hg] at HXn
  simp only [hg]
  clear hg
  generalize w4.alloc (.cells #[.bool false, .int .u64 0, .int .u64 256] 25) = Wn at HXa HXp HXb HXn HB ⊢
  obtain ⟨ca0, ca1, ca2⟩ := zc3 HXa
  obtain ⟨cp0, cp1, cp2, cp3⟩ := zc4 HXp
  obtain ⟨cb0, cb1, cb2⟩ := zc3 HXb
  obtain ⟨cn0, cn1, cn2⟩ := zc3 HXn
  go_wp2_with fail
  clear ca0 ca1 ca2
  clear cp0 cp1 cp2 cp3
  clear cb0 cb1 cb2
  clear cn0 cn1 cn2
  refine (address_Contains.calls _ _ _ _ _ _ _ _ _ lives06.e5).mono ?_
  rintro e w5 ⟨rfl, hb⟩
  replace HB := Aside0.mk (below_step HB.out hb)
  replace HXa := Aside0.mk (blk_below HXa.out hb)
  replace HXp := Aside0.mk (blk_below HXp.out hb)
  replace HXb := Aside0.mk (blk_below HXb.out hb)
  replace HXn := Aside0.mk (blk_below HXn.out hb)
  clear hb
  obtain ⟨ca0, ca1, ca2⟩ := zc3 HXa
  obtain ⟨cp0, cp1, cp2, cp3⟩ := zc4 HXp
  obtain ⟨cb0, cb1, cb2⟩ := zc3 HXb
  obtain ⟨cn0, cn1, cn2⟩ := zc3 HXn
  go_wp2_with fail
  clear ca0 ca1 ca2
  clear cp0 cp1 cp2 cp3
  clear cb0 cb1 cb2
  clear cn0 cn1 cn2
  refine (address_Valid.calls _ _ _ _ _ lives06.e9).mono ?_
  rintro e w6 ⟨rfl, hb⟩
  replace HB := Aside0.mk (below_step HB.out hb)
  replace HXa := Aside0.mk (blk_below HXa.out hb)
  replace HXp := Aside0.mk (blk_below HXp.out hb)
  replace HXb := Aside0.mk (blk_below HXb.out hb)
  replace HXn := Aside0.mk (blk_below HXn.out hb)
  clear hb
  obtain ⟨ca0, ca1, ca2⟩ := zc3 HXa
  obtain ⟨cp0, cp1, cp2, cp3⟩ := zc4 HXp
  obtain ⟨cb0, cb1, cb2⟩ := zc3 HXb
  obtain ⟨cn0, cn1, cn2⟩ := zc3 HXn
  go_wp2_with fail
  clear ca0 ca1 ca2
  clear cp0 cp1 cp2 cp3
  clear cb0 cb1 cb2
  clear cn0 cn1 cn2
  refine (address_Format.calls _ _ _ _ _ lives06.e6 (HW.out.below HB.out)).mono ?_
  rintro e w7 ⟨rfl, hb⟩
  replace HB := Aside0.mk (below_step HB.out hb)
  replace HXa := Aside0.mk (blk_below HXa.out hb)
  replace HXp := Aside0.mk (blk_below HXp.out hb)
  replace HXb := Aside0.mk (blk_below HXb.out hb)
  replace HXn := Aside0.mk (blk_below HXn.out hb)
  clear hb
  obtain ⟨ca0, ca1, ca2⟩ := zc3 HXa
  obtain ⟨cp0, cp1, cp2, cp3⟩ := zc4 HXp
  obtain ⟨cb0, cb1, cb2⟩ := zc3 HXb
  obtain ⟨cn0, cn1, cn2⟩ := zc3 HXn
  go_wp2_with fail
  clear ca0 ca1 ca2
  clear cp0 cp1 cp2 cp3
  clear cb0 cb1 cb2
  clear cn0 cn1 cn2
  refine (address_Format.calls _ _ _ _ _ lives06.e7 (HW.out.below HB.out)).mono ?_
  rintro e w8 ⟨rfl, hb⟩
  replace HB := Aside0.mk (below_step HB.out hb)
  replace HXa := Aside0.mk (blk_below HXa.out hb)
  replace HXp := Aside0.mk (blk_below HXp.out hb)
  replace HXb := Aside0.mk (blk_below HXb.out hb)
  replace HXn := Aside0.mk (blk_below HXn.out hb)
  clear hb
  obtain ⟨ca0, ca1, ca2⟩ := zc3 HXa
  obtain ⟨cp0, cp1, cp2, cp3⟩ := zc4 HXp
  obtain ⟨cb0, cb1, cb2⟩ := zc3 HXb
  obtain ⟨cn0, cn1, cn2⟩ := zc3 HXn
  go_wp2_with fail
  clear ca0 ca1 ca2
  clear cp0 cp1 cp2 cp3
  clear cb0 cb1 cb2
  clear cn0 cn1 cn2
  refine (address_Compare.calls _ _ _ _ _ _ _ _ lives06.e8).mono ?_
  rintro e w9 ⟨rfl, hb⟩
  replace HB := Aside0.mk (below_step HB.out hb)
  replace HXa := Aside0.mk (blk_below HXa.out hb)
  replace HXp := Aside0.mk (blk_below HXp.out hb)
  replace HXb := Aside0.mk (blk_below HXb.out hb)
  replace HXn := Aside0.mk (blk_below HXn.out hb)
  clear hb
  obtain ⟨ca0, ca1, ca2⟩ := zc3 HXa
  obtain ⟨cp0, cp1, cp2, cp3⟩ := zc4 HXp
  obtain ⟨cb0, cb1, cb2⟩ := zc3 HXb
  obtain ⟨cn0, cn1, cn2⟩ := zc3 HXn
  go_wp2_with fail
  exact bodyPost_ret (v := .bool true) (by simp [results, Tryd.results10, go_sem]) rfl ⟨rfl, HB.out⟩
end Go.Proofs.YtlgfinnldhjgeaaDoor.Q
end

section
namespace Go.Proofs.YtlgfinnldhjgeaaDoor.Q
open Go.RowKit Go.Proofs.YtlgfinnldhjgeaaDoorW.PrintWords Go.Proofs.YtlgfinnldhjgeaaDoorW.PrintLast Go.Proofs.YtlgfinnldhjgeaaDoorW.PrintMore
attribute [local go_sem] max2_int min2_int max_two min_two max_three min_three max_four min_four
set_option linter.unusedVariables false
set_option linter.unusedSimpArgs false
attribute [local go_sem high] eqA25
mutual
def intrusionlaw06_AddressSteps.j0 : Nat → Bool → Bool → Int → Int → Bool → Int → Int → Bool → Int → Int → Option (Bool)
  | 0, _, _, _, _, _, _, _, _, _, _ => none
  | k + 1, x25, x344000, x344001, x344002, x345000, x345001, x345002, x346000, x346001, x346002 => if x25 = true then (some true) else ((address_Next.f x344000 x344001 x344002).bind fun bt350 => (if bt350.2.2.2 = true then ((address_Previous.f bt350.1 bt350.2.1 bt350.2.2.1).bind fun bt355 => (if bt355.2.2.2 = true then (if (!(bt355.1 == x344000) || (!(bt355.2.1 == x344001) || (!(bt355.2.2.1 == x344002)))) = true then (some false) else ((address_Compare.f x344000 x344001 x344002 bt350.1 bt350.2.1 bt350.2.2.1).bind fun t360 => (if t360 = (-1) then ((address_Compare.f bt350.1 bt350.2.1 bt350.2.2.1 x344000 x344001 x344002).bind fun t361 => (if t361 = 1 then ((address_Compare.f x344000 x344001 x344002 x345000 x345001 x345002).bind fun t362 => (if t362 < 0 then ((address_Compare.f bt350.1 bt350.2.1 bt350.2.2.1 x345000 x345001 x345002).bind fun t363 => (if t363 > 0 then (if (x344000 == x345000) = true then (some false) else (intrusionlaw06_AddressSteps.j1 k x344000 x344001 x344002 x345000 x345001 x345002 x346000 x346001 x346002)) else (intrusionlaw06_AddressSteps.j1 k x344000 x344001 x344002 x345000 x345001 x345002 x346000 x346001 x346002))) else (intrusionlaw06_AddressSteps.j1 k x344000 x344001 x344002 x345000 x345001 x345002 x346000 x346001 x346002))) else (some false))) else (some false)))) else (some false))) else (intrusionlaw06_AddressSteps.j1 k x344000 x344001 x344002 x345000 x345001 x345002 x346000 x346001 x346002)))
def intrusionlaw06_AddressSteps.j1 : Nat → Bool → Int → Int → Bool → Int → Int → Bool → Int → Int → Option (Bool)
  | 0, _, _, _, _, _, _, _, _, _ => none
  | k + 1, x344000, x344001, x344002, x345000, x345001, x345002, x346000, x346001, x346002 => (address_Compare.f x344000 x344001 x344002 x345000 x345001 x345002).bind fun t364 => (if ((t364 == 0) != (x344000 == x345000 && (x344001 == x345001 && (x344002 == x345002)))) = true then (intrusionlaw06_AddressSteps.j2 k true x344000 x344001 x344002 x345000 x345001 x345002 x346000 x346001 x346002) else ((address_Compare.f x344000 x344001 x344002 x345000 x345001 x345002).bind fun t365 => ((address_Compare.f x345000 x345001 x345002 x344000 x344001 x344002).bind fun t366 => (intrusionlaw06_AddressSteps.j2 k (t365 != (wrap64 (-t366))) x344000 x344001 x344002 x345000 x345001 x345002 x346000 x346001 x346002))))
def intrusionlaw06_AddressSteps.j2 : Nat → Bool → Bool → Int → Int → Bool → Int → Int → Bool → Int → Int → Option (Bool)
  | 0, _, _, _, _, _, _, _, _, _, _ => none
  | k + 1, x92, x344000, x344001, x344002, x345000, x345001, x345002, x346000, x346001, x346002 => if x92 = true then (some false) else ((address_Compare.f x344000 x344001 x344002 x345000 x345001 x345002).bind fun t367 => (if t367 > 0 then (some true) else ((address_Compare.f x345000 x345001 x345002 x346000 x346001 x346002).bind fun t368 => (if t368 > 0 then (some true) else ((address_Compare.f x344000 x344001 x344002 x346000 x346001 x346002).bind fun t369 => (some (decide (t369 ≤ 0))))))))
end
def intrusionlaw06_AddressSteps.f (k : Nat) (a0_0 : Bool) (a0_1 : Int) (a0_2 : Int) (a1_0 : Bool) (a1_1 : Int) (a1_2 : Int) (a2_0 : Bool) (a2_1 : Int) (a2_2 : Int) : Option (Bool) := (intrusionlaw06_lives.f).bind fun t346 => (if t346 = true then ((address_Valid.f a0_0 a0_1 a0_2).bind fun t347 => (if t347 = true then ((address_Valid.f a1_0 a1_1 a1_2).bind fun t348 => (if t348 = true then ((address_Valid.f a2_0 a2_1 a2_2).bind fun t349 => (intrusionlaw06_AddressSteps.j0 k (!t349) a0_0 a0_1 a0_2 a1_0 a1_1 a1_2 a2_0 a2_1 a2_2)) else (intrusionlaw06_AddressSteps.j0 k true a0_0 a0_1 a0_2 a1_0 a1_1 a1_2 a2_0 a2_1 a2_2))) else (intrusionlaw06_AddressSteps.j0 k true a0_0 a0_1 a0_2 a1_0 a1_1 a1_2 a2_0 a2_1 a2_2))) else (some false))
theorem intrusionlaw06_AddressSteps.mono_l : ∀ k, (∀ y0 y1 y2 y3 y4 y5 y6 y7 y8 y9, LeO (intrusionlaw06_AddressSteps.j0 k y0 y1 y2 y3 y4 y5 y6 y7 y8 y9) (intrusionlaw06_AddressSteps.j0 (k + 1) y0 y1 y2 y3 y4 y5 y6 y7 y8 y9)) ∧ (∀ y0 y1 y2 y3 y4 y5 y6 y7 y8, LeO (intrusionlaw06_AddressSteps.j1 k y0 y1 y2 y3 y4 y5 y6 y7 y8) (intrusionlaw06_AddressSteps.j1 (k + 1) y0 y1 y2 y3 y4 y5 y6 y7 y8)) ∧ (∀ y0 y1 y2 y3 y4 y5 y6 y7 y8 y9, LeO (intrusionlaw06_AddressSteps.j2 k y0 y1 y2 y3 y4 y5 y6 y7 y8 y9) (intrusionlaw06_AddressSteps.j2 (k + 1) y0 y1 y2 y3 y4 y5 y6 y7 y8 y9))
  | 0 => ⟨fun _ _ _ _ _ _ _ _ _ _ r h => by simp [intrusionlaw06_AddressSteps.j0] at h, fun _ _ _ _ _ _ _ _ _ r h => by simp [intrusionlaw06_AddressSteps.j1] at h, fun _ _ _ _ _ _ _ _ _ _ r h => by simp [intrusionlaw06_AddressSteps.j2] at h⟩
  | k + 1 => by
    obtain ⟨ih0, ih1, ih2⟩ := intrusionlaw06_AddressSteps.mono_l k
    refine ⟨?_, ?_, ?_⟩
    · intro y0 y1 y2 y3 y4 y5 y6 y7 y8 y9
      unfold intrusionlaw06_AddressSteps.j0
      repeat' first
      | (with_reducible exact ih0 _ _ _ _ _ _ _ _ _ _)
      | (with_reducible exact ih1 _ _ _ _ _ _ _ _ _)
      | (with_reducible exact ih2 _ _ _ _ _ _ _ _ _ _)
      | (with_reducible exact LeO.refl _)
      | (with_reducible exact LeO.none _)
      | (with_reducible refine LeO.ite ?_ ?_)
      | (with_reducible refine LeO.bind ?_ (fun _ => ?_))
      | exact ih0 _ _ _ _ _ _ _ _ _ _
      | exact ih1 _ _ _ _ _ _ _ _ _
      | exact ih2 _ _ _ _ _ _ _ _ _ _
      | exact LeO.none _
      | refine LeO.ite ?_ ?_
      | refine LeO.bind ?_ (fun _ => ?_)
    · intro y0 y1 y2 y3 y4 y5 y6 y7 y8
      unfold intrusionlaw06_AddressSteps.j1
      repeat' first
      | (with_reducible exact ih0 _ _ _ _ _ _ _ _ _ _)
      | (with_reducible exact ih1 _ _ _ _ _ _ _ _ _)
      | (with_reducible exact ih2 _ _ _ _ _ _ _ _ _ _)
      | (with_reducible exact LeO.refl _)
      | (with_reducible exact LeO.none _)
      | (with_reducible refine LeO.ite ?_ ?_)
      | (with_reducible refine LeO.bind ?_ (fun _ => ?_))
      | exact ih0 _ _ _ _ _ _ _ _ _ _
      | exact ih1 _ _ _ _ _ _ _ _ _
      | exact ih2 _ _ _ _ _ _ _ _ _ _
      | exact LeO.none _
      | refine LeO.ite ?_ ?_
      | refine LeO.bind ?_ (fun _ => ?_)
    · intro y0 y1 y2 y3 y4 y5 y6 y7 y8 y9
      unfold intrusionlaw06_AddressSteps.j2
      repeat' first
      | (with_reducible exact ih0 _ _ _ _ _ _ _ _ _ _)
      | (with_reducible exact ih1 _ _ _ _ _ _ _ _ _)
      | (with_reducible exact ih2 _ _ _ _ _ _ _ _ _ _)
      | (with_reducible exact LeO.refl _)
      | (with_reducible exact LeO.none _)
      | (with_reducible refine LeO.ite ?_ ?_)
      | (with_reducible refine LeO.bind ?_ (fun _ => ?_))
      | exact ih0 _ _ _ _ _ _ _ _ _ _
      | exact ih1 _ _ _ _ _ _ _ _ _
      | exact ih2 _ _ _ _ _ _ _ _ _ _
      | exact LeO.none _
      | refine LeO.ite ?_ ?_
      | refine LeO.bind ?_ (fun _ => ?_)
theorem intrusionlaw06_AddressSteps.mono : ∀ a0 a1 a2 a3 a4 a5 a6 a7 a8 k, LeO (intrusionlaw06_AddressSteps.f k a0 a1 a2 a3 a4 a5 a6 a7 a8) (intrusionlaw06_AddressSteps.f (k + 1) a0 a1 a2 a3 a4 a5 a6 a7 a8) := by
  intro a0 a1 a2 a3 a4 a5 a6 a7 a8 k
  obtain ⟨ih0, ih1, ih2⟩ := intrusionlaw06_AddressSteps.mono_l k
  unfold intrusionlaw06_AddressSteps.f
  repeat' first
      | (with_reducible exact ih0 _ _ _ _ _ _ _ _ _ _)
      | (with_reducible exact ih1 _ _ _ _ _ _ _ _ _)
      | (with_reducible exact ih2 _ _ _ _ _ _ _ _ _ _)
      | (with_reducible exact LeO.refl _)
      | (with_reducible exact LeO.none _)
      | (with_reducible refine LeO.ite ?_ ?_)
      | (with_reducible refine LeO.bind ?_ (fun _ => ?_))
      | exact ih0 _ _ _ _ _ _ _ _ _ _
      | exact ih1 _ _ _ _ _ _ _ _ _
      | exact ih2 _ _ _ _ _ _ _ _ _ _
      | exact LeO.none _
      | refine LeO.ite ?_ ?_
      | refine LeO.bind ?_ (fun _ => ?_)
def intrusionlaw06_AddressSteps.T10 : Bool × List (List Nat × List Nat) := (true, [([], []), ([], []), ([0, 1], [0, 1]), ([2], [2]), ([], []), ([], []), ([4, 5], [4, 5]), ([3, 6], [3, 6]), ([7, 2], [7]), ([8], [8]), ([8], [8]), ([9, 10, 8, 8], [8, 9, 10]), ([8], [8]), ([8], [8]), ([12, 13, 11, 8], [8, 12, 13]), ([14, 8], [8, 14]), ([11, 15, 8], [8, 11, 15]), ([8, 16], [8, 16])])
def intrusionlaw06_AddressSteps.B10 : List Nat := [0, 0, 3, 7, 0, 0, 48, 127, 255, 511, 511, 2047, 511, 511, 16383, 32767, 65535, 131071]
theorem intrusionlaw06_AddressSteps.tab10 : rtab .any (opsOf Tryd.f5 10) = intrusionlaw06_AddressSteps.T10 := by kernel_rfl
theorem intrusionlaw06_AddressSteps.bits10 : waitsOk intrusionlaw06_AddressSteps.T10.2 intrusionlaw06_AddressSteps.B10 = true := by kernel_rfl
set_option maxHeartbeats 8000000 in
set_option maxRecDepth 100000 in
theorem intrusionlaw06_AddressSteps.calls (k : Nat) (a0_0 : Bool) (a0_1 : Int) (a0_2 : Int) (a1_0 : Bool) (a1_1 : Int) (a1_2 : Int) (a2_0 : Bool) (a2_1 : Int) (a2_2 : Int) (r : Bool) (w : World) (h : intrusionlaw06_AddressSteps.f k a0_0 a0_1 a0_2 a1_0 a1_1 a1_2 a2_0 a2_1 a2_2 = some r) (hW_ : WOK w) :
 Calls Tryd.prog 5 #[.agg #[.bool a0_0, .int .u64 a0_1, .int .u64 a0_2], .agg #[.bool a1_0, .int .u64 a1_1, .int .u64 a1_2], .agg #[.bool a2_0, .int .u64 a2_1, .int .u64 a2_2]] w fun e w' => e = .returned (.bool r) ∧ Below w.heap.size w w' := by
 have hu25 := Tryd.underlying25
 have HB := Aside0.mk (Below.refl w.heap.size w)
 unfold intrusionlaw06_AddressSteps.f at h; have H := h
 clear h
 replace H := Option.bind_eq_some_iff.mp H
 obtain ⟨t346, A40, H⟩ := H
 try dsimp only at H
 have A4 := Aside0.mk A40
 clear A40
 by_cases c5 : t346 = true
 · subst c5
   rw [if_pos rfl] at H
   have HC6 := Aside0.mk H
   clear H
   go_enter Tryd.func5, Tryd.ntmps5
   go_upto_region 3 with (first | ((with_reducible refine gate_dst (N := 3) rfl ?_); refine zx 3 #[.bool a0_0, .int .u64 a0_1, .int .u64 a0_2] 25 ?_; intro gb343 hg w7 hbox hb; have BK343 := Aside0.mk (hbox); have GW343 := Aside0.mk ((by rw [hg]; exact (below_size (zB HB)) : w.heap.size ≤ gb343)); have GE343 := Aside0.mk ((by rw [hg]; exact (below_size (zB HB)) : w.heap.size ≤ gb343)); replace HB := Aside0.mk (below_step (zB HB) hb); clear hb hbox hg) | ((with_reducible refine gate_dst (N := 4) rfl ?_); refine zx 4 #[.bool a1_0, .int .u64 a1_1, .int .u64 a1_2] 25 ?_; intro gb344 hg w8 hbox hb; have BK344 := Aside0.mk (hbox); have GW344 := Aside0.mk ((by rw [hg]; exact (below_size (zB HB)) : w.heap.size ≤ gb344)); have GE344 := Aside0.mk ((by rw [hg]; exact (below_size (zB HB)) : w.heap.size ≤ gb344)); replace HB := Aside0.mk (below_step (zB HB) hb); have NB343_344 := Aside0.mk ((by rw [hg]; exact Nat.ne_of_lt (blk_lt (g := gb343) (o := .cells #[.bool a0_0, .int .u64 a0_1, .int .u64 a0_2] 25 (0, 0)) (zK BK343)) : gb343 ≠ gb344)); have NB344_343 := Aside0.mk ((by rw [hg]; exact Nat.ne_of_gt (blk_lt (g := gb343) (o := .cells #[.bool a0_0, .int .u64 a0_1, .int .u64 a0_2] 25 (0, 0)) (zK BK343)) : gb344 ≠ gb343)); replace BK343 := Aside0.mk (blk_below (g := gb343) (o := .cells #[.bool a0_0, .int .u64 a0_1, .int .u64 a0_2] 25 (0, 0)) (zK BK343) hb); clear hb hbox hg) | ((with_reducible refine gate_dst (N := 5) rfl ?_); refine zx 5 #[.bool a2_0, .int .u64 a2_1, .int .u64 a2_2] 25 ?_; intro gb345 hg w9 hbox hb; have BK345 := Aside0.mk (hbox); have GW345 := Aside0.mk ((by rw [hg]; exact (below_size (zB HB)) : w.heap.size ≤ gb345)); have GE345 := Aside0.mk ((by rw [hg]; exact (below_size (zB HB)) : w.heap.size ≤ gb345)); replace HB := Aside0.mk (below_step (zB HB) hb); have NB343_345 := Aside0.mk ((by rw [hg]; exact Nat.ne_of_lt (blk_lt (g := gb343) (o := .cells #[.bool a0_0, .int .u64 a0_1, .int .u64 a0_2] 25 (0, 0)) (zK BK343)) : gb343 ≠ gb345)); have NB345_343 := Aside0.mk ((by rw [hg]; exact Nat.ne_of_gt (blk_lt (g := gb343) (o := .cells #[.bool a0_0, .int .u64 a0_1, .int .u64 a0_2] 25 (0, 0)) (zK BK343)) : gb345 ≠ gb343)); replace BK343 := Aside0.mk (blk_below (g := gb343) (o := .cells #[.bool a0_0, .int .u64 a0_1, .int .u64 a0_2] 25 (0, 0)) (zK BK343) hb); have NB344_345 := Aside0.mk ((by rw [hg]; exact Nat.ne_of_lt (blk_lt (g := gb344) (o := .cells #[.bool a1_0, .int .u64 a1_1, .int .u64 a1_2] 25 (0, 0)) (zK BK344)) : gb344 ≠ gb345)); have NB345_344 := Aside0.mk ((by rw [hg]; exact Nat.ne_of_gt (blk_lt (g := gb344) (o := .cells #[.bool a1_0, .int .u64 a1_1, .int .u64 a1_2] 25 (0, 0)) (zK BK344)) : gb345 ≠ gb344)); replace BK344 := Aside0.mk (blk_below (g := gb344) (o := .cells #[.bool a1_0, .int .u64 a1_1, .int .u64 a1_2] 25 (0, 0)) (zK BK344) hb); clear hb hbox hg) | ((with_reducible refine gate_callee (f := 10) rfl ?_); refine goesL_ (some 11) rfl rfl Tryd.func10 (by kernel_rfl) rfl #[] rfl (by (try simp only [List.map_toArray, List.map_cons, List.map_nil]); first | done | rfl | (simp only [List.length_drop, List.length_take]; rfl)) ?_; (with_reducible refine (intrusionlaw06_lives.calls  true _ A4.out (WOK.below hW_ (zB HB))).mono ?_); rintro e w10 ⟨rfl, hb⟩; refine ⟨_, rfl, ?_⟩; replace BK343 := Aside0.mk (blk_below (g := gb343) (o := .cells #[.bool a0_0, .int .u64 a0_1, .int .u64 a0_2] 25 (0, 0)) (zK BK343) hb); replace BK344 := Aside0.mk (blk_below (g := gb344) (o := .cells #[.bool a1_0, .int .u64 a1_1, .int .u64 a1_2] 25 (0, 0)) (zK BK344) hb); replace BK345 := Aside0.mk (blk_below (g := gb345) (o := .cells #[.bool a2_0, .int .u64 a2_1, .int .u64 a2_2] 25 (0, 0)) (zK BK345) hb); replace HB := Aside0.mk (below_step (zB HB) hb); (try clear hb)))
   (try simp only [Act.put, List.setIfInBounds_toArray, List.set_cons_zero, List.set_cons_succ])
   go_cut [25] (fun v25 wc => ∃ (kq : Nat) (x25_5 : Bool), v25 = .bool x25_5 ∧ Aside0 (intrusionlaw06_AddressSteps.j0 kq x25_5 a0_0 a0_1 a0_2 a1_0 a1_1 a1_2 a2_0 a2_1 a2_2 = some r) ∧ Aside0 (kq ≤ k) ∧ Aside0 (wc.heap[gb343]? = some (.cells #[.bool a0_0, .int .u64 a0_1, .int .u64 a0_2] 25 (0, 0))) ∧ Aside0 (wc.heap[gb344]? = some (.cells #[.bool a1_0, .int .u64 a1_1, .int .u64 a1_2] 25 (0, 0))) ∧ Aside0 (wc.heap[gb345]? = some (.cells #[.bool a2_0, .int .u64 a2_1, .int .u64 a2_2] 25 (0, 0))) ∧ Aside0 (Below w.heap.size w wc))
   case first =>
    have H := HC6.out
    clear HC6
    replace H := Option.bind_eq_some_iff.mp H
    obtain ⟨t347, A110, H⟩ := H
    try dsimp only at H
    have A11 := Aside0.mk A110
    clear A110
    by_cases c12 : t347 = true
    · subst c12
      rw [if_pos rfl] at H
      replace H := Option.bind_eq_some_iff.mp H
      obtain ⟨t348, A130, H⟩ := H
      try dsimp only at H
      have A13 := Aside0.mk A130
      clear A130
      by_cases c14 : t348 = true
      · subst c14
        rw [if_pos rfl] at H
        replace H := Option.bind_eq_some_iff.mp H
        obtain ⟨t349, A150, H⟩ := H
        try dsimp only at H
        have A15 := Aside0.mk A150
        clear A150
        have H' := Aside0.mk H
        clear H
        have hnb16 := NB343_344.out
        have hnc16 := NB344_343.out
        have hnb17 := NB343_345.out
        have hnc17 := NB345_343.out
        obtain ⟨hcz18_0, hcz18_1, hcz18_2⟩ := zc3 BK343
        obtain ⟨hfz18_0, hfz18_1, hfz18_2⟩ := zf3 BK343
        go_wp2_with (first | ((with_reducible refine gate_callee (f := 25) rfl ?_); refine goesL_ (some 14) rfl rfl Tryd.func25 (by kernel_rfl) rfl #[.agg #[.bool a0_0, .int .u64 a0_1, .int .u64 a0_2]] rfl (by (try simp only [List.map_toArray, List.map_cons, List.map_nil]); first | done | rfl | (simp only [List.length_drop, List.length_take]; rfl)) ?_; (with_reducible refine (address_Valid.calls a0_0 a0_1 a0_2 true _ A11.out).mono ?_); rintro e w19 ⟨rfl, hb⟩; refine ⟨_, rfl, ?_⟩; replace BK343 := Aside0.mk (blk_below (g := gb343) (o := .cells #[.bool a0_0, .int .u64 a0_1, .int .u64 a0_2] 25 (0, 0)) (zK BK343) hb); replace BK344 := Aside0.mk (blk_below (g := gb344) (o := .cells #[.bool a1_0, .int .u64 a1_1, .int .u64 a1_2] 25 (0, 0)) (zK BK344) hb); replace BK345 := Aside0.mk (blk_below (g := gb345) (o := .cells #[.bool a2_0, .int .u64 a2_1, .int .u64 a2_2] 25 (0, 0)) (zK BK345) hb); replace HB := Aside0.mk (below_step (zB HB) hb); (try clear hb); have hnb20 := NB344_345.out; have hnc20 := NB345_344.out; obtain ⟨hcz21_0, hcz21_1, hcz21_2⟩ := zc3 BK344; obtain ⟨hfz21_0, hfz21_1, hfz21_2⟩ := zf3 BK344) | (go_at_call 25; (with_reducible refine (address_Valid.calls a1_0 a1_1 a1_2 true _ A13.out).mono ?_); rintro e w22 ⟨rfl, hb⟩; replace BK343 := Aside0.mk (blk_below (g := gb343) (o := .cells #[.bool a0_0, .int .u64 a0_1, .int .u64 a0_2] 25 (0, 0)) (zK BK343) hb); replace BK344 := Aside0.mk (blk_below (g := gb344) (o := .cells #[.bool a1_0, .int .u64 a1_1, .int .u64 a1_2] 25 (0, 0)) (zK BK344) hb); replace BK345 := Aside0.mk (blk_below (g := gb345) (o := .cells #[.bool a2_0, .int .u64 a2_1, .int .u64 a2_2] 25 (0, 0)) (zK BK345) hb); replace HB := Aside0.mk (below_step (zB HB) hb); (try clear hb); obtain ⟨hcz23_0, hcz23_1, hcz23_2⟩ := zc3 BK345; obtain ⟨hfz23_0, hfz23_1, hfz23_2⟩ := zf3 BK345) | (go_at_call 25; (with_reducible refine (address_Valid.calls a2_0 a2_1 a2_2 t349 _ A15.out).mono ?_); rintro e w24 ⟨rfl, hb⟩; replace BK343 := Aside0.mk (blk_below (g := gb343) (o := .cells #[.bool a0_0, .int .u64 a0_1, .int .u64 a0_2] 25 (0, 0)) (zK BK343) hb); replace BK344 := Aside0.mk (blk_below (g := gb344) (o := .cells #[.bool a1_0, .int .u64 a1_1, .int .u64 a1_2] 25 (0, 0)) (zK BK344) hb); replace BK345 := Aside0.mk (blk_below (g := gb345) (o := .cells #[.bool a2_0, .int .u64 a2_1, .int .u64 a2_2] 25 (0, 0)) (zK BK345) hb); replace HB := Aside0.mk (below_step (zB HB) hb); (try clear hb)))
        go_meet
        case rel => exact ⟨_, (!t349), (by first | rfl | (simp; done) | (simp [*]; done)), H', ⟨by first | omega | exact Nat.le_refl _⟩, ⟨zK BK343⟩, ⟨zK BK344⟩, ⟨zK BK345⟩, ⟨zB HB⟩⟩
      · replace c14 := Bool.eq_false_iff.mpr c14
        subst c14
        rw [if_neg zF] at H
        have H' := Aside0.mk H
        clear H
        have hnb25 := NB343_344.out
        have hnc25 := NB344_343.out
        have hnb26 := NB343_345.out
        have hnc26 := NB345_343.out
        obtain ⟨hcz27_0, hcz27_1, hcz27_2⟩ := zc3 BK343
        obtain ⟨hfz27_0, hfz27_1, hfz27_2⟩ := zf3 BK343
        go_wp2_with (first | ((with_reducible refine gate_callee (f := 25) rfl ?_); refine goesL_ (some 14) rfl rfl Tryd.func25 (by kernel_rfl) rfl #[.agg #[.bool a0_0, .int .u64 a0_1, .int .u64 a0_2]] rfl (by (try simp only [List.map_toArray, List.map_cons, List.map_nil]); first | done | rfl | (simp only [List.length_drop, List.length_take]; rfl)) ?_; (with_reducible refine (address_Valid.calls a0_0 a0_1 a0_2 true _ A11.out).mono ?_); rintro e w28 ⟨rfl, hb⟩; refine ⟨_, rfl, ?_⟩; replace BK343 := Aside0.mk (blk_below (g := gb343) (o := .cells #[.bool a0_0, .int .u64 a0_1, .int .u64 a0_2] 25 (0, 0)) (zK BK343) hb); replace BK344 := Aside0.mk (blk_below (g := gb344) (o := .cells #[.bool a1_0, .int .u64 a1_1, .int .u64 a1_2] 25 (0, 0)) (zK BK344) hb); replace BK345 := Aside0.mk (blk_below (g := gb345) (o := .cells #[.bool a2_0, .int .u64 a2_1, .int .u64 a2_2] 25 (0, 0)) (zK BK345) hb); replace HB := Aside0.mk (below_step (zB HB) hb); (try clear hb); have hnb29 := NB344_345.out; have hnc29 := NB345_344.out; obtain ⟨hcz30_0, hcz30_1, hcz30_2⟩ := zc3 BK344; obtain ⟨hfz30_0, hfz30_1, hfz30_2⟩ := zf3 BK344) | (go_at_call 25; (with_reducible refine (address_Valid.calls a1_0 a1_1 a1_2 false _ A13.out).mono ?_); rintro e w31 ⟨rfl, hb⟩; replace BK343 := Aside0.mk (blk_below (g := gb343) (o := .cells #[.bool a0_0, .int .u64 a0_1, .int .u64 a0_2] 25 (0, 0)) (zK BK343) hb); replace BK344 := Aside0.mk (blk_below (g := gb344) (o := .cells #[.bool a1_0, .int .u64 a1_1, .int .u64 a1_2] 25 (0, 0)) (zK BK344) hb); replace BK345 := Aside0.mk (blk_below (g := gb345) (o := .cells #[.bool a2_0, .int .u64 a2_1, .int .u64 a2_2] 25 (0, 0)) (zK BK345) hb); replace HB := Aside0.mk (below_step (zB HB) hb); (try clear hb)))
        go_meet
        case rel => exact ⟨_, (true), (by first | rfl | (simp; done) | (simp [*]; done)), H', ⟨by first | omega | exact Nat.le_refl _⟩, ⟨zK BK343⟩, ⟨zK BK344⟩, ⟨zK BK345⟩, ⟨zB HB⟩⟩
    · replace c12 := Bool.eq_false_iff.mpr c12
      subst c12
      rw [if_neg zF] at H
      have H' := Aside0.mk H
      clear H
      have hnb32 := NB343_344.out
      have hnc32 := NB344_343.out
      have hnb33 := NB343_345.out
      have hnc33 := NB345_343.out
      obtain ⟨hcz34_0, hcz34_1, hcz34_2⟩ := zc3 BK343
      obtain ⟨hfz34_0, hfz34_1, hfz34_2⟩ := zf3 BK343
      go_wp2_with (first | ((with_reducible refine gate_callee (f := 25) rfl ?_); refine goesL_ (some 14) rfl rfl Tryd.func25 (by kernel_rfl) rfl #[.agg #[.bool a0_0, .int .u64 a0_1, .int .u64 a0_2]] rfl (by (try simp only [List.map_toArray, List.map_cons, List.map_nil]); first | done | rfl | (simp only [List.length_drop, List.length_take]; rfl)) ?_; (with_reducible refine (address_Valid.calls a0_0 a0_1 a0_2 false _ A11.out).mono ?_); rintro e w35 ⟨rfl, hb⟩; refine ⟨_, rfl, ?_⟩; replace BK343 := Aside0.mk (blk_below (g := gb343) (o := .cells #[.bool a0_0, .int .u64 a0_1, .int .u64 a0_2] 25 (0, 0)) (zK BK343) hb); replace BK344 := Aside0.mk (blk_below (g := gb344) (o := .cells #[.bool a1_0, .int .u64 a1_1, .int .u64 a1_2] 25 (0, 0)) (zK BK344) hb); replace BK345 := Aside0.mk (blk_below (g := gb345) (o := .cells #[.bool a2_0, .int .u64 a2_1, .int .u64 a2_2] 25 (0, 0)) (zK BK345) hb); replace HB := Aside0.mk (below_step (zB HB) hb); (try clear hb)))
      go_meet
      case rel => exact ⟨_, (true), (by first | rfl | (simp; done) | (simp [*]; done)), H', ⟨by first | omega | exact Nat.le_refl _⟩, ⟨zK BK343⟩, ⟨zK BK344⟩, ⟨zK BK345⟩, ⟨zB HB⟩⟩
   case rest =>
    clear HC6
    try clear c1
    try clear c2
    try clear p2
    try clear c3
    try clear c5
    try clear c10
    try clear c12
    try clear c14
    try clear c16
    try clear c17
    try clear c20
    try clear c25
    try clear c26
    try clear c29
    try clear c32
    try clear c33
    try clear hcz18_0
    try clear hcz18_1
    try clear hcz18_2
    try clear hcz21_0
    try clear hcz21_1
    try clear hcz21_2
    try clear hcz23_0
    try clear hcz23_1
    try clear hcz23_2
    try clear hcz27_0
    try clear hcz27_1
    try clear hcz27_2
    try clear hcz30_0
    try clear hcz30_1
    try clear hcz30_2
    try clear hcz34_0
    try clear hcz34_1
    try clear hcz34_2
    try clear hfz18_0
    try clear hfz18_1
    try clear hfz18_2
    try clear hfz21_0
    try clear hfz21_1
    try clear hfz21_2
    try clear hfz23_0
    try clear hfz23_1
    try clear hfz23_2
    try clear hfz27_0
    try clear hfz27_1
    try clear hfz27_2
    try clear hfz30_0
    try clear hfz30_1
    try clear hfz30_2
    try clear hfz34_0
    try clear hfz34_1
    try clear hfz34_2
    obtain ⟨kq, x25_5, rfl, HA, HJ5, BK343, BK344, BK345, HB⟩ := hcut
    cases kq with
    | zero => exact absurd HA.out (by simp [intrusionlaw06_AddressSteps.j0])
    | succ kj5 =>
     have H := HA.out
     clear HA
     simp only [intrusionlaw06_AddressSteps.j0] at H
     by_cases c36 : x25_5 = true
     · subst c36
       rw [if_pos rfl] at H
       obtain rfl := Option.some.inj H
       go_wp2
       go_ret
       exact ⟨by first | rfl | (simp [errW_none, errW_some] <;> rfl) | (simp [*, errW_none, errW_some] <;> rfl), by repeat (first | (with_reducible first | exact HB.out | apply below_alloc | apply pw_below_drewN | apply below_drew1 | refine below_set ?_ GE343.out | refine below_set ?_ GE344.out | refine below_set ?_ GE345.out) | exact HB.out)⟩
     · replace c36 := Bool.eq_false_iff.mpr c36
       subst c36
       rw [if_neg zF] at H
       replace H := Option.bind_eq_some_iff.mp H
       obtain ⟨⟨t350, t351, t352, t353⟩, A370, H⟩ := H
       try dsimp only at H
       have A37 := Aside0.mk A370
       clear A370
       have HC38 := Aside0.mk H
       clear H
       have hnb39 := NB343_344.out
       have hnc39 := NB344_343.out
       have hnb40 := NB343_345.out
       have hnc40 := NB345_343.out
       obtain ⟨hcz41_0, hcz41_1, hcz41_2⟩ := zc3 BK343
       obtain ⟨hfz41_0, hfz41_1, hfz41_2⟩ := zf3 BK343
       go_upto_if 31 with (first | ((with_reducible refine gate_callee (f := 16) rfl ?_); refine goesL_ (some 28) rfl rfl Tryd.func16 (by kernel_rfl) rfl #[.agg #[.bool a0_0, .int .u64 a0_1, .int .u64 a0_2]] rfl (by (try simp only [List.map_toArray, List.map_cons, List.map_nil]); first | done | rfl | (simp only [List.length_drop, List.length_take]; rfl)) ?_; (with_reducible refine (address_Next.calls a0_0 a0_1 a0_2 t350 t351 t352 t353 _ A37.out).mono ?_); rintro e w42 ⟨rfl, hb⟩; refine ⟨_, rfl, ?_⟩; replace BK343 := Aside0.mk (blk_below (g := gb343) (o := .cells #[.bool a0_0, .int .u64 a0_1, .int .u64 a0_2] 25 (0, 0)) (zK BK343) hb); replace BK344 := Aside0.mk (blk_below (g := gb344) (o := .cells #[.bool a1_0, .int .u64 a1_1, .int .u64 a1_2] 25 (0, 0)) (zK BK344) hb); replace BK345 := Aside0.mk (blk_below (g := gb345) (o := .cells #[.bool a2_0, .int .u64 a2_1, .int .u64 a2_2] 25 (0, 0)) (zK BK345) hb); replace HB := Aside0.mk (below_step (zB HB) hb); (try clear hb)) | ((with_reducible refine gate_dst (N := 7) rfl ?_); refine zx 7 #[.bool false, .int .u64 0, .int .u64 0] 25 ?_; intro gb354 hg w43 hbox hb; have BK354 := Aside0.mk (hbox); have GW354 := Aside0.mk ((by rw [hg]; exact (below_size (zB HB)) : w.heap.size ≤ gb354)); have GE354 := Aside0.mk ((by rw [hg]; exact (below_size (zB HB)) : w.heap.size ≤ gb354)); replace HB := Aside0.mk (below_step (zB HB) hb); have NB343_354 := Aside0.mk ((by rw [hg]; exact Nat.ne_of_lt (blk_lt (g := gb343) (o := .cells #[.bool a0_0, .int .u64 a0_1, .int .u64 a0_2] 25 (0, 0)) (zK BK343)) : gb343 ≠ gb354)); have NB354_343 := Aside0.mk ((by rw [hg]; exact Nat.ne_of_gt (blk_lt (g := gb343) (o := .cells #[.bool a0_0, .int .u64 a0_1, .int .u64 a0_2] 25 (0, 0)) (zK BK343)) : gb354 ≠ gb343)); replace BK343 := Aside0.mk (blk_below (g := gb343) (o := .cells #[.bool a0_0, .int .u64 a0_1, .int .u64 a0_2] 25 (0, 0)) (zK BK343) hb); have NB344_354 := Aside0.mk ((by rw [hg]; exact Nat.ne_of_lt (blk_lt (g := gb344) (o := .cells #[.bool a1_0, .int .u64 a1_1, .int .u64 a1_2] 25 (0, 0)) (zK BK344)) : gb344 ≠ gb354)); have NB354_344 := Aside0.mk ((by rw [hg]; exact Nat.ne_of_gt (blk_lt (g := gb344) (o := .cells #[.bool a1_0, .int .u64 a1_1, .int .u64 a1_2] 25 (0, 0)) (zK BK344)) : gb354 ≠ gb344)); replace BK344 := Aside0.mk (blk_below (g := gb344) (o := .cells #[.bool a1_0, .int .u64 a1_1, .int .u64 a1_2] 25 (0, 0)) (zK BK344) hb); have NB345_354 := Aside0.mk ((by rw [hg]; exact Nat.ne_of_lt (blk_lt (g := gb345) (o := .cells #[.bool a2_0, .int .u64 a2_1, .int .u64 a2_2] 25 (0, 0)) (zK BK345)) : gb345 ≠ gb354)); have NB354_345 := Aside0.mk ((by rw [hg]; exact Nat.ne_of_gt (blk_lt (g := gb345) (o := .cells #[.bool a2_0, .int .u64 a2_1, .int .u64 a2_2] 25 (0, 0)) (zK BK345)) : gb354 ≠ gb345)); replace BK345 := Aside0.mk (blk_below (g := gb345) (o := .cells #[.bool a2_0, .int .u64 a2_1, .int .u64 a2_2] 25 (0, 0)) (zK BK345) hb); clear hb hbox hg; have hnb44 := NB354_343.out; have hnc44 := NB343_354.out; have hnb45 := NB354_344.out; have hnc45 := NB344_354.out; have hnb46 := NB354_345.out; have hnc46 := NB345_354.out; obtain ⟨hcz47_0, hcz47_1, hcz47_2⟩ := zc3 BK354; obtain ⟨hfz47_0, hfz47_1, hfz47_2⟩ := zf3 BK354))
       (try simp only [Act.put, List.setIfInBounds_toArray, List.set_cons_zero, List.set_cons_succ])
       go_cut [] (fun wc => ∃ (kq : Nat), Aside0 (intrusionlaw06_AddressSteps.j1 kq a0_0 a0_1 a0_2 a1_0 a1_1 a1_2 a2_0 a2_1 a2_2 = some r) ∧ Aside0 (kq ≤ kj5) ∧ Aside0 (wc.heap[gb343]? = some (.cells #[.bool a0_0, .int .u64 a0_1, .int .u64 a0_2] 25 (0, 0))) ∧ Aside0 (wc.heap[gb344]? = some (.cells #[.bool a1_0, .int .u64 a1_1, .int .u64 a1_2] 25 (0, 0))) ∧ Aside0 (wc.heap[gb345]? = some (.cells #[.bool a2_0, .int .u64 a2_1, .int .u64 a2_2] 25 (0, 0))) ∧ Aside0 (wc.heap[gb354]? = some (.cells #[.bool t350, .int .u64 t351, .int .u64 t352] 25 (0, 0))) ∧ Aside0 (Below w.heap.size w wc))
       case first =>
        have H := HC38.out
        clear HC38
        by_cases c48 : t353 = true
        · subst c48
          rw [if_pos rfl] at H
          replace H := Option.bind_eq_some_iff.mp H
          obtain ⟨⟨t355, t356, t357, t358⟩, A490, H⟩ := H
          try dsimp only at H
          have A49 := Aside0.mk A490
          clear A490
          by_cases c50 : t358 = true
          · subst c50
            rw [if_pos rfl] at H
            by_cases c51 : (!(t355 == a0_0) || (!(t356 == a0_1) || (!(t357 == a0_2)))) = true
            · rw [if_pos c51] at H
              have c51b0 : (!(t355 == a0_0) || (!(t356 == a0_1) || (!(t357 == a0_2)))) = true := c51
              clear c51
              (first | rw [c51b0] | (simp only [i64_w, i32_w]; rw [c51b0]) | skip)
              obtain rfl := Option.some.inj H
              have hnb52 := NB354_343.out
              have hnc52 := NB343_354.out
              have hnb53 := NB354_344.out
              have hnc53 := NB344_354.out
              have hnb54 := NB354_345.out
              have hnc54 := NB345_354.out
              obtain ⟨hcz55_0, hcz55_1, hcz55_2⟩ := zc3 BK354
              obtain ⟨hfz55_0, hfz55_1, hfz55_2⟩ := zf3 BK354
              go_wp2_with (first | ((with_reducible refine gate_callee (f := 20) rfl ?_); refine goesL_ (some 34) rfl rfl Tryd.func20 (by kernel_rfl) rfl #[.agg #[.bool t350, .int .u64 t351, .int .u64 t352]] rfl (by (try simp only [List.map_toArray, List.map_cons, List.map_nil]); first | done | rfl | (simp only [List.length_drop, List.length_take]; rfl)) ?_; (with_reducible refine (address_Previous.calls t350 t351 t352 t355 t356 t357 true _ A49.out).mono ?_); rintro e w56 ⟨rfl, hb⟩; refine ⟨_, rfl, ?_⟩; replace BK343 := Aside0.mk (blk_below (g := gb343) (o := .cells #[.bool a0_0, .int .u64 a0_1, .int .u64 a0_2] 25 (0, 0)) (by refine zL ?_; refine blk_far ?_ NB343_354.out _; refine zL ?_; refine blk_far ?_ NB343_354.out _; refine zL ?_; refine blk_far ?_ NB343_354.out _; refine zL ?_; exact BK343.out) hb); replace BK344 := Aside0.mk (blk_below (g := gb344) (o := .cells #[.bool a1_0, .int .u64 a1_1, .int .u64 a1_2] 25 (0, 0)) (by refine zL ?_; refine blk_far ?_ NB344_354.out _; refine zL ?_; refine blk_far ?_ NB344_354.out _; refine zL ?_; refine blk_far ?_ NB344_354.out _; refine zL ?_; exact BK344.out) hb); replace BK345 := Aside0.mk (blk_below (g := gb345) (o := .cells #[.bool a2_0, .int .u64 a2_1, .int .u64 a2_2] 25 (0, 0)) (by refine zL ?_; refine blk_far ?_ NB345_354.out _; refine zL ?_; refine blk_far ?_ NB345_354.out _; refine zL ?_; refine blk_far ?_ NB345_354.out _; refine zL ?_; exact BK345.out) hb); replace BK354 := Aside0.mk (blk_below (g := gb354) (o := .cells #[.bool t350, .int .u64 t351, .int .u64 t352] 25 (0, 0)) (by refine zL ?_; refine blk_put (cs := #[.bool t350, .int .u64 t351, .int .u64 0]) ?_ 2 _ rfl; refine zL ?_; refine blk_put (cs := #[.bool t350, .int .u64 0, .int .u64 0]) ?_ 1 _ rfl; refine zL ?_; refine blk_put (cs := #[.bool false, .int .u64 0, .int .u64 0]) ?_ 0 _ rfl; refine zL ?_; exact BK354.out) hb); replace HB := Aside0.mk (below_step (zB HB) hb); (try clear hb)) | ((with_reducible refine gate_dst (N := 9) rfl ?_); refine zx 9 #[.bool false, .int .u64 0, .int .u64 0] 25 ?_; intro gb359 hg w57 hbox hb; have BK359 := Aside0.mk (hbox); have GW359 := Aside0.mk ((by rw [hg]; exact (below_size (zB HB)) : w.heap.size ≤ gb359)); have GE359 := Aside0.mk ((by rw [hg]; exact (below_size (zB HB)) : w.heap.size ≤ gb359)); replace HB := Aside0.mk (below_step (zB HB) hb); have NB343_359 := Aside0.mk ((by rw [hg]; exact Nat.ne_of_lt (blk_lt (g := gb343) (o := .cells #[.bool a0_0, .int .u64 a0_1, .int .u64 a0_2] 25 (0, 0)) (zK BK343)) : gb343 ≠ gb359)); have NB359_343 := Aside0.mk ((by rw [hg]; exact Nat.ne_of_gt (blk_lt (g := gb343) (o := .cells #[.bool a0_0, .int .u64 a0_1, .int .u64 a0_2] 25 (0, 0)) (zK BK343)) : gb359 ≠ gb343)); replace BK343 := Aside0.mk (blk_below (g := gb343) (o := .cells #[.bool a0_0, .int .u64 a0_1, .int .u64 a0_2] 25 (0, 0)) (zK BK343) hb); have NB344_359 := Aside0.mk ((by rw [hg]; exact Nat.ne_of_lt (blk_lt (g := gb344) (o := .cells #[.bool a1_0, .int .u64 a1_1, .int .u64 a1_2] 25 (0, 0)) (zK BK344)) : gb344 ≠ gb359)); have NB359_344 := Aside0.mk ((by rw [hg]; exact Nat.ne_of_gt (blk_lt (g := gb344) (o := .cells #[.bool a1_0, .int .u64 a1_1, .int .u64 a1_2] 25 (0, 0)) (zK BK344)) : gb359 ≠ gb344)); replace BK344 := Aside0.mk (blk_below (g := gb344) (o := .cells #[.bool a1_0, .int .u64 a1_1, .int .u64 a1_2] 25 (0, 0)) (zK BK344) hb); have NB345_359 := Aside0.mk ((by rw [hg]; exact Nat.ne_of_lt (blk_lt (g := gb345) (o := .cells #[.bool a2_0, .int .u64 a2_1, .int .u64 a2_2] 25 (0, 0)) (zK BK345)) : gb345 ≠ gb359)); have NB359_345 := Aside0.mk ((by rw [hg]; exact Nat.ne_of_gt (blk_lt (g := gb345) (o := .cells #[.bool a2_0, .int .u64 a2_1, .int .u64 a2_2] 25 (0, 0)) (zK BK345)) : gb359 ≠ gb345)); replace BK345 := Aside0.mk (blk_below (g := gb345) (o := .cells #[.bool a2_0, .int .u64 a2_1, .int .u64 a2_2] 25 (0, 0)) (zK BK345) hb); have NB354_359 := Aside0.mk ((by rw [hg]; exact Nat.ne_of_lt (blk_lt (g := gb354) (o := .cells #[.bool t350, .int .u64 t351, .int .u64 t352] 25 (0, 0)) (zK BK354)) : gb354 ≠ gb359)); have NB359_354 := Aside0.mk ((by rw [hg]; exact Nat.ne_of_gt (blk_lt (g := gb354) (o := .cells #[.bool t350, .int .u64 t351, .int .u64 t352] 25 (0, 0)) (zK BK354)) : gb359 ≠ gb354)); replace BK354 := Aside0.mk (blk_below (g := gb354) (o := .cells #[.bool t350, .int .u64 t351, .int .u64 t352] 25 (0, 0)) (zK BK354) hb); clear hb hbox hg; have hnb58 := NB359_343.out; have hnc58 := NB343_359.out; have hnb59 := NB359_344.out; have hnc59 := NB344_359.out; have hnb60 := NB359_345.out; have hnc60 := NB345_359.out; have hnb61 := NB359_354.out; have hnc61 := NB354_359.out; obtain ⟨hcz62_0, hcz62_1, hcz62_2⟩ := zc3 BK359; obtain ⟨hfz62_0, hfz62_1, hfz62_2⟩ := zf3 BK359; have hnb63 := NB343_344.out; have hnc63 := NB344_343.out; have hnb64 := NB343_345.out; have hnc64 := NB345_343.out; obtain ⟨hcz65_0, hcz65_1, hcz65_2⟩ := zc3 BK343; obtain ⟨hfz65_0, hfz65_1, hfz65_2⟩ := zf3 BK343))
              go_ret
              exact ⟨by first | rfl | (simp [errW_none, errW_some] <;> rfl) | (simp [*, errW_none, errW_some] <;> rfl), by repeat (first | (with_reducible first | exact HB.out | apply below_alloc | apply pw_below_drewN | apply below_drew1 | refine below_set ?_ GE343.out | refine below_set ?_ GE344.out | refine below_set ?_ GE345.out | refine below_set ?_ GE354.out | refine below_set ?_ GE359.out) | exact HB.out)⟩
            · rw [if_neg c51] at H
              have c51b0 : (!(t355 == a0_0) || (!(t356 == a0_1) || (!(t357 == a0_2)))) = false := by simpa using c51
              clear c51
              (first | rw [c51b0] | (simp only [i64_w, i32_w]; rw [c51b0]) | skip)
              replace H := Option.bind_eq_some_iff.mp H
              obtain ⟨t360, A660, H⟩ := H
              try dsimp only at H
              have A66 := Aside0.mk A660
              clear A660
              by_cases c67 : t360 = (-1)
              · rw [if_pos c67] at H
                have c67b0 : (t360 == (-1)) = true := beq_iff_eq.mpr c67
                have c67b1 : (t360 != (-1)) = false := bne_eq_false_iff_eq.mpr c67
                clear c67
                replace H := Option.bind_eq_some_iff.mp H
                obtain ⟨t361, A680, H⟩ := H
                try dsimp only at H
                have A68 := Aside0.mk A680
                clear A680
                by_cases c69 : t361 = 1
                · rw [if_pos c69] at H
                  have c69b0 : (t361 == 1) = true := beq_iff_eq.mpr c69
                  have c69b1 : (t361 != 1) = false := bne_eq_false_iff_eq.mpr c69
                  clear c69
                  replace H := Option.bind_eq_some_iff.mp H
                  obtain ⟨t362, A700, H⟩ := H
                  try dsimp only at H
                  have A70 := Aside0.mk A700
                  clear A700
                  by_cases c71 : t362 < 0
                  · rw [if_pos c71] at H
                    have c71b0 : decide (t362 < 0) = true := decide_eq_true c71
                    clear c71
                    replace H := Option.bind_eq_some_iff.mp H
                    obtain ⟨t363, A720, H⟩ := H
                    try dsimp only at H
                    have A72 := Aside0.mk A720
                    clear A720
                    by_cases c73 : t363 > 0
                    · rw [if_pos c73] at H
                      have c73b0 : decide (0 < t363) = true := decide_eq_true c73
                      clear c73
                      by_cases c74 : (a0_0 == a1_0) = true
                      · rw [if_pos c74] at H
                        have c74b0 : (a0_0 == a1_0) = true := c74
                        (try (have c74b1 : decide (a0_0 = a1_0) = true := by first | (simpa using c74) | exact decide_eq_true (Decidable.not_not.1 (fun hn => c74 (bne_iff_ne.2 hn))) | exact beq_iff_eq.2 (Decidable.not_not.1 (fun hn => c74 (bne_iff_ne.2 hn))) | exact decide_eq_false (bne_iff_ne.1 c74) | exact beq_eq_false_iff_ne.2 (bne_iff_ne.1 c74) | exact bne_iff_ne.1 c74))
                        (try (have c74b2 : (a0_0 == a1_0) = true := by first | (simpa using c74) | exact decide_eq_true (Decidable.not_not.1 (fun hn => c74 (bne_iff_ne.2 hn))) | exact beq_iff_eq.2 (Decidable.not_not.1 (fun hn => c74 (bne_iff_ne.2 hn))) | exact decide_eq_false (bne_iff_ne.1 c74) | exact beq_eq_false_iff_ne.2 (bne_iff_ne.1 c74) | exact bne_iff_ne.1 c74))
                        clear c74
                        obtain rfl := Option.some.inj H
                        have hnb75 := NB354_343.out
                        have hnc75 := NB343_354.out
                        have hnb76 := NB354_344.out
                        have hnc76 := NB344_354.out
                        have hnb77 := NB354_345.out
                        have hnc77 := NB345_354.out
                        obtain ⟨hcz78_0, hcz78_1, hcz78_2⟩ := zc3 BK354
                        obtain ⟨hfz78_0, hfz78_1, hfz78_2⟩ := zf3 BK354
                        go_wp2_with (first | ((with_reducible refine gate_callee (f := 20) rfl ?_); refine goesL_ (some 34) rfl rfl Tryd.func20 (by kernel_rfl) rfl #[.agg #[.bool t350, .int .u64 t351, .int .u64 t352]] rfl (by (try simp only [List.map_toArray, List.map_cons, List.map_nil]); first | done | rfl | (simp only [List.length_drop, List.length_take]; rfl)) ?_; (with_reducible refine (address_Previous.calls t350 t351 t352 t355 t356 t357 true _ A49.out).mono ?_); rintro e w79 ⟨rfl, hb⟩; refine ⟨_, rfl, ?_⟩; replace BK343 := Aside0.mk (blk_below (g := gb343) (o := .cells #[.bool a0_0, .int .u64 a0_1, .int .u64 a0_2] 25 (0, 0)) (by refine zL ?_; refine blk_far ?_ NB343_354.out _; refine zL ?_; refine blk_far ?_ NB343_354.out _; refine zL ?_; refine blk_far ?_ NB343_354.out _; refine zL ?_; exact BK343.out) hb); replace BK344 := Aside0.mk (blk_below (g := gb344) (o := .cells #[.bool a1_0, .int .u64 a1_1, .int .u64 a1_2] 25 (0, 0)) (by refine zL ?_; refine blk_far ?_ NB344_354.out _; refine zL ?_; refine blk_far ?_ NB344_354.out _; refine zL ?_; refine blk_far ?_ NB344_354.out _; refine zL ?_; exact BK344.out) hb); replace BK345 := Aside0.mk (blk_below (g := gb345) (o := .cells #[.bool a2_0, .int .u64 a2_1, .int .u64 a2_2] 25 (0, 0)) (by refine zL ?_; refine blk_far ?_ NB345_354.out _; refine zL ?_; refine blk_far ?_ NB345_354.out _; refine zL ?_; refine blk_far ?_ NB345_354.out _; refine zL ?_; exact BK345.out) hb); replace BK354 := Aside0.mk (blk_below (g := gb354) (o := .cells #[.bool t350, .int .u64 t351, .int .u64 t352] 25 (0, 0)) (by refine zL ?_; refine blk_put (cs := #[.bool t350, .int .u64 t351, .int .u64 0]) ?_ 2 _ rfl; refine zL ?_; refine blk_put (cs := #[.bool t350, .int .u64 0, .int .u64 0]) ?_ 1 _ rfl; refine zL ?_; refine blk_put (cs := #[.bool false, .int .u64 0, .int .u64 0]) ?_ 0 _ rfl; refine zL ?_; exact BK354.out) hb); replace HB := Aside0.mk (below_step (zB HB) hb); (try clear hb)) | ((with_reducible refine gate_dst (N := 9) rfl ?_); refine zx 9 #[.bool false, .int .u64 0, .int .u64 0] 25 ?_; intro gb359 hg w80 hbox hb; have BK359 := Aside0.mk (hbox); have GW359 := Aside0.mk ((by rw [hg]; exact (below_size (zB HB)) : w.heap.size ≤ gb359)); have GE359 := Aside0.mk ((by rw [hg]; exact (below_size (zB HB)) : w.heap.size ≤ gb359)); replace HB := Aside0.mk (below_step (zB HB) hb); have NB343_359 := Aside0.mk ((by rw [hg]; exact Nat.ne_of_lt (blk_lt (g := gb343) (o := .cells #[.bool a0_0, .int .u64 a0_1, .int .u64 a0_2] 25 (0, 0)) (zK BK343)) : gb343 ≠ gb359)); have NB359_343 := Aside0.mk ((by rw [hg]; exact Nat.ne_of_gt (blk_lt (g := gb343) (o := .cells #[.bool a0_0, .int .u64 a0_1, .int .u64 a0_2] 25 (0, 0)) (zK BK343)) : gb359 ≠ gb343)); replace BK343 := Aside0.mk (blk_below (g := gb343) (o := .cells #[.bool a0_0, .int .u64 a0_1, .int .u64 a0_2] 25 (0, 0)) (zK BK343) hb); have NB344_359 := Aside0.mk ((by rw [hg]; exact Nat.ne_of_lt (blk_lt (g := gb344) (o := .cells #[.bool a1_0, .int .u64 a1_1, .int .u64 a1_2] 25 (0, 0)) (zK BK344)) : gb344 ≠ gb359)); have NB359_344 := Aside0.mk ((by rw [hg]; exact Nat.ne_of_gt (blk_lt (g := gb344) (o := .cells #[.bool a1_0, .int .u64 a1_1, .int .u64 a1_2] 25 (0, 0)) (zK BK344)) : gb359 ≠ gb344)); replace BK344 := Aside0.mk (blk_below (g := gb344) (o := .cells #[.bool a1_0, .int .u64 a1_1, .int .u64 a1_2] 25 (0, 0)) (zK BK344) hb); have NB345_359 := Aside0.mk ((by rw [hg]; exact Nat.ne_of_lt (blk_lt (g := gb345) (o := .cells #[.bool a2_0, .int .u64 a2_1, .int .u64 a2_2] 25 (0, 0)) (zK BK345)) : gb345 ≠ gb359)); have NB359_345 := Aside0.mk ((by rw [hg]; exact Nat.ne_of_gt (blk_lt (g := gb345) (o := .cells #[.bool a2_0, .int .u64 a2_1, .int .u64 a2_2] 25 (0, 0)) (zK BK345)) : gb359 ≠ gb345)); replace BK345 := Aside0.mk (blk_below (g := gb345) (o := .cells #[.bool a2_0, .int .u64 a2_1, .int .u64 a2_2] 25 (0, 0)) (zK BK345) hb); have NB354_359 := Aside0.mk ((by rw [hg]; exact Nat.ne_of_lt (blk_lt (g := gb354) (o := .cells #[.bool t350, .int .u64 t351, .int .u64 t352] 25 (0, 0)) (zK BK354)) : gb354 ≠ gb359)); have NB359_354 := Aside0.mk ((by rw [hg]; exact Nat.ne_of_gt (blk_lt (g := gb354) (o := .cells #[.bool t350, .int .u64 t351, .int .u64 t352] 25 (0, 0)) (zK BK354)) : gb359 ≠ gb354)); replace BK354 := Aside0.mk (blk_below (g := gb354) (o := .cells #[.bool t350, .int .u64 t351, .int .u64 t352] 25 (0, 0)) (zK BK354) hb); clear hb hbox hg; have hnb81 := NB359_343.out; have hnc81 := NB343_359.out; have hnb82 := NB359_344.out; have hnc82 := NB344_359.out; have hnb83 := NB359_345.out; have hnc83 := NB345_359.out; have hnb84 := NB359_354.out; have hnc84 := NB354_359.out; obtain ⟨hcz85_0, hcz85_1, hcz85_2⟩ := zc3 BK359; obtain ⟨hfz85_0, hfz85_1, hfz85_2⟩ := zf3 BK359; have hnb86 := NB343_344.out; have hnc86 := NB344_343.out; have hnb87 := NB343_345.out; have hnc87 := NB345_343.out; obtain ⟨hcz88_0, hcz88_1, hcz88_2⟩ := zc3 BK343; obtain ⟨hfz88_0, hfz88_1, hfz88_2⟩ := zf3 BK343; obtain ⟨hcz89_0, hcz89_1, hcz89_2⟩ := zc3 BK354; obtain ⟨hfz89_0, hfz89_1, hfz89_2⟩ := zf3 BK354) | (go_at_call 18; (with_reducible refine (address_Compare.calls a0_0 a0_1 a0_2 t350 t351 t352 t360 _ A66.out).mono ?_); rintro e w90 ⟨rfl, hb⟩; replace BK343 := Aside0.mk (blk_below (g := gb343) (o := .cells #[.bool a0_0, .int .u64 a0_1, .int .u64 a0_2] 25 (0, 0)) (by refine zL ?_; refine blk_far ?_ NB343_359.out _; refine zL ?_; refine blk_far ?_ NB343_359.out _; refine zL ?_; refine blk_far ?_ NB343_359.out _; refine zL ?_; exact BK343.out) hb); replace BK344 := Aside0.mk (blk_below (g := gb344) (o := .cells #[.bool a1_0, .int .u64 a1_1, .int .u64 a1_2] 25 (0, 0)) (by refine zL ?_; refine blk_far ?_ NB344_359.out _; refine zL ?_; refine blk_far ?_ NB344_359.out _; refine zL ?_; refine blk_far ?_ NB344_359.out _; refine zL ?_; exact BK344.out) hb); replace BK345 := Aside0.mk (blk_below (g := gb345) (o := .cells #[.bool a2_0, .int .u64 a2_1, .int .u64 a2_2] 25 (0, 0)) (by refine zL ?_; refine blk_far ?_ NB345_359.out _; refine zL ?_; refine blk_far ?_ NB345_359.out _; refine zL ?_; refine blk_far ?_ NB345_359.out _; refine zL ?_; exact BK345.out) hb); replace BK354 := Aside0.mk (blk_below (g := gb354) (o := .cells #[.bool t350, .int .u64 t351, .int .u64 t352] 25 (0, 0)) (by refine zL ?_; refine blk_far ?_ NB354_359.out _; refine zL ?_; refine blk_far ?_ NB354_359.out _; refine zL ?_; refine blk_far ?_ NB354_359.out _; refine zL ?_; exact BK354.out) hb); replace BK359 := Aside0.mk (blk_below (g := gb359) (o := .cells #[.bool t355, .int .u64 t356, .int .u64 t357] 25 (0, 0)) (by refine zL ?_; refine blk_put (cs := #[.bool t355, .int .u64 t356, .int .u64 0]) ?_ 2 _ rfl; refine zL ?_; refine blk_put (cs := #[.bool t355, .int .u64 0, .int .u64 0]) ?_ 1 _ rfl; refine zL ?_; refine blk_put (cs := #[.bool false, .int .u64 0, .int .u64 0]) ?_ 0 _ rfl; refine zL ?_; exact BK359.out) hb); replace HB := Aside0.mk (below_step (zB HB) hb); (try clear hb); obtain ⟨hcz91_0, hcz91_1, hcz91_2⟩ := zc3 BK354; obtain ⟨hfz91_0, hfz91_1, hfz91_2⟩ := zf3 BK354; obtain ⟨hcz92_0, hcz92_1, hcz92_2⟩ := zc3 BK343; obtain ⟨hfz92_0, hfz92_1, hfz92_2⟩ := zf3 BK343) | (go_at_call 18; (with_reducible refine (address_Compare.calls t350 t351 t352 a0_0 a0_1 a0_2 t361 _ A68.out).mono ?_); rintro e w93 ⟨rfl, hb⟩; replace BK343 := Aside0.mk (blk_below (g := gb343) (o := .cells #[.bool a0_0, .int .u64 a0_1, .int .u64 a0_2] 25 (0, 0)) (zK BK343) hb); replace BK344 := Aside0.mk (blk_below (g := gb344) (o := .cells #[.bool a1_0, .int .u64 a1_1, .int .u64 a1_2] 25 (0, 0)) (zK BK344) hb); replace BK345 := Aside0.mk (blk_below (g := gb345) (o := .cells #[.bool a2_0, .int .u64 a2_1, .int .u64 a2_2] 25 (0, 0)) (zK BK345) hb); replace BK354 := Aside0.mk (blk_below (g := gb354) (o := .cells #[.bool t350, .int .u64 t351, .int .u64 t352] 25 (0, 0)) (zK BK354) hb); replace BK359 := Aside0.mk (blk_below (g := gb359) (o := .cells #[.bool t355, .int .u64 t356, .int .u64 t357] 25 (0, 0)) (zK BK359) hb); replace HB := Aside0.mk (below_step (zB HB) hb); (try clear hb); obtain ⟨hcz94_0, hcz94_1, hcz94_2⟩ := zc3 BK343; obtain ⟨hfz94_0, hfz94_1, hfz94_2⟩ := zf3 BK343; have hnb95 := NB344_345.out; have hnc95 := NB345_344.out; obtain ⟨hcz96_0, hcz96_1, hcz96_2⟩ := zc3 BK344; obtain ⟨hfz96_0, hfz96_1, hfz96_2⟩ := zf3 BK344) | (go_at_call 18; (with_reducible refine (address_Compare.calls a0_0 a0_1 a0_2 a1_0 a1_1 a1_2 t362 _ A70.out).mono ?_); rintro e w97 ⟨rfl, hb⟩; replace BK343 := Aside0.mk (blk_below (g := gb343) (o := .cells #[.bool a0_0, .int .u64 a0_1, .int .u64 a0_2] 25 (0, 0)) (zK BK343) hb); replace BK344 := Aside0.mk (blk_below (g := gb344) (o := .cells #[.bool a1_0, .int .u64 a1_1, .int .u64 a1_2] 25 (0, 0)) (zK BK344) hb); replace BK345 := Aside0.mk (blk_below (g := gb345) (o := .cells #[.bool a2_0, .int .u64 a2_1, .int .u64 a2_2] 25 (0, 0)) (zK BK345) hb); replace BK354 := Aside0.mk (blk_below (g := gb354) (o := .cells #[.bool t350, .int .u64 t351, .int .u64 t352] 25 (0, 0)) (zK BK354) hb); replace BK359 := Aside0.mk (blk_below (g := gb359) (o := .cells #[.bool t355, .int .u64 t356, .int .u64 t357] 25 (0, 0)) (zK BK359) hb); replace HB := Aside0.mk (below_step (zB HB) hb); (try clear hb); obtain ⟨hcz98_0, hcz98_1, hcz98_2⟩ := zc3 BK354; obtain ⟨hfz98_0, hfz98_1, hfz98_2⟩ := zf3 BK354; obtain ⟨hcz99_0, hcz99_1, hcz99_2⟩ := zc3 BK344; obtain ⟨hfz99_0, hfz99_1, hfz99_2⟩ := zf3 BK344) | (go_at_call 18; (with_reducible refine (address_Compare.calls t350 t351 t352 a1_0 a1_1 a1_2 t363 _ A72.out).mono ?_); rintro e w100 ⟨rfl, hb⟩; replace BK343 := Aside0.mk (blk_below (g := gb343) (o := .cells #[.bool a0_0, .int .u64 a0_1, .int .u64 a0_2] 25 (0, 0)) (zK BK343) hb); replace BK344 := Aside0.mk (blk_below (g := gb344) (o := .cells #[.bool a1_0, .int .u64 a1_1, .int .u64 a1_2] 25 (0, 0)) (zK BK344) hb); replace BK345 := Aside0.mk (blk_below (g := gb345) (o := .cells #[.bool a2_0, .int .u64 a2_1, .int .u64 a2_2] 25 (0, 0)) (zK BK345) hb); replace BK354 := Aside0.mk (blk_below (g := gb354) (o := .cells #[.bool t350, .int .u64 t351, .int .u64 t352] 25 (0, 0)) (zK BK354) hb); replace BK359 := Aside0.mk (blk_below (g := gb359) (o := .cells #[.bool t355, .int .u64 t356, .int .u64 t357] 25 (0, 0)) (zK BK359) hb); replace HB := Aside0.mk (below_step (zB HB) hb); (try clear hb); obtain ⟨hcz101_0, hcz101_1, hcz101_2⟩ := zc3 BK343; obtain ⟨hfz101_0, hfz101_1, hfz101_2⟩ := zf3 BK343; obtain ⟨hcz102_0, hcz102_1, hcz102_2⟩ := zc3 BK344; obtain ⟨hfz102_0, hfz102_1, hfz102_2⟩ := zf3 BK344))
                        go_ret
                        exact ⟨by first | rfl | (simp [errW_none, errW_some] <;> rfl) | (simp [*, errW_none, errW_some] <;> rfl), by repeat (first | (with_reducible first | exact HB.out | apply below_alloc | apply pw_below_drewN | apply below_drew1 | refine below_set ?_ GE343.out | refine below_set ?_ GE344.out | refine below_set ?_ GE345.out | refine below_set ?_ GE354.out | refine below_set ?_ GE359.out) | exact HB.out)⟩
                      · rw [if_neg c74] at H
                        have c74b0 : (a0_0 == a1_0) = false := by simpa using c74
                        (try (have c74b1 : decide (a0_0 = a1_0) = false := by first | (simpa using c74) | exact decide_eq_true (Decidable.not_not.1 (fun hn => c74 (bne_iff_ne.2 hn))) | exact beq_iff_eq.2 (Decidable.not_not.1 (fun hn => c74 (bne_iff_ne.2 hn))) | exact decide_eq_false (bne_iff_ne.1 c74) | exact beq_eq_false_iff_ne.2 (bne_iff_ne.1 c74) | exact bne_iff_ne.1 c74))
                        (try (have c74b2 : (a0_0 == a1_0) = false := by first | (simpa using c74) | exact decide_eq_true (Decidable.not_not.1 (fun hn => c74 (bne_iff_ne.2 hn))) | exact beq_iff_eq.2 (Decidable.not_not.1 (fun hn => c74 (bne_iff_ne.2 hn))) | exact decide_eq_false (bne_iff_ne.1 c74) | exact beq_eq_false_iff_ne.2 (bne_iff_ne.1 c74) | exact bne_iff_ne.1 c74))
                        (try (have c74b3 : ¬ (a0_0 = a1_0) := by first | (simpa using c74) | exact decide_eq_true (Decidable.not_not.1 (fun hn => c74 (bne_iff_ne.2 hn))) | exact beq_iff_eq.2 (Decidable.not_not.1 (fun hn => c74 (bne_iff_ne.2 hn))) | exact decide_eq_false (bne_iff_ne.1 c74) | exact beq_eq_false_iff_ne.2 (bne_iff_ne.1 c74) | exact bne_iff_ne.1 c74))
                        clear c74
                        have H' := Aside0.mk H
                        clear H
                        have hnb103 := NB354_343.out
                        have hnc103 := NB343_354.out
                        have hnb104 := NB354_344.out
                        have hnc104 := NB344_354.out
                        have hnb105 := NB354_345.out
                        have hnc105 := NB345_354.out
                        obtain ⟨hcz106_0, hcz106_1, hcz106_2⟩ := zc3 BK354
                        obtain ⟨hfz106_0, hfz106_1, hfz106_2⟩ := zf3 BK354
                        go_wp2_with (first | ((with_reducible refine gate_callee (f := 20) rfl ?_); refine goesL_ (some 34) rfl rfl Tryd.func20 (by kernel_rfl) rfl #[.agg #[.bool t350, .int .u64 t351, .int .u64 t352]] rfl (by (try simp only [List.map_toArray, List.map_cons, List.map_nil]); first | done | rfl | (simp only [List.length_drop, List.length_take]; rfl)) ?_; (with_reducible refine (address_Previous.calls t350 t351 t352 t355 t356 t357 true _ A49.out).mono ?_); rintro e w107 ⟨rfl, hb⟩; refine ⟨_, rfl, ?_⟩; replace BK343 := Aside0.mk (blk_below (g := gb343) (o := .cells #[.bool a0_0, .int .u64 a0_1, .int .u64 a0_2] 25 (0, 0)) (by refine zL ?_; refine blk_far ?_ NB343_354.out _; refine zL ?_; refine blk_far ?_ NB343_354.out _; refine zL ?_; refine blk_far ?_ NB343_354.out _; refine zL ?_; exact BK343.out) hb); replace BK344 := Aside0.mk (blk_below (g := gb344) (o := .cells #[.bool a1_0, .int .u64 a1_1, .int .u64 a1_2] 25 (0, 0)) (by refine zL ?_; refine blk_far ?_ NB344_354.out _; refine zL ?_; refine blk_far ?_ NB344_354.out _; refine zL ?_; refine blk_far ?_ NB344_354.out _; refine zL ?_; exact BK344.out) hb); replace BK345 := Aside0.mk (blk_below (g := gb345) (o := .cells #[.bool a2_0, .int .u64 a2_1, .int .u64 a2_2] 25 (0, 0)) (by refine zL ?_; refine blk_far ?_ NB345_354.out _; refine zL ?_; refine blk_far ?_ NB345_354.out _; refine zL ?_; refine blk_far ?_ NB345_354.out _; refine zL ?_; exact BK345.out) hb); replace BK354 := Aside0.mk (blk_below (g := gb354) (o := .cells #[.bool t350, .int .u64 t351, .int .u64 t352] 25 (0, 0)) (by refine zL ?_; refine blk_put (cs := #[.bool t350, .int .u64 t351, .int .u64 0]) ?_ 2 _ rfl; refine zL ?_; refine blk_put (cs := #[.bool t350, .int .u64 0, .int .u64 0]) ?_ 1 _ rfl; refine zL ?_; refine blk_put (cs := #[.bool false, .int .u64 0, .int .u64 0]) ?_ 0 _ rfl; refine zL ?_; exact BK354.out) hb); replace HB := Aside0.mk (below_step (zB HB) hb); (try clear hb)) | ((with_reducible refine gate_dst (N := 9) rfl ?_); refine zx 9 #[.bool false, .int .u64 0, .int .u64 0] 25 ?_; intro gb359 hg w108 hbox hb; have BK359 := Aside0.mk (hbox); have GW359 := Aside0.mk ((by rw [hg]; exact (below_size (zB HB)) : w.heap.size ≤ gb359)); have GE359 := Aside0.mk ((by rw [hg]; exact (below_size (zB HB)) : w.heap.size ≤ gb359)); replace HB := Aside0.mk (below_step (zB HB) hb); have NB343_359 := Aside0.mk ((by rw [hg]; exact Nat.ne_of_lt (blk_lt (g := gb343) (o := .cells #[.bool a0_0, .int .u64 a0_1, .int .u64 a0_2] 25 (0, 0)) (zK BK343)) : gb343 ≠ gb359)); have NB359_343 := Aside0.mk ((by rw [hg]; exact Nat.ne_of_gt (blk_lt (g := gb343) (o := .cells #[.bool a0_0, .int .u64 a0_1, .int .u64 a0_2] 25 (0, 0)) (zK BK343)) : gb359 ≠ gb343)); replace BK343 := Aside0.mk (blk_below (g := gb343) (o := .cells #[.bool a0_0, .int .u64 a0_1, .int .u64 a0_2] 25 (0, 0)) (zK BK343) hb); have NB344_359 := Aside0.mk ((by rw [hg]; exact Nat.ne_of_lt (blk_lt (g := gb344) (o := .cells #[.bool a1_0, .int .u64 a1_1, .int .u64 a1_2] 25 (0, 0)) (zK BK344)) : gb344 ≠ gb359)); have NB359_344 := Aside0.mk ((by rw [hg]; exact Nat.ne_of_gt (blk_lt (g := gb344) (o := .cells #[.bool a1_0, .int .u64 a1_1, .int .u64 a1_2] 25 (0, 0)) (zK BK344)) : gb359 ≠ gb344)); replace BK344 := Aside0.mk (blk_below (g := gb344) (o := .cells #[.bool a1_0, .int .u64 a1_1, .int .u64 a1_2] 25 (0, 0)) (zK BK344) hb); have NB345_359 := Aside0.mk ((by rw [hg]; exact Nat.ne_of_lt (blk_lt (g := gb345) (o := .cells #[.bool a2_0, .int .u64 a2_1, .int .u64 a2_2] 25 (0, 0)) (zK BK345)) : gb345 ≠ gb359)); have NB359_345 := Aside0.mk ((by rw [hg]; exact Nat.ne_of_gt (blk_lt (g := gb345) (o := .cells #[.bool a2_0, .int .u64 a2_1, .int .u64 a2_2] 25 (0, 0)) (zK BK345)) : gb359 ≠ gb345)); replace BK345 := Aside0.mk (blk_below (g := gb345) (o := .cells #[.bool a2_0, .int .u64 a2_1, .int .u64 a2_2] 25 (0, 0)) (zK BK345) hb); have NB354_359 := Aside0.mk ((by rw [hg]; exact Nat.ne_of_lt (blk_lt (g := gb354) (o := .cells #[.bool t350, .int .u64 t351, .int .u64 t352] 25 (0, 0)) (zK BK354)) : gb354 ≠ gb359)); have NB359_354 := Aside0.mk ((by rw [hg]; exact Nat.ne_of_gt (blk_lt (g := gb354) (o := .cells #[.bool t350, .int .u64 t351, .int .u64 t352] 25 (0, 0)) (zK BK354)) : gb359 ≠ gb354)); replace BK354 := Aside0.mk (blk_below (g := gb354) (o := .cells #[.bool t350, .int .u64 t351, .int .u64 t352] 25 (0, 0)) (zK BK354) hb); clear hb hbox hg; have hnb109 := NB359_343.out; have hnc109 := NB343_359.out; have hnb110 := NB359_344.out; have hnc110 := NB344_359.out; have hnb111 := NB359_345.out; have hnc111 := NB345_359.out; have hnb112 := NB359_354.out; have hnc112 := NB354_359.out; obtain ⟨hcz113_0, hcz113_1, hcz113_2⟩ := zc3 BK359; obtain ⟨hfz113_0, hfz113_1, hfz113_2⟩ := zf3 BK359; have hnb114 := NB343_344.out; have hnc114 := NB344_343.out; have hnb115 := NB343_345.out; have hnc115 := NB345_343.out; obtain ⟨hcz116_0, hcz116_1, hcz116_2⟩ := zc3 BK343; obtain ⟨hfz116_0, hfz116_1, hfz116_2⟩ := zf3 BK343; obtain ⟨hcz117_0, hcz117_1, hcz117_2⟩ := zc3 BK354; obtain ⟨hfz117_0, hfz117_1, hfz117_2⟩ := zf3 BK354) | (go_at_call 18; (with_reducible refine (address_Compare.calls a0_0 a0_1 a0_2 t350 t351 t352 t360 _ A66.out).mono ?_); rintro e w118 ⟨rfl, hb⟩; replace BK343 := Aside0.mk (blk_below (g := gb343) (o := .cells #[.bool a0_0, .int .u64 a0_1, .int .u64 a0_2] 25 (0, 0)) (by refine zL ?_; refine blk_far ?_ NB343_359.out _; refine zL ?_; refine blk_far ?_ NB343_359.out _; refine zL ?_; refine blk_far ?_ NB343_359.out _; refine zL ?_; exact BK343.out) hb); replace BK344 := Aside0.mk (blk_below (g := gb344) (o := .cells #[.bool a1_0, .int .u64 a1_1, .int .u64 a1_2] 25 (0, 0)) (by refine zL ?_; refine blk_far ?_ NB344_359.out _; refine zL ?_; refine blk_far ?_ NB344_359.out _; refine zL ?_; refine blk_far ?_ NB344_359.out _; refine zL ?_; exact BK344.out) hb); replace BK345 := Aside0.mk (blk_below (g := gb345) (o := .cells #[.bool a2_0, .int .u64 a2_1, .int .u64 a2_2] 25 (0, 0)) (by refine zL ?_; refine blk_far ?_ NB345_359.out _; refine zL ?_; refine blk_far ?_ NB345_359.out _; refine zL ?_; refine blk_far ?_ NB345_359.out _; refine zL ?_; exact BK345.out) hb); replace BK354 := Aside0.mk (blk_below (g := gb354) (o := .cells #[.bool t350, .int .u64 t351, .int .u64 t352] 25 (0, 0)) (by refine zL ?_; refine blk_far ?_ NB354_359.out _; refine zL ?_; refine blk_far ?_ NB354_359.out _; refine zL ?_; refine blk_far ?_ NB354_359.out _; refine zL ?_; exact BK354.out) hb); replace BK359 := Aside0.mk (blk_below (g := gb359) (o := .cells #[.bool t355, .int .u64 t356, .int .u64 t357] 25 (0, 0)) (by refine zL ?_; refine blk_put (cs := #[.bool t355, .int .u64 t356, .int .u64 0]) ?_ 2 _ rfl; refine zL ?_; refine blk_put (cs := #[.bool t355, .int .u64 0, .int .u64 0]) ?_ 1 _ rfl; refine zL ?_; refine blk_put (cs := #[.bool false, .int .u64 0, .int .u64 0]) ?_ 0 _ rfl; refine zL ?_; exact BK359.out) hb); replace HB := Aside0.mk (below_step (zB HB) hb); (try clear hb); obtain ⟨hcz119_0, hcz119_1, hcz119_2⟩ := zc3 BK354; obtain ⟨hfz119_0, hfz119_1, hfz119_2⟩ := zf3 BK354; obtain ⟨hcz120_0, hcz120_1, hcz120_2⟩ := zc3 BK343; obtain ⟨hfz120_0, hfz120_1, hfz120_2⟩ := zf3 BK343) | (go_at_call 18; (with_reducible refine (address_Compare.calls t350 t351 t352 a0_0 a0_1 a0_2 t361 _ A68.out).mono ?_); rintro e w121 ⟨rfl, hb⟩; replace BK343 := Aside0.mk (blk_below (g := gb343) (o := .cells #[.bool a0_0, .int .u64 a0_1, .int .u64 a0_2] 25 (0, 0)) (zK BK343) hb); replace BK344 := Aside0.mk (blk_below (g := gb344) (o := .cells #[.bool a1_0, .int .u64 a1_1, .int .u64 a1_2] 25 (0, 0)) (zK BK344) hb); replace BK345 := Aside0.mk (blk_below (g := gb345) (o := .cells #[.bool a2_0, .int .u64 a2_1, .int .u64 a2_2] 25 (0, 0)) (zK BK345) hb); replace BK354 := Aside0.mk (blk_below (g := gb354) (o := .cells #[.bool t350, .int .u64 t351, .int .u64 t352] 25 (0, 0)) (zK BK354) hb); replace BK359 := Aside0.mk (blk_below (g := gb359) (o := .cells #[.bool t355, .int .u64 t356, .int .u64 t357] 25 (0, 0)) (zK BK359) hb); replace HB := Aside0.mk (below_step (zB HB) hb); (try clear hb); obtain ⟨hcz122_0, hcz122_1, hcz122_2⟩ := zc3 BK343; obtain ⟨hfz122_0, hfz122_1, hfz122_2⟩ := zf3 BK343; have hnb123 := NB344_345.out; have hnc123 := NB345_344.out; obtain ⟨hcz124_0, hcz124_1, hcz124_2⟩ := zc3 BK344; obtain ⟨hfz124_0, hfz124_1, hfz124_2⟩ := zf3 BK344) | (go_at_call 18; (with_reducible refine (address_Compare.calls a0_0 a0_1 a0_2 a1_0 a1_1 a1_2 t362 _ A70.out).mono ?_); rintro e w125 ⟨rfl, hb⟩; replace BK343 := Aside0.mk (blk_below (g := gb343) (o := .cells #[.bool a0_0, .int .u64 a0_1, .int .u64 a0_2] 25 (0, 0)) (zK BK343) hb); replace BK344 := Aside0.mk (blk_below (g := gb344) (o := .cells #[.bool a1_0, .int .u64 a1_1, .int .u64 a1_2] 25 (0, 0)) (zK BK344) hb); replace BK345 := Aside0.mk (blk_below (g := gb345) (o := .cells #[.bool a2_0, .int .u64 a2_1, .int .u64 a2_2] 25 (0, 0)) (zK BK345) hb); replace BK354 := Aside0.mk (blk_below (g := gb354) (o := .cells #[.bool t350, .int .u64 t351, .int .u64 t352] 25 (0, 0)) (zK BK354) hb); replace BK359 := Aside0.mk (blk_below (g := gb359) (o := .cells #[.bool t355, .int .u64 t356, .int .u64 t357] 25 (0, 0)) (zK BK359) hb); replace HB := Aside0.mk (below_step (zB HB) hb); (try clear hb); obtain ⟨hcz126_0, hcz126_1, hcz126_2⟩ := zc3 BK354; obtain ⟨hfz126_0, hfz126_1, hfz126_2⟩ := zf3 BK354; obtain ⟨hcz127_0, hcz127_1, hcz127_2⟩ := zc3 BK344; obtain ⟨hfz127_0, hfz127_1, hfz127_2⟩ := zf3 BK344) | (go_at_call 18; (with_reducible refine (address_Compare.calls t350 t351 t352 a1_0 a1_1 a1_2 t363 _ A72.out).mono ?_); rintro e w128 ⟨rfl, hb⟩; replace BK343 := Aside0.mk (blk_below (g := gb343) (o := .cells #[.bool a0_0, .int .u64 a0_1, .int .u64 a0_2] 25 (0, 0)) (zK BK343) hb); replace BK344 := Aside0.mk (blk_below (g := gb344) (o := .cells #[.bool a1_0, .int .u64 a1_1, .int .u64 a1_2] 25 (0, 0)) (zK BK344) hb); replace BK345 := Aside0.mk (blk_below (g := gb345) (o := .cells #[.bool a2_0, .int .u64 a2_1, .int .u64 a2_2] 25 (0, 0)) (zK BK345) hb); replace BK354 := Aside0.mk (blk_below (g := gb354) (o := .cells #[.bool t350, .int .u64 t351, .int .u64 t352] 25 (0, 0)) (zK BK354) hb); replace BK359 := Aside0.mk (blk_below (g := gb359) (o := .cells #[.bool t355, .int .u64 t356, .int .u64 t357] 25 (0, 0)) (zK BK359) hb); replace HB := Aside0.mk (below_step (zB HB) hb); (try clear hb); obtain ⟨hcz129_0, hcz129_1, hcz129_2⟩ := zc3 BK343; obtain ⟨hfz129_0, hfz129_1, hfz129_2⟩ := zf3 BK343; obtain ⟨hcz130_0, hcz130_1, hcz130_2⟩ := zc3 BK344; obtain ⟨hfz130_0, hfz130_1, hfz130_2⟩ := zf3 BK344))
                        go_meet
                        case rel => exact ⟨_, H', ⟨by have := HJ5.out; first | omega | exact Nat.le_refl _⟩, ⟨zK BK343⟩, ⟨zK BK344⟩, ⟨zK BK345⟩, ⟨zK BK354⟩, ⟨zB HB⟩⟩
                    · rw [if_neg c73] at H
                      have c73b0 : decide (0 < t363) = false := decide_eq_false c73
                      clear c73
                      have H' := Aside0.mk H
                      clear H
                      have hnb131 := NB354_343.out
                      have hnc131 := NB343_354.out
                      have hnb132 := NB354_344.out
                      have hnc132 := NB344_354.out
                      have hnb133 := NB354_345.out
                      have hnc133 := NB345_354.out
                      obtain ⟨hcz134_0, hcz134_1, hcz134_2⟩ := zc3 BK354
                      obtain ⟨hfz134_0, hfz134_1, hfz134_2⟩ := zf3 BK354
                      go_wp2_with (first | ((with_reducible refine gate_callee (f := 20) rfl ?_); refine goesL_ (some 34) rfl rfl Tryd.func20 (by kernel_rfl) rfl #[.agg #[.bool t350, .int .u64 t351, .int .u64 t352]] rfl (by (try simp only [List.map_toArray, List.map_cons, List.map_nil]); first | done | rfl | (simp only [List.length_drop, List.length_take]; rfl)) ?_; (with_reducible refine (address_Previous.calls t350 t351 t352 t355 t356 t357 true _ A49.out).mono ?_); rintro e w135 ⟨rfl, hb⟩; refine ⟨_, rfl, ?_⟩; replace BK343 := Aside0.mk (blk_below (g := gb343) (o := .cells #[.bool a0_0, .int .u64 a0_1, .int .u64 a0_2] 25 (0, 0)) (by refine zL ?_; refine blk_far ?_ NB343_354.out _; refine zL ?_; refine blk_far ?_ NB343_354.out _; refine zL ?_; refine blk_far ?_ NB343_354.out _; refine zL ?_; exact BK343.out) hb); replace BK344 := Aside0.mk (blk_below (g := gb344) (o := .cells #[.bool a1_0, .int .u64 a1_1, .int .u64 a1_2] 25 (0, 0)) (by refine zL ?_; refine blk_far ?_ NB344_354.out _; refine zL ?_; refine blk_far ?_ NB344_354.out _; refine zL ?_; refine blk_far ?_ NB344_354.out _; refine zL ?_; exact BK344.out) hb); replace BK345 := Aside0.mk (blk_below (g := gb345) (o := .cells #[.bool a2_0, .int .u64 a2_1, .int .u64 a2_2] 25 (0, 0)) (by refine zL ?_; refine blk_far ?_ NB345_354.out _; refine zL ?_; refine blk_far ?_ NB345_354.out _; refine zL ?_; refine blk_far ?_ NB345_354.out _; refine zL ?_; exact BK345.out) hb); replace BK354 := Aside0.mk (blk_below (g := gb354) (o := .cells #[.bool t350, .int .u64 t351, .int .u64 t352] 25 (0, 0)) (by refine zL ?_; refine blk_put (cs := #[.bool t350, .int .u64 t351, .int .u64 0]) ?_ 2 _ rfl; refine zL ?_; refine blk_put (cs := #[.bool t350, .int .u64 0, .int .u64 0]) ?_ 1 _ rfl; refine zL ?_; refine blk_put (cs := #[.bool false, .int .u64 0, .int .u64 0]) ?_ 0 _ rfl; refine zL ?_; exact BK354.out) hb); replace HB := Aside0.mk (below_step (zB HB) hb); (try clear hb)) | ((with_reducible refine gate_dst (N := 9) rfl ?_); refine zx 9 #[.bool false, .int .u64 0, .int .u64 0] 25 ?_; intro gb359 hg w136 hbox hb; have BK359 := Aside0.mk (hbox); have GW359 := Aside0.mk ((by rw [hg]; exact (below_size (zB HB)) : w.heap.size ≤ gb359)); have GE359 := Aside0.mk ((by rw [hg]; exact (below_size (zB HB)) : w.heap.size ≤ gb359)); replace HB := Aside0.mk (below_step (zB HB) hb); have NB343_359 := Aside0.mk ((by rw [hg]; exact Nat.ne_of_lt (blk_lt (g := gb343) (o := .cells #[.bool a0_0, .int .u64 a0_1, .int .u64 a0_2] 25 (0, 0)) (zK BK343)) : gb343 ≠ gb359)); have NB359_343 := Aside0.mk ((by rw [hg]; exact Nat.ne_of_gt (blk_lt (g := gb343) (o := .cells #[.bool a0_0, .int .u64 a0_1, .int .u64 a0_2] 25 (0, 0)) (zK BK343)) : gb359 ≠ gb343)); replace BK343 := Aside0.mk (blk_below (g := gb343) (o := .cells #[.bool a0_0, .int .u64 a0_1, .int .u64 a0_2] 25 (0, 0)) (zK BK343) hb); have NB344_359 := Aside0.mk ((by rw [hg]; exact Nat.ne_of_lt (blk_lt (g := gb344) (o := .cells #[.bool a1_0, .int .u64 a1_1, .int .u64 a1_2] 25 (0, 0)) (zK BK344)) : gb344 ≠ gb359)); have NB359_344 := Aside0.mk ((by rw [hg]; exact Nat.ne_of_gt (blk_lt (g := gb344) (o := .cells #[.bool a1_0, .int .u64 a1_1, .int .u64 a1_2] 25 (0, 0)) (zK BK344)) : gb359 ≠ gb344)); replace BK344 := Aside0.mk (blk_below (g := gb344) (o := .cells #[.bool a1_0, .int .u64 a1_1, .int .u64 a1_2] 25 (0, 0)) (zK BK344) hb); have NB345_359 := Aside0.mk ((by rw [hg]; exact Nat.ne_of_lt (blk_lt (g := gb345) (o := .cells #[.bool a2_0, .int .u64 a2_1, .int .u64 a2_2] 25 (0, 0)) (zK BK345)) : gb345 ≠ gb359)); have NB359_345 := Aside0.mk ((by rw [hg]; exact Nat.ne_of_gt (blk_lt (g := gb345) (o := .cells #[.bool a2_0, .int .u64 a2_1, .int .u64 a2_2] 25 (0, 0)) (zK BK345)) : gb359 ≠ gb345)); replace BK345 := Aside0.mk (blk_below (g := gb345) (o := .cells #[.bool a2_0, .int .u64 a2_1, .int .u64 a2_2] 25 (0, 0)) (zK BK345) hb); have NB354_359 := Aside0.mk ((by rw [hg]; exact Nat.ne_of_lt (blk_lt (g := gb354) (o := .cells #[.bool t350, .int .u64 t351, .int .u64 t352] 25 (0, 0)) (zK BK354)) : gb354 ≠ gb359)); have NB359_354 := Aside0.mk ((by rw [hg]; exact Nat.ne_of_gt (blk_lt (g := gb354) (o := .cells #[.bool t350, .int .u64 t351, .int .u64 t352] 25 (0, 0)) (zK BK354)) : gb359 ≠ gb354)); replace BK354 := Aside0.mk (blk_below (g := gb354) (o := .cells #[.bool t350, .int .u64 t351, .int .u64 t352] 25 (0, 0)) (zK BK354) hb); clear hb hbox hg; have hnb137 := NB359_343.out; have hnc137 := NB343_359.out; have hnb138 := NB359_344.out; have hnc138 := NB344_359.out; have hnb139 := NB359_345.out; have hnc139 := NB345_359.out; have hnb140 := NB359_354.out; have hnc140 := NB354_359.out; obtain ⟨hcz141_0, hcz141_1, hcz141_2⟩ := zc3 BK359; obtain ⟨hfz141_0, hfz141_1, hfz141_2⟩ := zf3 BK359; have hnb142 := NB343_344.out; have hnc142 := NB344_343.out; have hnb143 := NB343_345.out; have hnc143 := NB345_343.out; obtain ⟨hcz144_0, hcz144_1, hcz144_2⟩ := zc3 BK343; obtain ⟨hfz144_0, hfz144_1, hfz144_2⟩ := zf3 BK343; obtain ⟨hcz145_0, hcz145_1, hcz145_2⟩ := zc3 BK354; obtain ⟨hfz145_0, hfz145_1, hfz145_2⟩ := zf3 BK354) | (go_at_call 18; (with_reducible refine (address_Compare.calls a0_0 a0_1 a0_2 t350 t351 t352 t360 _ A66.out).mono ?_); rintro e w146 ⟨rfl, hb⟩; replace BK343 := Aside0.mk (blk_below (g := gb343) (o := .cells #[.bool a0_0, .int .u64 a0_1, .int .u64 a0_2] 25 (0, 0)) (by refine zL ?_; refine blk_far ?_ NB343_359.out _; refine zL ?_; refine blk_far ?_ NB343_359.out _; refine zL ?_; refine blk_far ?_ NB343_359.out _; refine zL ?_; exact BK343.out) hb); replace BK344 := Aside0.mk (blk_below (g := gb344) (o := .cells #[.bool a1_0, .int .u64 a1_1, .int .u64 a1_2] 25 (0, 0)) (by refine zL ?_; refine blk_far ?_ NB344_359.out _; refine zL ?_; refine blk_far ?_ NB344_359.out _; refine zL ?_; refine blk_far ?_ NB344_359.out _; refine zL ?_; exact BK344.out) hb); replace BK345 := Aside0.mk (blk_below (g := gb345) (o := .cells #[.bool a2_0, .int .u64 a2_1, .int .u64 a2_2] 25 (0, 0)) (by refine zL ?_; refine blk_far ?_ NB345_359.out _; refine zL ?_; refine blk_far ?_ NB345_359.out _; refine zL ?_; refine blk_far ?_ NB345_359.out _; refine zL ?_; exact BK345.out) hb); replace BK354 := Aside0.mk (blk_below (g := gb354) (o := .cells #[.bool t350, .int .u64 t351, .int .u64 t352] 25 (0, 0)) (by refine zL ?_; refine blk_far ?_ NB354_359.out _; refine zL ?_; refine blk_far ?_ NB354_359.out _; refine zL ?_; refine blk_far ?_ NB354_359.out _; refine zL ?_; exact BK354.out) hb); replace BK359 := Aside0.mk (blk_below (g := gb359) (o := .cells #[.bool t355, .int .u64 t356, .int .u64 t357] 25 (0, 0)) (by refine zL ?_; refine blk_put (cs := #[.bool t355, .int .u64 t356, .int .u64 0]) ?_ 2 _ rfl; refine zL ?_; refine blk_put (cs := #[.bool t355, .int .u64 0, .int .u64 0]) ?_ 1 _ rfl; refine zL ?_; refine blk_put (cs := #[.bool false, .int .u64 0, .int .u64 0]) ?_ 0 _ rfl; refine zL ?_; exact BK359.out) hb); replace HB := Aside0.mk (below_step (zB HB) hb); (try clear hb); obtain ⟨hcz147_0, hcz147_1, hcz147_2⟩ := zc3 BK354; obtain ⟨hfz147_0, hfz147_1, hfz147_2⟩ := zf3 BK354; obtain ⟨hcz148_0, hcz148_1, hcz148_2⟩ := zc3 BK343; obtain ⟨hfz148_0, hfz148_1, hfz148_2⟩ := zf3 BK343) | (go_at_call 18; (with_reducible refine (address_Compare.calls t350 t351 t352 a0_0 a0_1 a0_2 t361 _ A68.out).mono ?_); rintro e w149 ⟨rfl, hb⟩; replace BK343 := Aside0.mk (blk_below (g := gb343) (o := .cells #[.bool a0_0, .int .u64 a0_1, .int .u64 a0_2] 25 (0, 0)) (zK BK343) hb); replace BK344 := Aside0.mk (blk_below (g := gb344) (o := .cells #[.bool a1_0, .int .u64 a1_1, .int .u64 a1_2] 25 (0, 0)) (zK BK344) hb); replace BK345 := Aside0.mk (blk_below (g := gb345) (o := .cells #[.bool a2_0, .int .u64 a2_1, .int .u64 a2_2] 25 (0, 0)) (zK BK345) hb); replace BK354 := Aside0.mk (blk_below (g := gb354) (o := .cells #[.bool t350, .int .u64 t351, .int .u64 t352] 25 (0, 0)) (zK BK354) hb); replace BK359 := Aside0.mk (blk_below (g := gb359) (o := .cells #[.bool t355, .int .u64 t356, .int .u64 t357] 25 (0, 0)) (zK BK359) hb); replace HB := Aside0.mk (below_step (zB HB) hb); (try clear hb); obtain ⟨hcz150_0, hcz150_1, hcz150_2⟩ := zc3 BK343; obtain ⟨hfz150_0, hfz150_1, hfz150_2⟩ := zf3 BK343; have hnb151 := NB344_345.out; have hnc151 := NB345_344.out; obtain ⟨hcz152_0, hcz152_1, hcz152_2⟩ := zc3 BK344; obtain ⟨hfz152_0, hfz152_1, hfz152_2⟩ := zf3 BK344) | (go_at_call 18; (with_reducible refine (address_Compare.calls a0_0 a0_1 a0_2 a1_0 a1_1 a1_2 t362 _ A70.out).mono ?_); rintro e w153 ⟨rfl, hb⟩; replace BK343 := Aside0.mk (blk_below (g := gb343) (o := .cells #[.bool a0_0, .int .u64 a0_1, .int .u64 a0_2] 25 (0, 0)) (zK BK343) hb); replace BK344 := Aside0.mk (blk_below (g := gb344) (o := .cells #[.bool a1_0, .int .u64 a1_1, .int .u64 a1_2] 25 (0, 0)) (zK BK344) hb); replace BK345 := Aside0.mk (blk_below (g := gb345) (o := .cells #[.bool a2_0, .int .u64 a2_1, .int .u64 a2_2] 25 (0, 0)) (zK BK345) hb); replace BK354 := Aside0.mk (blk_below (g := gb354) (o := .cells #[.bool t350, .int .u64 t351, .int .u64 t352] 25 (0, 0)) (zK BK354) hb); replace BK359 := Aside0.mk (blk_below (g := gb359) (o := .cells #[.bool t355, .int .u64 t356, .int .u64 t357] 25 (0, 0)) (zK BK359) hb); replace HB := Aside0.mk (below_step (zB HB) hb); (try clear hb); obtain ⟨hcz154_0, hcz154_1, hcz154_2⟩ := zc3 BK354; obtain ⟨hfz154_0, hfz154_1, hfz154_2⟩ := zf3 BK354; obtain ⟨hcz155_0, hcz155_1, hcz155_2⟩ := zc3 BK344; obtain ⟨hfz155_0, hfz155_1, hfz155_2⟩ := zf3 BK344) | (go_at_call 18; (with_reducible refine (address_Compare.calls t350 t351 t352 a1_0 a1_1 a1_2 t363 _ A72.out).mono ?_); rintro e w156 ⟨rfl, hb⟩; replace BK343 := Aside0.mk (blk_below (g := gb343) (o := .cells #[.bool a0_0, .int .u64 a0_1, .int .u64 a0_2] 25 (0, 0)) (zK BK343) hb); replace BK344 := Aside0.mk (blk_below (g := gb344) (o := .cells #[.bool a1_0, .int .u64 a1_1, .int .u64 a1_2] 25 (0, 0)) (zK BK344) hb); replace BK345 := Aside0.mk (blk_below (g := gb345) (o := .cells #[.bool a2_0, .int .u64 a2_1, .int .u64 a2_2] 25 (0, 0)) (zK BK345) hb); replace BK354 := Aside0.mk (blk_below (g := gb354) (o := .cells #[.bool t350, .int .u64 t351, .int .u64 t352] 25 (0, 0)) (zK BK354) hb); replace BK359 := Aside0.mk (blk_below (g := gb359) (o := .cells #[.bool t355, .int .u64 t356, .int .u64 t357] 25 (0, 0)) (zK BK359) hb); replace HB := Aside0.mk (below_step (zB HB) hb); (try clear hb)))
                      go_meet
                      case rel => exact ⟨_, H', ⟨by have := HJ5.out; first | omega | exact Nat.le_refl _⟩, ⟨zK BK343⟩, ⟨zK BK344⟩, ⟨zK BK345⟩, ⟨zK BK354⟩, ⟨zB HB⟩⟩
                  · rw [if_neg c71] at H
                    have c71b0 : decide (t362 < 0) = false := decide_eq_false c71
                    clear c71
                    have H' := Aside0.mk H
                    clear H
                    have hnb157 := NB354_343.out
                    have hnc157 := NB343_354.out
                    have hnb158 := NB354_344.out
                    have hnc158 := NB344_354.out
                    have hnb159 := NB354_345.out
                    have hnc159 := NB345_354.out
                    obtain ⟨hcz160_0, hcz160_1, hcz160_2⟩ := zc3 BK354
                    obtain ⟨hfz160_0, hfz160_1, hfz160_2⟩ := zf3 BK354
                    go_wp2_with (first | ((with_reducible refine gate_callee (f := 20) rfl ?_); refine goesL_ (some 34) rfl rfl Tryd.func20 (by kernel_rfl) rfl #[.agg #[.bool t350, .int .u64 t351, .int .u64 t352]] rfl (by (try simp only [List.map_toArray, List.map_cons, List.map_nil]); first | done | rfl | (simp only [List.length_drop, List.length_take]; rfl)) ?_; (with_reducible refine (address_Previous.calls t350 t351 t352 t355 t356 t357 true _ A49.out).mono ?_); rintro e w161 ⟨rfl, hb⟩; refine ⟨_, rfl, ?_⟩; replace BK343 := Aside0.mk (blk_below (g := gb343) (o := .cells #[.bool a0_0, .int .u64 a0_1, .int .u64 a0_2] 25 (0, 0)) (by refine zL ?_; refine blk_far ?_ NB343_354.out _; refine zL ?_; refine blk_far ?_ NB343_354.out _; refine zL ?_; refine blk_far ?_ NB343_354.out _; refine zL ?_; exact BK343.out) hb); replace BK344 := Aside0.mk (blk_below (g := gb344) (o := .cells #[.bool a1_0, .int .u64 a1_1, .int .u64 a1_2] 25 (0, 0)) (by refine zL ?_; refine blk_far ?_ NB344_354.out _; refine zL ?_; refine blk_far ?_ NB344_354.out _; refine zL ?_; refine blk_far ?_ NB344_354.out _; refine zL ?_; exact BK344.out) hb); replace BK345 := Aside0.mk (blk_below (g := gb345) (o := .cells #[.bool a2_0, .int .u64 a2_1, .int .u64 a2_2] 25 (0, 0)) (by refine zL ?_; refine blk_far ?_ NB345_354.out _; refine zL ?_; refine blk_far ?_ NB345_354.out _; refine zL ?_; refine blk_far ?_ NB345_354.out _; refine zL ?_; exact BK345.out) hb); replace BK354 := Aside0.mk (blk_below (g := gb354) (o := .cells #[.bool t350, .int .u64 t351, .int .u64 t352] 25 (0, 0)) (by refine zL ?_; refine blk_put (cs := #[.bool t350, .int .u64 t351, .int .u64 0]) ?_ 2 _ rfl; refine zL ?_; refine blk_put (cs := #[.bool t350, .int .u64 0, .int .u64 0]) ?_ 1 _ rfl; refine zL ?_; refine blk_put (cs := #[.bool false, .int .u64 0, .int .u64 0]) ?_ 0 _ rfl; refine zL ?_; exact BK354.out) hb); replace HB := Aside0.mk (below_step (zB HB) hb); (try clear hb)) | ((with_reducible refine gate_dst (N := 9) rfl ?_); refine zx 9 #[.bool false, .int .u64 0, .int .u64 0] 25 ?_; intro gb359 hg w162 hbox hb; have BK359 := Aside0.mk (hbox); have GW359 := Aside0.mk ((by rw [hg]; exact (below_size (zB HB)) : w.heap.size ≤ gb359)); have GE359 := Aside0.mk ((by rw [hg]; exact (below_size (zB HB)) : w.heap.size ≤ gb359)); replace HB := Aside0.mk (below_step (zB HB) hb); have NB343_359 := Aside0.mk ((by rw [hg]; exact Nat.ne_of_lt (blk_lt (g := gb343) (o := .cells #[.bool a0_0, .int .u64 a0_1, .int .u64 a0_2] 25 (0, 0)) (zK BK343)) : gb343 ≠ gb359)); have NB359_343 := Aside0.mk ((by rw [hg]; exact Nat.ne_of_gt (blk_lt (g := gb343) (o := .cells #[.bool a0_0, .int .u64 a0_1, .int .u64 a0_2] 25 (0, 0)) (zK BK343)) : gb359 ≠ gb343)); replace BK343 := Aside0.mk (blk_below (g := gb343) (o := .cells #[.bool a0_0, .int .u64 a0_1, .int .u64 a0_2] 25 (0, 0)) (zK BK343) hb); have NB344_359 := Aside0.mk ((by rw [hg]; exact Nat.ne_of_lt (blk_lt (g := gb344) (o := .cells #[.bool a1_0, .int .u64 a1_1, .int .u64 a1_2] 25 (0, 0)) (zK BK344)) : gb344 ≠ gb359)); have NB359_344 := Aside0.mk ((by rw [hg]; exact Nat.ne_of_gt (blk_lt (g := gb344) (o := .cells #[.bool a1_0, .int .u64 a1_1, .int .u64 a1_2] 25 (0, 0)) (zK BK344)) : gb359 ≠ gb344)); replace BK344 := Aside0.mk (blk_below (g := gb344) (o := .cells #[.bool a1_0, .int .u64 a1_1, .int .u64 a1_2] 25 (0, 0)) (zK BK344) hb); have NB345_359 := Aside0.mk ((by rw [hg]; exact Nat.ne_of_lt (blk_lt (g := gb345) (o := .cells #[.bool a2_0, .int .u64 a2_1, .int .u64 a2_2] 25 (0, 0)) (zK BK345)) : gb345 ≠ gb359)); have NB359_345 := Aside0.mk ((by rw [hg]; exact Nat.ne_of_gt (blk_lt (g := gb345) (o := .cells #[.bool a2_0, .int .u64 a2_1, .int .u64 a2_2] 25 (0, 0)) (zK BK345)) : gb359 ≠ gb345)); replace BK345 := Aside0.mk (blk_below (g := gb345) (o := .cells #[.bool a2_0, .int .u64 a2_1, .int .u64 a2_2] 25 (0, 0)) (zK BK345) hb); have NB354_359 := Aside0.mk ((by rw [hg]; exact Nat.ne_of_lt (blk_lt (g := gb354) (o := .cells #[.bool t350, .int .u64 t351, .int .u64 t352] 25 (0, 0)) (zK BK354)) : gb354 ≠ gb359)); have NB359_354 := Aside0.mk ((by rw [hg]; exact Nat.ne_of_gt (blk_lt (g := gb354) (o := .cells #[.bool t350, .int .u64 t351, .int .u64 t352] 25 (0, 0)) (zK BK354)) : gb359 ≠ gb354)); replace BK354 := Aside0.mk (blk_below (g := gb354) (o := .cells #[.bool t350, .int .u64 t351, .int .u64 t352] 25 (0, 0)) (zK BK354) hb); clear hb hbox hg; have hnb163 := NB359_343.out; have hnc163 := NB343_359.out; have hnb164 := NB359_344.out; have hnc164 := NB344_359.out; have hnb165 := NB359_345.out; have hnc165 := NB345_359.out; have hnb166 := NB359_354.out; have hnc166 := NB354_359.out; obtain ⟨hcz167_0, hcz167_1, hcz167_2⟩ := zc3 BK359; obtain ⟨hfz167_0, hfz167_1, hfz167_2⟩ := zf3 BK359; have hnb168 := NB343_344.out; have hnc168 := NB344_343.out; have hnb169 := NB343_345.out; have hnc169 := NB345_343.out; obtain ⟨hcz170_0, hcz170_1, hcz170_2⟩ := zc3 BK343; obtain ⟨hfz170_0, hfz170_1, hfz170_2⟩ := zf3 BK343; obtain ⟨hcz171_0, hcz171_1, hcz171_2⟩ := zc3 BK354; obtain ⟨hfz171_0, hfz171_1, hfz171_2⟩ := zf3 BK354) | (go_at_call 18; (with_reducible refine (address_Compare.calls a0_0 a0_1 a0_2 t350 t351 t352 t360 _ A66.out).mono ?_); rintro e w172 ⟨rfl, hb⟩; replace BK343 := Aside0.mk (blk_below (g := gb343) (o := .cells #[.bool a0_0, .int .u64 a0_1, .int .u64 a0_2] 25 (0, 0)) (by refine zL ?_; refine blk_far ?_ NB343_359.out _; refine zL ?_; refine blk_far ?_ NB343_359.out _; refine zL ?_; refine blk_far ?_ NB343_359.out _; refine zL ?_; exact BK343.out) hb); replace BK344 := Aside0.mk (blk_below (g := gb344) (o := .cells #[.bool a1_0, .int .u64 a1_1, .int .u64 a1_2] 25 (0, 0)) (by refine zL ?_; refine blk_far ?_ NB344_359.out _; refine zL ?_; refine blk_far ?_ NB344_359.out _; refine zL ?_; refine blk_far ?_ NB344_359.out _; refine zL ?_; exact BK344.out) hb); replace BK345 := Aside0.mk (blk_below (g := gb345) (o := .cells #[.bool a2_0, .int .u64 a2_1, .int .u64 a2_2] 25 (0, 0)) (by refine zL ?_; refine blk_far ?_ NB345_359.out _; refine zL ?_; refine blk_far ?_ NB345_359.out _; refine zL ?_; refine blk_far ?_ NB345_359.out _; refine zL ?_; exact BK345.out) hb); replace BK354 := Aside0.mk (blk_below (g := gb354) (o := .cells #[.bool t350, .int .u64 t351, .int .u64 t352] 25 (0, 0)) (by refine zL ?_; refine blk_far ?_ NB354_359.out _; refine zL ?_; refine blk_far ?_ NB354_359.out _; refine zL ?_; refine blk_far ?_ NB354_359.out _; refine zL ?_; exact BK354.out) hb); replace BK359 := Aside0.mk (blk_below (g := gb359) (o := .cells #[.bool t355, .int .u64 t356, .int .u64 t357] 25 (0, 0)) (by refine zL ?_; refine blk_put (cs := #[.bool t355, .int .u64 t356, .int .u64 0]) ?_ 2 _ rfl; refine zL ?_; refine blk_put (cs := #[.bool t355, .int .u64 0, .int .u64 0]) ?_ 1 _ rfl; refine zL ?_; refine blk_put (cs := #[.bool false, .int .u64 0, .int .u64 0]) ?_ 0 _ rfl; refine zL ?_; exact BK359.out) hb); replace HB := Aside0.mk (below_step (zB HB) hb); (try clear hb); obtain ⟨hcz173_0, hcz173_1, hcz173_2⟩ := zc3 BK354; obtain ⟨hfz173_0, hfz173_1, hfz173_2⟩ := zf3 BK354; obtain ⟨hcz174_0, hcz174_1, hcz174_2⟩ := zc3 BK343; obtain ⟨hfz174_0, hfz174_1, hfz174_2⟩ := zf3 BK343) | (go_at_call 18; (with_reducible refine (address_Compare.calls t350 t351 t352 a0_0 a0_1 a0_2 t361 _ A68.out).mono ?_); rintro e w175 ⟨rfl, hb⟩; replace BK343 := Aside0.mk (blk_below (g := gb343) (o := .cells #[.bool a0_0, .int .u64 a0_1, .int .u64 a0_2] 25 (0, 0)) (zK BK343) hb); replace BK344 := Aside0.mk (blk_below (g := gb344) (o := .cells #[.bool a1_0, .int .u64 a1_1, .int .u64 a1_2] 25 (0, 0)) (zK BK344) hb); replace BK345 := Aside0.mk (blk_below (g := gb345) (o := .cells #[.bool a2_0, .int .u64 a2_1, .int .u64 a2_2] 25 (0, 0)) (zK BK345) hb); replace BK354 := Aside0.mk (blk_below (g := gb354) (o := .cells #[.bool t350, .int .u64 t351, .int .u64 t352] 25 (0, 0)) (zK BK354) hb); replace BK359 := Aside0.mk (blk_below (g := gb359) (o := .cells #[.bool t355, .int .u64 t356, .int .u64 t357] 25 (0, 0)) (zK BK359) hb); replace HB := Aside0.mk (below_step (zB HB) hb); (try clear hb); obtain ⟨hcz176_0, hcz176_1, hcz176_2⟩ := zc3 BK343; obtain ⟨hfz176_0, hfz176_1, hfz176_2⟩ := zf3 BK343; have hnb177 := NB344_345.out; have hnc177 := NB345_344.out; obtain ⟨hcz178_0, hcz178_1, hcz178_2⟩ := zc3 BK344; obtain ⟨hfz178_0, hfz178_1, hfz178_2⟩ := zf3 BK344) | (go_at_call 18; (with_reducible refine (address_Compare.calls a0_0 a0_1 a0_2 a1_0 a1_1 a1_2 t362 _ A70.out).mono ?_); rintro e w179 ⟨rfl, hb⟩; replace BK343 := Aside0.mk (blk_below (g := gb343) (o := .cells #[.bool a0_0, .int .u64 a0_1, .int .u64 a0_2] 25 (0, 0)) (zK BK343) hb); replace BK344 := Aside0.mk (blk_below (g := gb344) (o := .cells #[.bool a1_0, .int .u64 a1_1, .int .u64 a1_2] 25 (0, 0)) (zK BK344) hb); replace BK345 := Aside0.mk (blk_below (g := gb345) (o := .cells #[.bool a2_0, .int .u64 a2_1, .int .u64 a2_2] 25 (0, 0)) (zK BK345) hb); replace BK354 := Aside0.mk (blk_below (g := gb354) (o := .cells #[.bool t350, .int .u64 t351, .int .u64 t352] 25 (0, 0)) (zK BK354) hb); replace BK359 := Aside0.mk (blk_below (g := gb359) (o := .cells #[.bool t355, .int .u64 t356, .int .u64 t357] 25 (0, 0)) (zK BK359) hb); replace HB := Aside0.mk (below_step (zB HB) hb); (try clear hb)))
                    go_meet
                    case rel => exact ⟨_, H', ⟨by have := HJ5.out; first | omega | exact Nat.le_refl _⟩, ⟨zK BK343⟩, ⟨zK BK344⟩, ⟨zK BK345⟩, ⟨zK BK354⟩, ⟨zB HB⟩⟩
                · rw [if_neg c69] at H
                  have c69b0 : (t361 == 1) = false := beq_eq_false_iff_ne.mpr c69
                  have c69b1 : (t361 != 1) = true := bne_iff_ne.mpr c69
                  obtain rfl := Option.some.inj H
                  have hnb180 := NB354_343.out
                  have hnc180 := NB343_354.out
                  have hnb181 := NB354_344.out
                  have hnc181 := NB344_354.out
                  have hnb182 := NB354_345.out
                  have hnc182 := NB345_354.out
                  obtain ⟨hcz183_0, hcz183_1, hcz183_2⟩ := zc3 BK354
                  obtain ⟨hfz183_0, hfz183_1, hfz183_2⟩ := zf3 BK354
                  go_wp2_with (first | ((with_reducible refine gate_callee (f := 20) rfl ?_); refine goesL_ (some 34) rfl rfl Tryd.func20 (by kernel_rfl) rfl #[.agg #[.bool t350, .int .u64 t351, .int .u64 t352]] rfl (by (try simp only [List.map_toArray, List.map_cons, List.map_nil]); first | done | rfl | (simp only [List.length_drop, List.length_take]; rfl)) ?_; (with_reducible refine (address_Previous.calls t350 t351 t352 t355 t356 t357 true _ A49.out).mono ?_); rintro e w184 ⟨rfl, hb⟩; refine ⟨_, rfl, ?_⟩; replace BK343 := Aside0.mk (blk_below (g := gb343) (o := .cells #[.bool a0_0, .int .u64 a0_1, .int .u64 a0_2] 25 (0, 0)) (by refine zL ?_; refine blk_far ?_ NB343_354.out _; refine zL ?_; refine blk_far ?_ NB343_354.out _; refine zL ?_; refine blk_far ?_ NB343_354.out _; refine zL ?_; exact BK343.out) hb); replace BK344 := Aside0.mk (blk_below (g := gb344) (o := .cells #[.bool a1_0, .int .u64 a1_1, .int .u64 a1_2] 25 (0, 0)) (by refine zL ?_; refine blk_far ?_ NB344_354.out _; refine zL ?_; refine blk_far ?_ NB344_354.out _; refine zL ?_; refine blk_far ?_ NB344_354.out _; refine zL ?_; exact BK344.out) hb); replace BK345 := Aside0.mk (blk_below (g := gb345) (o := .cells #[.bool a2_0, .int .u64 a2_1, .int .u64 a2_2] 25 (0, 0)) (by refine zL ?_; refine blk_far ?_ NB345_354.out _; refine zL ?_; refine blk_far ?_ NB345_354.out _; refine zL ?_; refine blk_far ?_ NB345_354.out _; refine zL ?_; exact BK345.out) hb); replace BK354 := Aside0.mk (blk_below (g := gb354) (o := .cells #[.bool t350, .int .u64 t351, .int .u64 t352] 25 (0, 0)) (by refine zL ?_; refine blk_put (cs := #[.bool t350, .int .u64 t351, .int .u64 0]) ?_ 2 _ rfl; refine zL ?_; refine blk_put (cs := #[.bool t350, .int .u64 0, .int .u64 0]) ?_ 1 _ rfl; refine zL ?_; refine blk_put (cs := #[.bool false, .int .u64 0, .int .u64 0]) ?_ 0 _ rfl; refine zL ?_; exact BK354.out) hb); replace HB := Aside0.mk (below_step (zB HB) hb); (try clear hb)) | ((with_reducible refine gate_dst (N := 9) rfl ?_); refine zx 9 #[.bool false, .int .u64 0, .int .u64 0] 25 ?_; intro gb359 hg w185 hbox hb; have BK359 := Aside0.mk (hbox); have GW359 := Aside0.mk ((by rw [hg]; exact (below_size (zB HB)) : w.heap.size ≤ gb359)); have GE359 := Aside0.mk ((by rw [hg]; exact (below_size (zB HB)) : w.heap.size ≤ gb359)); replace HB := Aside0.mk (below_step (zB HB) hb); have NB343_359 := Aside0.mk ((by rw [hg]; exact Nat.ne_of_lt (blk_lt (g := gb343) (o := .cells #[.bool a0_0, .int .u64 a0_1, .int .u64 a0_2] 25 (0, 0)) (zK BK343)) : gb343 ≠ gb359)); have NB359_343 := Aside0.mk ((by rw [hg]; exact Nat.ne_of_gt (blk_lt (g := gb343) (o := .cells #[.bool a0_0, .int .u64 a0_1, .int .u64 a0_2] 25 (0, 0)) (zK BK343)) : gb359 ≠ gb343)); replace BK343 := Aside0.mk (blk_below (g := gb343) (o := .cells #[.bool a0_0, .int .u64 a0_1, .int .u64 a0_2] 25 (0, 0)) (zK BK343) hb); have NB344_359 := Aside0.mk ((by rw [hg]; exact Nat.ne_of_lt (blk_lt (g := gb344) (o := .cells #[.bool a1_0, .int .u64 a1_1, .int .u64 a1_2] 25 (0, 0)) (zK BK344)) : gb344 ≠ gb359)); have NB359_344 := Aside0.mk ((by rw [hg]; exact Nat.ne_of_gt (blk_lt (g := gb344) (o := .cells #[.bool a1_0, .int .u64 a1_1, .int .u64 a1_2] 25 (0, 0)) (zK BK344)) : gb359 ≠ gb344)); replace BK344 := Aside0.mk (blk_below (g := gb344) (o := .cells #[.bool a1_0, .int .u64 a1_1, .int .u64 a1_2] 25 (0, 0)) (zK BK344) hb); have NB345_359 := Aside0.mk ((by rw [hg]; exact Nat.ne_of_lt (blk_lt (g := gb345) (o := .cells #[.bool a2_0, .int .u64 a2_1, .int .u64 a2_2] 25 (0, 0)) (zK BK345)) : gb345 ≠ gb359)); have NB359_345 := Aside0.mk ((by rw [hg]; exact Nat.ne_of_gt (blk_lt (g := gb345) (o := .cells #[.bool a2_0, .int .u64 a2_1, .int .u64 a2_2] 25 (0, 0)) (zK BK345)) : gb359 ≠ gb345)); replace BK345 := Aside0.mk (blk_below (g := gb345) (o := .cells #[.bool a2_0, .int .u64 a2_1, .int .u64 a2_2] 25 (0, 0)) (zK BK345) hb); have NB354_359 := Aside0.mk ((by rw [hg]; exact Nat.ne_of_lt (blk_lt (g := gb354) (o := .cells #[.bool t350, .int .u64 t351, .int .u64 t352] 25 (0, 0)) (zK BK354)) : gb354 ≠ gb359)); have NB359_354 := Aside0.mk ((by rw [hg]; exact Nat.ne_of_gt (blk_lt (g := gb354) (o := .cells #[.bool t350, .int .u64 t351, .int .u64 t352] 25 (0, 0)) (zK BK354)) : gb359 ≠ gb354)); replace BK354 := Aside0.mk (blk_below (g := gb354) (o := .cells #[.bool t350, .int .u64 t351, .int .u64 t352] 25 (0, 0)) (zK BK354) hb); clear hb hbox hg; have hnb186 := NB359_343.out; have hnc186 := NB343_359.out; have hnb187 := NB359_344.out; have hnc187 := NB344_359.out; have hnb188 := NB359_345.out; have hnc188 := NB345_359.out; have hnb189 := NB359_354.out; have hnc189 := NB354_359.out; obtain ⟨hcz190_0, hcz190_1, hcz190_2⟩ := zc3 BK359; obtain ⟨hfz190_0, hfz190_1, hfz190_2⟩ := zf3 BK359; have hnb191 := NB343_344.out; have hnc191 := NB344_343.out; have hnb192 := NB343_345.out; have hnc192 := NB345_343.out; obtain ⟨hcz193_0, hcz193_1, hcz193_2⟩ := zc3 BK343; obtain ⟨hfz193_0, hfz193_1, hfz193_2⟩ := zf3 BK343; obtain ⟨hcz194_0, hcz194_1, hcz194_2⟩ := zc3 BK354; obtain ⟨hfz194_0, hfz194_1, hfz194_2⟩ := zf3 BK354) | (go_at_call 18; (with_reducible refine (address_Compare.calls a0_0 a0_1 a0_2 t350 t351 t352 t360 _ A66.out).mono ?_); rintro e w195 ⟨rfl, hb⟩; replace BK343 := Aside0.mk (blk_below (g := gb343) (o := .cells #[.bool a0_0, .int .u64 a0_1, .int .u64 a0_2] 25 (0, 0)) (by refine zL ?_; refine blk_far ?_ NB343_359.out _; refine zL ?_; refine blk_far ?_ NB343_359.out _; refine zL ?_; refine blk_far ?_ NB343_359.out _; refine zL ?_; exact BK343.out) hb); replace BK344 := Aside0.mk (blk_below (g := gb344) (o := .cells #[.bool a1_0, .int .u64 a1_1, .int .u64 a1_2] 25 (0, 0)) (by refine zL ?_; refine blk_far ?_ NB344_359.out _; refine zL ?_; refine blk_far ?_ NB344_359.out _; refine zL ?_; refine blk_far ?_ NB344_359.out _; refine zL ?_; exact BK344.out) hb); replace BK345 := Aside0.mk (blk_below (g := gb345) (o := .cells #[.bool a2_0, .int .u64 a2_1, .int .u64 a2_2] 25 (0, 0)) (by refine zL ?_; refine blk_far ?_ NB345_359.out _; refine zL ?_; refine blk_far ?_ NB345_359.out _; refine zL ?_; refine blk_far ?_ NB345_359.out _; refine zL ?_; exact BK345.out) hb); replace BK354 := Aside0.mk (blk_below (g := gb354) (o := .cells #[.bool t350, .int .u64 t351, .int .u64 t352] 25 (0, 0)) (by refine zL ?_; refine blk_far ?_ NB354_359.out _; refine zL ?_; refine blk_far ?_ NB354_359.out _; refine zL ?_; refine blk_far ?_ NB354_359.out _; refine zL ?_; exact BK354.out) hb); replace BK359 := Aside0.mk (blk_below (g := gb359) (o := .cells #[.bool t355, .int .u64 t356, .int .u64 t357] 25 (0, 0)) (by refine zL ?_; refine blk_put (cs := #[.bool t355, .int .u64 t356, .int .u64 0]) ?_ 2 _ rfl; refine zL ?_; refine blk_put (cs := #[.bool t355, .int .u64 0, .int .u64 0]) ?_ 1 _ rfl; refine zL ?_; refine blk_put (cs := #[.bool false, .int .u64 0, .int .u64 0]) ?_ 0 _ rfl; refine zL ?_; exact BK359.out) hb); replace HB := Aside0.mk (below_step (zB HB) hb); (try clear hb); obtain ⟨hcz196_0, hcz196_1, hcz196_2⟩ := zc3 BK354; obtain ⟨hfz196_0, hfz196_1, hfz196_2⟩ := zf3 BK354; obtain ⟨hcz197_0, hcz197_1, hcz197_2⟩ := zc3 BK343; obtain ⟨hfz197_0, hfz197_1, hfz197_2⟩ := zf3 BK343) | (go_at_call 18; (with_reducible refine (address_Compare.calls t350 t351 t352 a0_0 a0_1 a0_2 t361 _ A68.out).mono ?_); rintro e w198 ⟨rfl, hb⟩; replace BK343 := Aside0.mk (blk_below (g := gb343) (o := .cells #[.bool a0_0, .int .u64 a0_1, .int .u64 a0_2] 25 (0, 0)) (zK BK343) hb); replace BK344 := Aside0.mk (blk_below (g := gb344) (o := .cells #[.bool a1_0, .int .u64 a1_1, .int .u64 a1_2] 25 (0, 0)) (zK BK344) hb); replace BK345 := Aside0.mk (blk_below (g := gb345) (o := .cells #[.bool a2_0, .int .u64 a2_1, .int .u64 a2_2] 25 (0, 0)) (zK BK345) hb); replace BK354 := Aside0.mk (blk_below (g := gb354) (o := .cells #[.bool t350, .int .u64 t351, .int .u64 t352] 25 (0, 0)) (zK BK354) hb); replace BK359 := Aside0.mk (blk_below (g := gb359) (o := .cells #[.bool t355, .int .u64 t356, .int .u64 t357] 25 (0, 0)) (zK BK359) hb); replace HB := Aside0.mk (below_step (zB HB) hb); (try clear hb)))
                  go_ret
                  exact ⟨by first | rfl | (simp [errW_none, errW_some] <;> rfl) | (simp [*, errW_none, errW_some] <;> rfl), by repeat (first | (with_reducible first | exact HB.out | apply below_alloc | apply pw_below_drewN | apply below_drew1 | refine below_set ?_ GE343.out | refine below_set ?_ GE344.out | refine below_set ?_ GE345.out | refine below_set ?_ GE354.out | refine below_set ?_ GE359.out) | exact HB.out)⟩
              · rw [if_neg c67] at H
                have c67b0 : (t360 == (-1)) = false := beq_eq_false_iff_ne.mpr c67
                have c67b1 : (t360 != (-1)) = true := bne_iff_ne.mpr c67
                obtain rfl := Option.some.inj H
                have hnb199 := NB354_343.out
                have hnc199 := NB343_354.out
                have hnb200 := NB354_344.out
                have hnc200 := NB344_354.out
                have hnb201 := NB354_345.out
                have hnc201 := NB345_354.out
                obtain ⟨hcz202_0, hcz202_1, hcz202_2⟩ := zc3 BK354
                obtain ⟨hfz202_0, hfz202_1, hfz202_2⟩ := zf3 BK354
                go_wp2_with (first | ((with_reducible refine gate_callee (f := 20) rfl ?_); refine goesL_ (some 34) rfl rfl Tryd.func20 (by kernel_rfl) rfl #[.agg #[.bool t350, .int .u64 t351, .int .u64 t352]] rfl (by (try simp only [List.map_toArray, List.map_cons, List.map_nil]); first | done | rfl | (simp only [List.length_drop, List.length_take]; rfl)) ?_; (with_reducible refine (address_Previous.calls t350 t351 t352 t355 t356 t357 true _ A49.out).mono ?_); rintro e w203 ⟨rfl, hb⟩; refine ⟨_, rfl, ?_⟩; replace BK343 := Aside0.mk (blk_below (g := gb343) (o := .cells #[.bool a0_0, .int .u64 a0_1, .int .u64 a0_2] 25 (0, 0)) (by refine zL ?_; refine blk_far ?_ NB343_354.out _; refine zL ?_; refine blk_far ?_ NB343_354.out _; refine zL ?_; refine blk_far ?_ NB343_354.out _; refine zL ?_; exact BK343.out) hb); replace BK344 := Aside0.mk (blk_below (g := gb344) (o := .cells #[.bool a1_0, .int .u64 a1_1, .int .u64 a1_2] 25 (0, 0)) (by refine zL ?_; refine blk_far ?_ NB344_354.out _; refine zL ?_; refine blk_far ?_ NB344_354.out _; refine zL ?_; refine blk_far ?_ NB344_354.out _; refine zL ?_; exact BK344.out) hb); replace BK345 := Aside0.mk (blk_below (g := gb345) (o := .cells #[.bool a2_0, .int .u64 a2_1, .int .u64 a2_2] 25 (0, 0)) (by refine zL ?_; refine blk_far ?_ NB345_354.out _; refine zL ?_; refine blk_far ?_ NB345_354.out _; refine zL ?_; refine blk_far ?_ NB345_354.out _; refine zL ?_; exact BK345.out) hb); replace BK354 := Aside0.mk (blk_below (g := gb354) (o := .cells #[.bool t350, .int .u64 t351, .int .u64 t352] 25 (0, 0)) (by refine zL ?_; refine blk_put (cs := #[.bool t350, .int .u64 t351, .int .u64 0]) ?_ 2 _ rfl; refine zL ?_; refine blk_put (cs := #[.bool t350, .int .u64 0, .int .u64 0]) ?_ 1 _ rfl; refine zL ?_; refine blk_put (cs := #[.bool false, .int .u64 0, .int .u64 0]) ?_ 0 _ rfl; refine zL ?_; exact BK354.out) hb); replace HB := Aside0.mk (below_step (zB HB) hb); (try clear hb)) | ((with_reducible refine gate_dst (N := 9) rfl ?_); refine zx 9 #[.bool false, .int .u64 0, .int .u64 0] 25 ?_; intro gb359 hg w204 hbox hb; have BK359 := Aside0.mk (hbox); have GW359 := Aside0.mk ((by rw [hg]; exact (below_size (zB HB)) : w.heap.size ≤ gb359)); have GE359 := Aside0.mk ((by rw [hg]; exact (below_size (zB HB)) : w.heap.size ≤ gb359)); replace HB := Aside0.mk (below_step (zB HB) hb); have NB343_359 := Aside0.mk ((by rw [hg]; exact Nat.ne_of_lt (blk_lt (g := gb343) (o := .cells #[.bool a0_0, .int .u64 a0_1, .int .u64 a0_2] 25 (0, 0)) (zK BK343)) : gb343 ≠ gb359)); have NB359_343 := Aside0.mk ((by rw [hg]; exact Nat.ne_of_gt (blk_lt (g := gb343) (o := .cells #[.bool a0_0, .int .u64 a0_1, .int .u64 a0_2] 25 (0, 0)) (zK BK343)) : gb359 ≠ gb343)); replace BK343 := Aside0.mk (blk_below (g := gb343) (o := .cells #[.bool a0_0, .int .u64 a0_1, .int .u64 a0_2] 25 (0, 0)) (zK BK343) hb); have NB344_359 := Aside0.mk ((by rw [hg]; exact Nat.ne_of_lt (blk_lt (g := gb344) (o := .cells #[.bool a1_0, .int .u64 a1_1, .int .u64 a1_2] 25 (0, 0)) (zK BK344)) : gb344 ≠ gb359)); have NB359_344 := Aside0.mk ((by rw [hg]; exact Nat.ne_of_gt (blk_lt (g := gb344) (o := .cells #[.bool a1_0, .int .u64 a1_1, .int .u64 a1_2] 25 (0, 0)) (zK BK344)) : gb359 ≠ gb344)); replace BK344 := Aside0.mk (blk_below (g := gb344) (o := .cells #[.bool a1_0, .int .u64 a1_1, .int .u64 a1_2] 25 (0, 0)) (zK BK344) hb); have NB345_359 := Aside0.mk ((by rw [hg]; exact Nat.ne_of_lt (blk_lt (g := gb345) (o := .cells #[.bool a2_0, .int .u64 a2_1, .int .u64 a2_2] 25 (0, 0)) (zK BK345)) : gb345 ≠ gb359)); have NB359_345 := Aside0.mk ((by rw [hg]; exact Nat.ne_of_gt (blk_lt (g := gb345) (o := .cells #[.bool a2_0, .int .u64 a2_1, .int .u64 a2_2] 25 (0, 0)) (zK BK345)) : gb359 ≠ gb345)); replace BK345 := Aside0.mk (blk_below (g := gb345) (o := .cells #[.bool a2_0, .int .u64 a2_1, .int .u64 a2_2] 25 (0, 0)) (zK BK345) hb); have NB354_359 := Aside0.mk ((by rw [hg]; exact Nat.ne_of_lt (blk_lt (g := gb354) (o := .cells #[.bool t350, .int .u64 t351, .int .u64 t352] 25 (0, 0)) (zK BK354)) : gb354 ≠ gb359)); have NB359_354 := Aside0.mk ((by rw [hg]; exact Nat.ne_of_gt (blk_lt (g := gb354) (o := .cells #[.bool t350, .int .u64 t351, .int .u64 t352] 25 (0, 0)) (zK BK354)) : gb359 ≠ gb354)); replace BK354 := Aside0.mk (blk_below (g := gb354) (o := .cells #[.bool t350, .int .u64 t351, .int .u64 t352] 25 (0, 0)) (zK BK354) hb); clear hb hbox hg; have hnb205 := NB359_343.out; have hnc205 := NB343_359.out; have hnb206 := NB359_344.out; have hnc206 := NB344_359.out; have hnb207 := NB359_345.out; have hnc207 := NB345_359.out; have hnb208 := NB359_354.out; have hnc208 := NB354_359.out; obtain ⟨hcz209_0, hcz209_1, hcz209_2⟩ := zc3 BK359; obtain ⟨hfz209_0, hfz209_1, hfz209_2⟩ := zf3 BK359; have hnb210 := NB343_344.out; have hnc210 := NB344_343.out; have hnb211 := NB343_345.out; have hnc211 := NB345_343.out; obtain ⟨hcz212_0, hcz212_1, hcz212_2⟩ := zc3 BK343; obtain ⟨hfz212_0, hfz212_1, hfz212_2⟩ := zf3 BK343; obtain ⟨hcz213_0, hcz213_1, hcz213_2⟩ := zc3 BK354; obtain ⟨hfz213_0, hfz213_1, hfz213_2⟩ := zf3 BK354) | (go_at_call 18; (with_reducible refine (address_Compare.calls a0_0 a0_1 a0_2 t350 t351 t352 t360 _ A66.out).mono ?_); rintro e w214 ⟨rfl, hb⟩; replace BK343 := Aside0.mk (blk_below (g := gb343) (o := .cells #[.bool a0_0, .int .u64 a0_1, .int .u64 a0_2] 25 (0, 0)) (by refine zL ?_; refine blk_far ?_ NB343_359.out _; refine zL ?_; refine blk_far ?_ NB343_359.out _; refine zL ?_; refine blk_far ?_ NB343_359.out _; refine zL ?_; exact BK343.out) hb); replace BK344 := Aside0.mk (blk_below (g := gb344) (o := .cells #[.bool a1_0, .int .u64 a1_1, .int .u64 a1_2] 25 (0, 0)) (by refine zL ?_; refine blk_far ?_ NB344_359.out _; refine zL ?_; refine blk_far ?_ NB344_359.out _; refine zL ?_; refine blk_far ?_ NB344_359.out _; refine zL ?_; exact BK344.out) hb); replace BK345 := Aside0.mk (blk_below (g := gb345) (o := .cells #[.bool a2_0, .int .u64 a2_1, .int .u64 a2_2] 25 (0, 0)) (by refine zL ?_; refine blk_far ?_ NB345_359.out _; refine zL ?_; refine blk_far ?_ NB345_359.out _; refine zL ?_; refine blk_far ?_ NB345_359.out _; refine zL ?_; exact BK345.out) hb); replace BK354 := Aside0.mk (blk_below (g := gb354) (o := .cells #[.bool t350, .int .u64 t351, .int .u64 t352] 25 (0, 0)) (by refine zL ?_; refine blk_far ?_ NB354_359.out _; refine zL ?_; refine blk_far ?_ NB354_359.out _; refine zL ?_; refine blk_far ?_ NB354_359.out _; refine zL ?_; exact BK354.out) hb); replace BK359 := Aside0.mk (blk_below (g := gb359) (o := .cells #[.bool t355, .int .u64 t356, .int .u64 t357] 25 (0, 0)) (by refine zL ?_; refine blk_put (cs := #[.bool t355, .int .u64 t356, .int .u64 0]) ?_ 2 _ rfl; refine zL ?_; refine blk_put (cs := #[.bool t355, .int .u64 0, .int .u64 0]) ?_ 1 _ rfl; refine zL ?_; refine blk_put (cs := #[.bool false, .int .u64 0, .int .u64 0]) ?_ 0 _ rfl; refine zL ?_; exact BK359.out) hb); replace HB := Aside0.mk (below_step (zB HB) hb); (try clear hb)))
                go_ret
                exact ⟨by first | rfl | (simp [errW_none, errW_some] <;> rfl) | (simp [*, errW_none, errW_some] <;> rfl), by repeat (first | (with_reducible first | exact HB.out | apply below_alloc | apply pw_below_drewN | apply below_drew1 | refine below_set ?_ GE343.out | refine below_set ?_ GE344.out | refine below_set ?_ GE345.out | refine below_set ?_ GE354.out | refine below_set ?_ GE359.out) | exact HB.out)⟩
          · replace c50 := Bool.eq_false_iff.mpr c50
            subst c50
            rw [if_neg zF] at H
            obtain rfl := Option.some.inj H
            have hnb215 := NB354_343.out
            have hnc215 := NB343_354.out
            have hnb216 := NB354_344.out
            have hnc216 := NB344_354.out
            have hnb217 := NB354_345.out
            have hnc217 := NB345_354.out
            obtain ⟨hcz218_0, hcz218_1, hcz218_2⟩ := zc3 BK354
            obtain ⟨hfz218_0, hfz218_1, hfz218_2⟩ := zf3 BK354
            go_wp2_with (first | ((with_reducible refine gate_callee (f := 20) rfl ?_); refine goesL_ (some 34) rfl rfl Tryd.func20 (by kernel_rfl) rfl #[.agg #[.bool t350, .int .u64 t351, .int .u64 t352]] rfl (by (try simp only [List.map_toArray, List.map_cons, List.map_nil]); first | done | rfl | (simp only [List.length_drop, List.length_take]; rfl)) ?_; (with_reducible refine (address_Previous.calls t350 t351 t352 t355 t356 t357 false _ A49.out).mono ?_); rintro e w219 ⟨rfl, hb⟩; refine ⟨_, rfl, ?_⟩; replace BK343 := Aside0.mk (blk_below (g := gb343) (o := .cells #[.bool a0_0, .int .u64 a0_1, .int .u64 a0_2] 25 (0, 0)) (by refine zL ?_; refine blk_far ?_ NB343_354.out _; refine zL ?_; refine blk_far ?_ NB343_354.out _; refine zL ?_; refine blk_far ?_ NB343_354.out _; refine zL ?_; exact BK343.out) hb); replace BK344 := Aside0.mk (blk_below (g := gb344) (o := .cells #[.bool a1_0, .int .u64 a1_1, .int .u64 a1_2] 25 (0, 0)) (by refine zL ?_; refine blk_far ?_ NB344_354.out _; refine zL ?_; refine blk_far ?_ NB344_354.out _; refine zL ?_; refine blk_far ?_ NB344_354.out _; refine zL ?_; exact BK344.out) hb); replace BK345 := Aside0.mk (blk_below (g := gb345) (o := .cells #[.bool a2_0, .int .u64 a2_1, .int .u64 a2_2] 25 (0, 0)) (by refine zL ?_; refine blk_far ?_ NB345_354.out _; refine zL ?_; refine blk_far ?_ NB345_354.out _; refine zL ?_; refine blk_far ?_ NB345_354.out _; refine zL ?_; exact BK345.out) hb); replace BK354 := Aside0.mk (blk_below (g := gb354) (o := .cells #[.bool t350, .int .u64 t351, .int .u64 t352] 25 (0, 0)) (by refine zL ?_; refine blk_put (cs := #[.bool t350, .int .u64 t351, .int .u64 0]) ?_ 2 _ rfl; refine zL ?_; refine blk_put (cs := #[.bool t350, .int .u64 0, .int .u64 0]) ?_ 1 _ rfl; refine zL ?_; refine blk_put (cs := #[.bool false, .int .u64 0, .int .u64 0]) ?_ 0 _ rfl; refine zL ?_; exact BK354.out) hb); replace HB := Aside0.mk (below_step (zB HB) hb); (try clear hb)) | ((with_reducible refine gate_dst (N := 9) rfl ?_); refine zx 9 #[.bool false, .int .u64 0, .int .u64 0] 25 ?_; intro gb359 hg w220 hbox hb; have BK359 := Aside0.mk (hbox); have GW359 := Aside0.mk ((by rw [hg]; exact (below_size (zB HB)) : w.heap.size ≤ gb359)); have GE359 := Aside0.mk ((by rw [hg]; exact (below_size (zB HB)) : w.heap.size ≤ gb359)); replace HB := Aside0.mk (below_step (zB HB) hb); have NB343_359 := Aside0.mk ((by rw [hg]; exact Nat.ne_of_lt (blk_lt (g := gb343) (o := .cells #[.bool a0_0, .int .u64 a0_1, .int .u64 a0_2] 25 (0, 0)) (zK BK343)) : gb343 ≠ gb359)); have NB359_343 := Aside0.mk ((by rw [hg]; exact Nat.ne_of_gt (blk_lt (g := gb343) (o := .cells #[.bool a0_0, .int .u64 a0_1, .int .u64 a0_2] 25 (0, 0)) (zK BK343)) : gb359 ≠ gb343)); replace BK343 := Aside0.mk (blk_below (g := gb343) (o := .cells #[.bool a0_0, .int .u64 a0_1, .int .u64 a0_2] 25 (0, 0)) (zK BK343) hb); have NB344_359 := Aside0.mk ((by rw [hg]; exact Nat.ne_of_lt (blk_lt (g := gb344) (o := .cells #[.bool a1_0, .int .u64 a1_1, .int .u64 a1_2] 25 (0, 0)) (zK BK344)) : gb344 ≠ gb359)); have NB359_344 := Aside0.mk ((by rw [hg]; exact Nat.ne_of_gt (blk_lt (g := gb344) (o := .cells #[.bool a1_0, .int .u64 a1_1, .int .u64 a1_2] 25 (0, 0)) (zK BK344)) : gb359 ≠ gb344)); replace BK344 := Aside0.mk (blk_below (g := gb344) (o := .cells #[.bool a1_0, .int .u64 a1_1, .int .u64 a1_2] 25 (0, 0)) (zK BK344) hb); have NB345_359 := Aside0.mk ((by rw [hg]; exact Nat.ne_of_lt (blk_lt (g := gb345) (o := .cells #[.bool a2_0, .int .u64 a2_1, .int .u64 a2_2] 25 (0, 0)) (zK BK345)) : gb345 ≠ gb359)); have NB359_345 := Aside0.mk ((by rw [hg]; exact Nat.ne_of_gt (blk_lt (g := gb345) (o := .cells #[.bool a2_0, .int .u64 a2_1, .int .u64 a2_2] 25 (0, 0)) (zK BK345)) : gb359 ≠ gb345)); replace BK345 := Aside0.mk (blk_below (g := gb345) (o := .cells #[.bool a2_0, .int .u64 a2_1, .int .u64 a2_2] 25 (0, 0)) (zK BK345) hb); have NB354_359 := Aside0.mk ((by rw [hg]; exact Nat.ne_of_lt (blk_lt (g := gb354) (o := .cells #[.bool t350, .int .u64 t351, .int .u64 t352] 25 (0, 0)) (zK BK354)) : gb354 ≠ gb359)); have NB359_354 := Aside0.mk ((by rw [hg]; exact Nat.ne_of_gt (blk_lt (g := gb354) (o := .cells #[.bool t350, .int .u64 t351, .int .u64 t352] 25 (0, 0)) (zK BK354)) : gb359 ≠ gb354)); replace BK354 := Aside0.mk (blk_below (g := gb354) (o := .cells #[.bool t350, .int .u64 t351, .int .u64 t352] 25 (0, 0)) (zK BK354) hb); clear hb hbox hg; have hnb221 := NB359_343.out; have hnc221 := NB343_359.out; have hnb222 := NB359_344.out; have hnc222 := NB344_359.out; have hnb223 := NB359_345.out; have hnc223 := NB345_359.out; have hnb224 := NB359_354.out; have hnc224 := NB354_359.out; obtain ⟨hcz225_0, hcz225_1, hcz225_2⟩ := zc3 BK359; obtain ⟨hfz225_0, hfz225_1, hfz225_2⟩ := zf3 BK359))
            go_ret
            exact ⟨by first | rfl | (simp [errW_none, errW_some] <;> rfl) | (simp [*, errW_none, errW_some] <;> rfl), by repeat (first | (with_reducible first | exact HB.out | apply below_alloc | apply pw_below_drewN | apply below_drew1 | refine below_set ?_ GE343.out | refine below_set ?_ GE344.out | refine below_set ?_ GE345.out | refine below_set ?_ GE354.out | refine below_set ?_ GE359.out) | exact HB.out)⟩
        · replace c48 := Bool.eq_false_iff.mpr c48
          subst c48
          rw [if_neg zF] at H
          have H' := Aside0.mk H
          clear H
          go_wp2
          go_meet
          case rel => exact ⟨_, H', ⟨by have := HJ5.out; first | omega | exact Nat.le_refl _⟩, ⟨by refine zL ?_; refine blk_far ?_ NB343_354.out _; refine zL ?_; refine blk_far ?_ NB343_354.out _; refine zL ?_; refine blk_far ?_ NB343_354.out _; refine zL ?_; exact BK343.out⟩, ⟨by refine zL ?_; refine blk_far ?_ NB344_354.out _; refine zL ?_; refine blk_far ?_ NB344_354.out _; refine zL ?_; refine blk_far ?_ NB344_354.out _; refine zL ?_; exact BK344.out⟩, ⟨by refine zL ?_; refine blk_far ?_ NB345_354.out _; refine zL ?_; refine blk_far ?_ NB345_354.out _; refine zL ?_; refine blk_far ?_ NB345_354.out _; refine zL ?_; exact BK345.out⟩, ⟨by refine zL ?_; refine blk_put (cs := #[.bool t350, .int .u64 t351, .int .u64 0]) ?_ 2 _ rfl; refine zL ?_; refine blk_put (cs := #[.bool t350, .int .u64 0, .int .u64 0]) ?_ 1 _ rfl; refine zL ?_; refine blk_put (cs := #[.bool false, .int .u64 0, .int .u64 0]) ?_ 0 _ rfl; refine zL ?_; exact BK354.out⟩, ⟨zB HB⟩⟩
       case rest =>
        clear HC38
        try clear c1
        try clear c2
        try clear p2
        try clear c3
        try clear c4
        try clear c5
        try clear c6
        try clear c7
        try clear c8
        try clear c9
        try clear c10
        try clear c11
        try clear c12
        try clear c13
        try clear c14
        try clear c15
        try clear c16
        try clear c17
        try clear c18
        try clear c19
        try clear c20
        try clear c21
        try clear c22
        try clear c25
        try clear c26
        try clear c29
        try clear c32
        try clear c33
        try clear c36
        try clear c39
        try clear c40
        try clear c44
        try clear c45
        try clear c46
        try clear c48
        try clear c50
        try clear c51
        try clear c51b0
        try clear c52
        try clear c53
        try clear c54
        try clear c58
        try clear c59
        try clear c60
        try clear c61
        try clear c63
        try clear c64
        try clear c67
        try clear c67b0
        try clear c67b1
        try clear c69
        try clear c69b0
        try clear c69b1
        try clear c71
        try clear c71b0
        try clear c73
        try clear c73b0
        try clear c74
        try clear c74b0
        try clear c74b1
        try clear c74b2
        try clear c75
        try clear c76
        try clear c77
        try clear c81
        try clear c82
        try clear c83
        try clear c84
        try clear c86
        try clear c87
        try clear c95
        try clear c103
        try clear c104
        try clear c105
        try clear c109
        try clear c110
        try clear c111
        try clear c112
        try clear c114
        try clear c115
        try clear c123
        try clear c131
        try clear c132
        try clear c133
        try clear c137
        try clear c138
        try clear c139
        try clear c140
        try clear c142
        try clear c143
        try clear c151
        try clear c157
        try clear c158
        try clear c159
        try clear c163
        try clear c164
        try clear c165
        try clear c166
        try clear c168
        try clear c169
        try clear c177
        try clear c180
        try clear c181
        try clear c182
        try clear c186
        try clear c187
        try clear c188
        try clear c189
        try clear c191
        try clear c192
        try clear c199
        try clear c200
        try clear c201
        try clear c205
        try clear c206
        try clear c207
        try clear c208
        try clear c210
        try clear c211
        try clear c215
        try clear c216
        try clear c217
        try clear c221
        try clear c222
        try clear c223
        try clear c224
        try clear hcz101_0
        try clear hcz101_1
        try clear hcz101_2
        try clear hcz102_0
        try clear hcz102_1
        try clear hcz102_2
        try clear hcz106_0
        try clear hcz106_1
        try clear hcz106_2
        try clear hcz113_0
        try clear hcz113_1
        try clear hcz113_2
        try clear hcz116_0
        try clear hcz116_1
        try clear hcz116_2
        try clear hcz117_0
        try clear hcz117_1
        try clear hcz117_2
        try clear hcz119_0
        try clear hcz119_1
        try clear hcz119_2
        try clear hcz120_0
        try clear hcz120_1
        try clear hcz120_2
        try clear hcz122_0
        try clear hcz122_1
        try clear hcz122_2
        try clear hcz124_0
        try clear hcz124_1
        try clear hcz124_2
        try clear hcz126_0
        try clear hcz126_1
        try clear hcz126_2
        try clear hcz127_0
        try clear hcz127_1
        try clear hcz127_2
        try clear hcz129_0
        try clear hcz129_1
        try clear hcz129_2
        try clear hcz130_0
        try clear hcz130_1
        try clear hcz130_2
        try clear hcz134_0
        try clear hcz134_1
        try clear hcz134_2
        try clear hcz141_0
        try clear hcz141_1
        try clear hcz141_2
        try clear hcz144_0
        try clear hcz144_1
        try clear hcz144_2
        try clear hcz145_0
        try clear hcz145_1
        try clear hcz145_2
        try clear hcz147_0
        try clear hcz147_1
        try clear hcz147_2
        try clear hcz148_0
        try clear hcz148_1
        try clear hcz148_2
        try clear hcz150_0
        try clear hcz150_1
        try clear hcz150_2
        try clear hcz152_0
        try clear hcz152_1
        try clear hcz152_2
        try clear hcz154_0
        try clear hcz154_1
        try clear hcz154_2
        try clear hcz155_0
        try clear hcz155_1
        try clear hcz155_2
        try clear hcz160_0
        try clear hcz160_1
        try clear hcz160_2
        try clear hcz167_0
        try clear hcz167_1
        try clear hcz167_2
        try clear hcz170_0
        try clear hcz170_1
        try clear hcz170_2
        try clear hcz171_0
        try clear hcz171_1
        try clear hcz171_2
        try clear hcz173_0
        try clear hcz173_1
        try clear hcz173_2
        try clear hcz174_0
        try clear hcz174_1
        try clear hcz174_2
        try clear hcz176_0
        try clear hcz176_1
        try clear hcz176_2
        try clear hcz178_0
        try clear hcz178_1
        try clear hcz178_2
        try clear hcz183_0
        try clear hcz183_1
        try clear hcz183_2
        try clear hcz18_0
        try clear hcz18_1
        try clear hcz18_2
        try clear hcz190_0
        try clear hcz190_1
        try clear hcz190_2
        try clear hcz193_0
        try clear hcz193_1
        try clear hcz193_2
        try clear hcz194_0
        try clear hcz194_1
        try clear hcz194_2
        try clear hcz196_0
        try clear hcz196_1
        try clear hcz196_2
        try clear hcz197_0
        try clear hcz197_1
        try clear hcz197_2
        try clear hcz202_0
        try clear hcz202_1
        try clear hcz202_2
        try clear hcz209_0
        try clear hcz209_1
        try clear hcz209_2
        try clear hcz212_0
        try clear hcz212_1
        try clear hcz212_2
        try clear hcz213_0
        try clear hcz213_1
        try clear hcz213_2
        try clear hcz218_0
        try clear hcz218_1
        try clear hcz218_2
        try clear hcz21_0
        try clear hcz21_1
        try clear hcz21_2
        try clear hcz225_0
        try clear hcz225_1
        try clear hcz225_2
        try clear hcz23_0
        try clear hcz23_1
        try clear hcz23_2
        try clear hcz27_0
        try clear hcz27_1
        try clear hcz27_2
        try clear hcz30_0
        try clear hcz30_1
        try clear hcz30_2
        try clear hcz34_0
        try clear hcz34_1
        try clear hcz34_2
        try clear hcz41_0
        try clear hcz41_1
        try clear hcz41_2
        try clear hcz47_0
        try clear hcz47_1
        try clear hcz47_2
        try clear hcz55_0
        try clear hcz55_1
        try clear hcz55_2
        try clear hcz62_0
        try clear hcz62_1
        try clear hcz62_2
        try clear hcz65_0
        try clear hcz65_1
        try clear hcz65_2
        try clear hcz78_0
        try clear hcz78_1
        try clear hcz78_2
        try clear hcz85_0
        try clear hcz85_1
        try clear hcz85_2
        try clear hcz88_0
        try clear hcz88_1
        try clear hcz88_2
        try clear hcz89_0
        try clear hcz89_1
        try clear hcz89_2
        try clear hcz91_0
        try clear hcz91_1
        try clear hcz91_2
        try clear hcz92_0
        try clear hcz92_1
        try clear hcz92_2
        try clear hcz94_0
        try clear hcz94_1
        try clear hcz94_2
        try clear hcz96_0
        try clear hcz96_1
        try clear hcz96_2
        try clear hcz98_0
        try clear hcz98_1
        try clear hcz98_2
        try clear hcz99_0
        try clear hcz99_1
        try clear hcz99_2
        try clear hfz101_0
        try clear hfz101_1
        try clear hfz101_2
        try clear hfz102_0
        try clear hfz102_1
        try clear hfz102_2
        try clear hfz106_0
        try clear hfz106_1
        try clear hfz106_2
        try clear hfz113_0
        try clear hfz113_1
        try clear hfz113_2
        try clear hfz116_0
        try clear hfz116_1
        try clear hfz116_2
        try clear hfz117_0
        try clear hfz117_1
        try clear hfz117_2
        try clear hfz119_0
        try clear hfz119_1
        try clear hfz119_2
        try clear hfz120_0
        try clear hfz120_1
        try clear hfz120_2
        try clear hfz122_0
        try clear hfz122_1
        try clear hfz122_2
        try clear hfz124_0
        try clear hfz124_1
        try clear hfz124_2
        try clear hfz126_0
        try clear hfz126_1
        try clear hfz126_2
        try clear hfz127_0
        try clear hfz127_1
        try clear hfz127_2
        try clear hfz129_0
        try clear hfz129_1
        try clear hfz129_2
        try clear hfz130_0
        try clear hfz130_1
        try clear hfz130_2
        try clear hfz134_0
        try clear hfz134_1
        try clear hfz134_2
        try clear hfz141_0
        try clear hfz141_1
        try clear hfz141_2
        try clear hfz144_0
        try clear hfz144_1
        try clear hfz144_2
        try clear hfz145_0
        try clear hfz145_1
        try clear hfz145_2
        try clear hfz147_0
        try clear hfz147_1
        try clear hfz147_2
        try clear hfz148_0
        try clear hfz148_1
        try clear hfz148_2
        try clear hfz150_0
        try clear hfz150_1
        try clear hfz150_2
        try clear hfz152_0
        try clear hfz152_1
        try clear hfz152_2
        try clear hfz154_0
        try clear hfz154_1
        try clear hfz154_2
        try clear hfz155_0
        try clear hfz155_1
        try clear hfz155_2
        try clear hfz160_0
        try clear hfz160_1
        try clear hfz160_2
        try clear hfz167_0
        try clear hfz167_1
        try clear hfz167_2
        try clear hfz170_0
        try clear hfz170_1
        try clear hfz170_2
        try clear hfz171_0
        try clear hfz171_1
        try clear hfz171_2
        try clear hfz173_0
        try clear hfz173_1
        try clear hfz173_2
        try clear hfz174_0
        try clear hfz174_1
        try clear hfz174_2
        try clear hfz176_0
        try clear hfz176_1
        try clear hfz176_2
        try clear hfz178_0
        try clear hfz178_1
        try clear hfz178_2
        try clear hfz183_0
        try clear hfz183_1
        try clear hfz183_2
        try clear hfz18_0
        try clear hfz18_1
        try clear hfz18_2
        try clear hfz190_0
        try clear hfz190_1
        try clear hfz190_2
        try clear hfz193_0
        try clear hfz193_1
        try clear hfz193_2
        try clear hfz194_0
        try clear hfz194_1
        try clear hfz194_2
        try clear hfz196_0
        try clear hfz196_1
        try clear hfz196_2
        try clear hfz197_0
        try clear hfz197_1
        try clear hfz197_2
        try clear hfz202_0
        try clear hfz202_1
        try clear hfz202_2
        try clear hfz209_0
        try clear hfz209_1
        try clear hfz209_2
        try clear hfz212_0
        try clear hfz212_1
        try clear hfz212_2
        try clear hfz213_0
        try clear hfz213_1
        try clear hfz213_2
        try clear hfz218_0
        try clear hfz218_1
        try clear hfz218_2
        try clear hfz21_0
        try clear hfz21_1
        try clear hfz21_2
        try clear hfz225_0
        try clear hfz225_1
        try clear hfz225_2
        try clear hfz23_0
        try clear hfz23_1
        try clear hfz23_2
        try clear hfz27_0
        try clear hfz27_1
        try clear hfz27_2
        try clear hfz30_0
        try clear hfz30_1
        try clear hfz30_2
        try clear hfz34_0
        try clear hfz34_1
        try clear hfz34_2
        try clear hfz41_0
        try clear hfz41_1
        try clear hfz41_2
        try clear hfz47_0
        try clear hfz47_1
        try clear hfz47_2
        try clear hfz55_0
        try clear hfz55_1
        try clear hfz55_2
        try clear hfz62_0
        try clear hfz62_1
        try clear hfz62_2
        try clear hfz65_0
        try clear hfz65_1
        try clear hfz65_2
        try clear hfz78_0
        try clear hfz78_1
        try clear hfz78_2
        try clear hfz85_0
        try clear hfz85_1
        try clear hfz85_2
        try clear hfz88_0
        try clear hfz88_1
        try clear hfz88_2
        try clear hfz89_0
        try clear hfz89_1
        try clear hfz89_2
        try clear hfz91_0
        try clear hfz91_1
        try clear hfz91_2
        try clear hfz92_0
        try clear hfz92_1
        try clear hfz92_2
        try clear hfz94_0
        try clear hfz94_1
        try clear hfz94_2
        try clear hfz96_0
        try clear hfz96_1
        try clear hfz96_2
        try clear hfz98_0
        try clear hfz98_1
        try clear hfz98_2
        try clear hfz99_0
        try clear hfz99_1
        try clear hfz99_2
        try clear p2
        obtain ⟨kq, HA, HJ37, BK343, BK344, BK345, BK354, HB⟩ := hcut
        cases kq with
        | zero => exact absurd HA.out (by simp [intrusionlaw06_AddressSteps.j1])
        | succ kj37 =>
         have H := HA.out
         clear HA
         simp only [intrusionlaw06_AddressSteps.j1] at H
         have HC226 := Aside0.mk H
         clear H
         go_upto_region 10 with (fail)
         go_cut [92] (fun v92 wc => ∃ (kq : Nat) (x92_225 : Bool), v92 = .bool x92_225 ∧ Aside0 (intrusionlaw06_AddressSteps.j2 kq x92_225 a0_0 a0_1 a0_2 a1_0 a1_1 a1_2 a2_0 a2_1 a2_2 = some r) ∧ Aside0 (kq ≤ kj37) ∧ Aside0 (wc.heap[gb343]? = some (.cells #[.bool a0_0, .int .u64 a0_1, .int .u64 a0_2] 25 (0, 0))) ∧ Aside0 (wc.heap[gb344]? = some (.cells #[.bool a1_0, .int .u64 a1_1, .int .u64 a1_2] 25 (0, 0))) ∧ Aside0 (wc.heap[gb345]? = some (.cells #[.bool a2_0, .int .u64 a2_1, .int .u64 a2_2] 25 (0, 0))) ∧ Aside0 (wc.heap[gb354]? = some (.cells #[.bool t350, .int .u64 t351, .int .u64 t352] 25 (0, 0))) ∧ Aside0 (Below w.heap.size w wc))
         case first =>
          have H := HC226.out
          clear HC226
          replace H := Option.bind_eq_some_iff.mp H
          obtain ⟨t364, A2270, H⟩ := H
          try dsimp only at H
          have A227 := Aside0.mk A2270
          clear A2270
          by_cases c228 : ((t364 == 0) != (a0_0 == a1_0 && (a0_1 == a1_1 && (a0_2 == a1_2)))) = true
          · rw [if_pos c228] at H
            have c228b0 : ((t364 == 0) != (a0_0 == a1_0 && (a0_1 == a1_1 && (a0_2 == a1_2)))) = true := c228
            (try (have c228b1 : decide ((t364 == 0) = (a0_0 == a1_0 && (a0_1 == a1_1 && (a0_2 == a1_2)))) = false := by first | (simpa using c228) | exact decide_eq_true (Decidable.not_not.1 (fun hn => c228 (bne_iff_ne.2 hn))) | exact beq_iff_eq.2 (Decidable.not_not.1 (fun hn => c228 (bne_iff_ne.2 hn))) | exact decide_eq_false (bne_iff_ne.1 c228) | exact beq_eq_false_iff_ne.2 (bne_iff_ne.1 c228) | exact bne_iff_ne.1 c228))
            (try (have c228b2 : ((t364 == 0) == (a0_0 == a1_0 && (a0_1 == a1_1 && (a0_2 == a1_2)))) = false := by first | (simpa using c228) | exact decide_eq_true (Decidable.not_not.1 (fun hn => c228 (bne_iff_ne.2 hn))) | exact beq_iff_eq.2 (Decidable.not_not.1 (fun hn => c228 (bne_iff_ne.2 hn))) | exact decide_eq_false (bne_iff_ne.1 c228) | exact beq_eq_false_iff_ne.2 (bne_iff_ne.1 c228) | exact bne_iff_ne.1 c228))
            (try (have c228b3 : ¬ ((t364 == 0) = (a0_0 == a1_0 && (a0_1 == a1_1 && (a0_2 == a1_2)))) := by first | (simpa using c228) | exact decide_eq_true (Decidable.not_not.1 (fun hn => c228 (bne_iff_ne.2 hn))) | exact beq_iff_eq.2 (Decidable.not_not.1 (fun hn => c228 (bne_iff_ne.2 hn))) | exact decide_eq_false (bne_iff_ne.1 c228) | exact beq_eq_false_iff_ne.2 (bne_iff_ne.1 c228) | exact bne_iff_ne.1 c228))
            clear c228
            (first | rw [c228b0] | (simp only [i64_w, i32_w]; rw [c228b0]) | skip)
            have H' := Aside0.mk H
            clear H
            try go_wp2
            replace BK343 := Aside0.mk (blk_drew BK343.out)
            replace BK344 := Aside0.mk (blk_drew BK344.out)
            replace BK345 := Aside0.mk (blk_drew BK345.out)
            replace BK354 := Aside0.mk (blk_drew BK354.out)
            replace HB := Aside0.mk (below_drew1 HB.out)
            refine start_ (n := 18) (S := fun w' => w'.cell? ⟨gb343, 0, none⟩ = some (.bool a0_0) ∧ w'.cell? ⟨gb343, 1, none⟩ = some (.int .u64 a0_1) ∧ w'.cell? ⟨gb343, 2, none⟩ = some (.int .u64 a0_2) ∧ w'.cell? ⟨gb344, 0, none⟩ = some (.bool a1_0) ∧ w'.cell? ⟨gb344, 1, none⟩ = some (.int .u64 a1_1) ∧ w'.cell? ⟨gb344, 2, none⟩ = some (.int .u64 a1_2)) (ds := []) #[false, false, false, false, false, false, false, false, false, false, false, false, false, false, false, false, false, false] (by kernel_rfl) rfl rfl ⟨zc BK343 0, zc BK343 1, zc BK343 2, zc BK344 0, zc BK344 1, zc BK344 2⟩ (fun hHeld => ?_); refine with_tabW intrusionlaw06_AddressSteps.tab10 intrusionlaw06_AddressSteps.bits10 (fun HT_ HW_ => ?_)
            generalize wc.drew = w229 at BK343 BK344 BK345 BK354 HB hHeld ⊢
            refine zt 0 75 HT_ HW_ hHeld ?_; refine zt 1 76 HT_ HW_ hHeld ?_; refine zt 4 79 HT_ HW_ hHeld ?_; refine zt 5 80 HT_ HW_ hHeld ?_; refine zp 6 81 HT_ ?_; refine zo 2 77 HT_ (fun K hK => ?_)
            refine zg Tryd.func18 #[.agg #[.bool a0_0, .int .u64 a0_1, .int .u64 a0_2], .agg #[.bool a1_0, .int .u64 a1_1, .int .u64 a1_2]] ?_
            with_reducible refine (address_Compare.calls a0_0 a0_1 a0_2 a1_0 a1_1 a1_2 t364 _ A227.out).mono ?_
            rintro e w230 ⟨rfl, hb⟩
            refine ⟨_, rfl, ?_⟩
            replace BK343 := Aside0.mk (blk_below (g := gb343) (o := .cells #[.bool a0_0, .int .u64 a0_1, .int .u64 a0_2] 25 (0, 0)) (zK BK343) hb)
            replace BK344 := Aside0.mk (blk_below (g := gb344) (o := .cells #[.bool a1_0, .int .u64 a1_1, .int .u64 a1_2] 25 (0, 0)) (zK BK344) hb)
            replace BK345 := Aside0.mk (blk_below (g := gb345) (o := .cells #[.bool a2_0, .int .u64 a2_1, .int .u64 a2_2] 25 (0, 0)) (zK BK345) hb)
            replace BK354 := Aside0.mk (blk_below (g := gb354) (o := .cells #[.bool t350, .int .u64 t351, .int .u64 t352] 25 (0, 0)) (zK BK354) hb)
            replace HB := Aside0.mk (below_step (zB HB) hb)
            (try clear hb)
            refine hK.out _ _ ⟨zc BK343 0, zc BK343 1, zc BK343 2, zc BK344 0, zc BK344 1, zc BK344 2⟩ (fun hHeld => ?_)
            clear hK K
            refine zn 77 ?_; refine zp 3 78 HT_ ?_; refine zp 7 82 HT_ ?_; refine zp 8 83 HT_ ?_; refine zu 9 84 HT_ ?_; refine zu 10 85 HT_ ?_; refine zu 11 86 HT_ ?_; refine zu 12 87 HT_ ?_; refine zu 13 88 HT_ ?_; refine zu 14 89 HT_ ?_; refine zu 15 90 HT_ ?_; refine zu 16 91 HT_ ?_; refine zp 17 92 HT_ ?_; refine zd HT_ ?_
            try go_wp2
            go_meet
            case rel => exact ⟨_, (true), (by first | rfl | (simp; done) | (simp [*]; done)), H', ⟨by have := HJ5.out; have := HJ37.out; first | omega | exact Nat.le_refl _⟩, ⟨zK BK343⟩, ⟨zK BK344⟩, ⟨zK BK345⟩, ⟨zK BK354⟩, ⟨zB HB⟩⟩
          · rw [if_neg c228] at H
            have c228b0 : ((t364 == 0) != (a0_0 == a1_0 && (a0_1 == a1_1 && (a0_2 == a1_2)))) = false := by simpa using c228
            (try (have c228b1 : decide ((t364 == 0) = (a0_0 == a1_0 && (a0_1 == a1_1 && (a0_2 == a1_2)))) = true := by first | (simpa using c228) | exact decide_eq_true (Decidable.not_not.1 (fun hn => c228 (bne_iff_ne.2 hn))) | exact beq_iff_eq.2 (Decidable.not_not.1 (fun hn => c228 (bne_iff_ne.2 hn))) | exact decide_eq_false (bne_iff_ne.1 c228) | exact beq_eq_false_iff_ne.2 (bne_iff_ne.1 c228) | exact bne_iff_ne.1 c228))
            (try (have c228b2 : ((t364 == 0) == (a0_0 == a1_0 && (a0_1 == a1_1 && (a0_2 == a1_2)))) = true := by first | (simpa using c228) | exact decide_eq_true (Decidable.not_not.1 (fun hn => c228 (bne_iff_ne.2 hn))) | exact beq_iff_eq.2 (Decidable.not_not.1 (fun hn => c228 (bne_iff_ne.2 hn))) | exact decide_eq_false (bne_iff_ne.1 c228) | exact beq_eq_false_iff_ne.2 (bne_iff_ne.1 c228) | exact bne_iff_ne.1 c228))
            clear c228
            (first | rw [c228b0] | (simp only [i64_w, i32_w]; rw [c228b0]) | skip)
            replace H := Option.bind_eq_some_iff.mp H
            obtain ⟨t365, A2310, H⟩ := H
            try dsimp only at H
            have A231 := Aside0.mk A2310
            clear A2310
            replace H := Option.bind_eq_some_iff.mp H
            obtain ⟨t366, A2320, H⟩ := H
            try dsimp only at H
            have A232 := Aside0.mk A2320
            clear A2320
            have H' := Aside0.mk H
            clear H
            try go_wp2
            replace BK343 := Aside0.mk (blk_drew BK343.out)
            replace BK344 := Aside0.mk (blk_drew BK344.out)
            replace BK345 := Aside0.mk (blk_drew BK345.out)
            replace BK354 := Aside0.mk (blk_drew BK354.out)
            replace HB := Aside0.mk (below_drew1 HB.out)
            refine start_ (n := 18) (S := fun w' => w'.cell? ⟨gb343, 0, none⟩ = some (.bool a0_0) ∧ w'.cell? ⟨gb343, 1, none⟩ = some (.int .u64 a0_1) ∧ w'.cell? ⟨gb343, 2, none⟩ = some (.int .u64 a0_2) ∧ w'.cell? ⟨gb344, 0, none⟩ = some (.bool a1_0) ∧ w'.cell? ⟨gb344, 1, none⟩ = some (.int .u64 a1_1) ∧ w'.cell? ⟨gb344, 2, none⟩ = some (.int .u64 a1_2)) (ds := []) #[false, false, false, false, false, false, false, false, false, false, false, false, false, false, false, false, false, false] (by kernel_rfl) rfl rfl ⟨zc BK343 0, zc BK343 1, zc BK343 2, zc BK344 0, zc BK344 1, zc BK344 2⟩ (fun hHeld => ?_); refine with_tabW intrusionlaw06_AddressSteps.tab10 intrusionlaw06_AddressSteps.bits10 (fun HT_ HW_ => ?_)
            generalize wc.drew = w233 at BK343 BK344 BK345 BK354 HB hHeld ⊢
            refine zt 0 75 HT_ HW_ hHeld ?_; refine zt 1 76 HT_ HW_ hHeld ?_; refine zt 4 79 HT_ HW_ hHeld ?_; refine zt 5 80 HT_ HW_ hHeld ?_; refine zp 6 81 HT_ ?_; refine zo 2 77 HT_ (fun K hK => ?_)
            refine zg Tryd.func18 #[.agg #[.bool a0_0, .int .u64 a0_1, .int .u64 a0_2], .agg #[.bool a1_0, .int .u64 a1_1, .int .u64 a1_2]] ?_
            with_reducible refine (address_Compare.calls a0_0 a0_1 a0_2 a1_0 a1_1 a1_2 t364 _ A227.out).mono ?_
            rintro e w234 ⟨rfl, hb⟩
            refine ⟨_, rfl, ?_⟩
            replace BK343 := Aside0.mk (blk_below (g := gb343) (o := .cells #[.bool a0_0, .int .u64 a0_1, .int .u64 a0_2] 25 (0, 0)) (zK BK343) hb)
            replace BK344 := Aside0.mk (blk_below (g := gb344) (o := .cells #[.bool a1_0, .int .u64 a1_1, .int .u64 a1_2] 25 (0, 0)) (zK BK344) hb)
            replace BK345 := Aside0.mk (blk_below (g := gb345) (o := .cells #[.bool a2_0, .int .u64 a2_1, .int .u64 a2_2] 25 (0, 0)) (zK BK345) hb)
            replace BK354 := Aside0.mk (blk_below (g := gb354) (o := .cells #[.bool t350, .int .u64 t351, .int .u64 t352] 25 (0, 0)) (zK BK354) hb)
            replace HB := Aside0.mk (below_step (zB HB) hb)
            (try clear hb)
            refine hK.out _ _ ⟨zc BK343 0, zc BK343 1, zc BK343 2, zc BK344 0, zc BK344 1, zc BK344 2⟩ (fun hHeld => ?_)
            clear hK K
            refine zn 77 ?_; refine zp 3 78 HT_ ?_; refine zp 7 82 HT_ ?_; refine zp 8 83 HT_ ?_; refine zt 9 84 HT_ HW_ hHeld ?_; refine zt 10 85 HT_ HW_ hHeld ?_; refine zt 12 87 HT_ HW_ hHeld ?_; refine zt 13 88 HT_ HW_ hHeld ?_; refine zo 11 86 HT_ (fun K hK => ?_)
            refine zg Tryd.func18 #[.agg #[.bool a0_0, .int .u64 a0_1, .int .u64 a0_2], .agg #[.bool a1_0, .int .u64 a1_1, .int .u64 a1_2]] ?_
            with_reducible refine (address_Compare.calls a0_0 a0_1 a0_2 a1_0 a1_1 a1_2 t365 _ A231.out).mono ?_
            rintro e w235 ⟨rfl, hb⟩
            refine ⟨_, rfl, ?_⟩
            replace BK343 := Aside0.mk (blk_below (g := gb343) (o := .cells #[.bool a0_0, .int .u64 a0_1, .int .u64 a0_2] 25 (0, 0)) (zK BK343) hb)
            replace BK344 := Aside0.mk (blk_below (g := gb344) (o := .cells #[.bool a1_0, .int .u64 a1_1, .int .u64 a1_2] 25 (0, 0)) (zK BK344) hb)
            replace BK345 := Aside0.mk (blk_below (g := gb345) (o := .cells #[.bool a2_0, .int .u64 a2_1, .int .u64 a2_2] 25 (0, 0)) (zK BK345) hb)
            replace BK354 := Aside0.mk (blk_below (g := gb354) (o := .cells #[.bool t350, .int .u64 t351, .int .u64 t352] 25 (0, 0)) (zK BK354) hb)
            replace HB := Aside0.mk (below_step (zB HB) hb)
            (try clear hb)
            refine hK.out _ _ ⟨zc BK343 0, zc BK343 1, zc BK343 2, zc BK344 0, zc BK344 1, zc BK344 2⟩ (fun hHeld => ?_)
            clear hK K
            refine zn 86 ?_; refine zo 14 89 HT_ (fun K hK => ?_)
            refine zg Tryd.func18 #[.agg #[.bool a1_0, .int .u64 a1_1, .int .u64 a1_2], .agg #[.bool a0_0, .int .u64 a0_1, .int .u64 a0_2]] ?_
            with_reducible refine (address_Compare.calls a1_0 a1_1 a1_2 a0_0 a0_1 a0_2 t366 _ A232.out).mono ?_
            rintro e w236 ⟨rfl, hb⟩
            refine ⟨_, rfl, ?_⟩
            replace BK343 := Aside0.mk (blk_below (g := gb343) (o := .cells #[.bool a0_0, .int .u64 a0_1, .int .u64 a0_2] 25 (0, 0)) (zK BK343) hb)
            replace BK344 := Aside0.mk (blk_below (g := gb344) (o := .cells #[.bool a1_0, .int .u64 a1_1, .int .u64 a1_2] 25 (0, 0)) (zK BK344) hb)
            replace BK345 := Aside0.mk (blk_below (g := gb345) (o := .cells #[.bool a2_0, .int .u64 a2_1, .int .u64 a2_2] 25 (0, 0)) (zK BK345) hb)
            replace BK354 := Aside0.mk (blk_below (g := gb354) (o := .cells #[.bool t350, .int .u64 t351, .int .u64 t352] 25 (0, 0)) (zK BK354) hb)
            replace HB := Aside0.mk (below_step (zB HB) hb)
            (try clear hb)
            refine hK.out _ _ ⟨zc BK343 0, zc BK343 1, zc BK343 2, zc BK344 0, zc BK344 1, zc BK344 2⟩ (fun hHeld => ?_)
            clear hK K
            refine zn 89 ?_; refine zp 15 90 HT_ ?_; refine zp 16 91 HT_ ?_; refine zp 17 92 HT_ ?_; refine zd HT_ ?_
            try go_wp2
            go_meet
            case rel => exact ⟨_, ((t365 != (wrap64 (-t366)))), (by first | rfl | (simp; done) | (simp [*]; done)), H', ⟨by have := HJ5.out; have := HJ37.out; first | omega | exact Nat.le_refl _⟩, ⟨zK BK343⟩, ⟨zK BK344⟩, ⟨zK BK345⟩, ⟨zK BK354⟩, ⟨zB HB⟩⟩
         case rest =>
          clear HC226
          try clear c1
          try clear c2
          try clear p2
          try clear p6
          try clear c18
          try clear c22
          try clear p64
          try clear c228
          try clear c228b0
          try clear c228b1
          try clear c228b2
          try clear hfz134_1
          try clear hfz134_2
          try clear hfz141_0
          try clear hfz141_1
          try clear hfz141_2
          try clear hfz144_0
          try clear hfz144_1
          try clear hfz144_2
          try clear hfz145_0
          try clear hfz145_1
          try clear hfz145_2
          try clear hfz147_0
          try clear hfz147_1
          try clear hfz147_2
          try clear hfz148_0
          try clear hfz148_1
          try clear hfz148_2
          try clear hfz150_0
          try clear hfz150_1
          try clear hfz150_2
          try clear hfz152_0
          try clear hfz152_1
          try clear hfz152_2
          try clear hfz154_0
          try clear hfz154_1
          try clear hfz154_2
          try clear hfz155_0
          try clear hfz155_1
          try clear hfz155_2
          try clear hfz160_0
          try clear hfz160_1
          try clear hfz160_2
          try clear hfz167_0
          try clear hfz167_1
          try clear hfz167_2
          try clear hfz170_0
          try clear hfz170_1
          try clear hfz170_2
          try clear hfz171_0
          try clear hfz171_1
          try clear hfz171_2
          try clear hfz173_0
          try clear hfz173_1
          try clear hfz173_2
          try clear hfz174_0
          try clear hfz174_1
          try clear hfz174_2
          try clear hfz176_0
          try clear hfz176_1
          try clear hfz176_2
          try clear hfz178_0
          try clear hfz178_1
          try clear hfz178_2
          try clear hfz183_0
          try clear hfz183_1
          try clear hfz183_2
          try clear hfz18_0
          try clear hfz18_1
          try clear hfz18_2
          try clear hfz190_0
          try clear hfz190_1
          try clear hfz190_2
          try clear hfz193_0
          try clear hfz193_1
          try clear hfz193_2
          try clear hfz194_0
          try clear hfz194_1
          try clear hfz194_2
          try clear hfz196_0
          try clear hfz196_1
          try clear hfz196_2
          try clear hfz197_0
          try clear hfz197_1
          try clear hfz197_2
          try clear hfz202_0
          try clear hfz202_1
          try clear hfz202_2
          try clear hfz209_0
          try clear hfz209_1
          try clear hfz209_2
          try clear hfz212_0
          try clear hfz212_1
          try clear hfz212_2
          try clear hfz213_0
          try clear hfz213_1
          try clear hfz213_2
          try clear hfz218_0
          try clear hfz218_1
          try clear hfz218_2
          try clear hfz21_0
          try clear hfz21_1
          try clear hfz21_2
          try clear hfz225_0
          try clear hfz225_1
          try clear hfz225_2
          try clear hfz23_0
          try clear hfz23_1
          try clear hfz23_2
          try clear hfz27_0
          try clear hfz27_1
          try clear hfz27_2
          try clear hfz30_0
          try clear hfz30_1
          try clear hfz30_2
          try clear hfz34_0
          try clear hfz34_1
          try clear hfz34_2
          try clear hfz41_0
          try clear hfz41_1
          try clear hfz41_2
          try clear hfz47_0
          try clear hfz47_1
          try clear hfz47_2
          try clear hfz55_0
          try clear hfz55_1
          try clear hfz55_2
          try clear hfz62_0
          try clear hfz62_1
          try clear hfz62_2
          try clear hfz65_0
          try clear hfz65_1
          try clear hfz65_2
          try clear hfz78_0
          try clear hfz78_1
          try clear hfz78_2
          try clear hfz85_0
          try clear hfz85_1
          try clear hfz85_2
          try clear hfz88_0
          try clear hfz88_1
          try clear hfz88_2
          try clear hfz89_0
          try clear hfz89_1
          try clear hfz89_2
          try clear hfz91_0
          try clear hfz91_1
          try clear hfz91_2
          try clear hfz92_0
          try clear hfz92_1
          try clear hfz92_2
          try clear hfz94_0
          try clear hfz94_1
          try clear hfz94_2
          try clear hfz96_0
          try clear hfz96_1
          try clear hfz96_2
          try clear hfz98_0
          try clear hfz98_1
          try clear hfz98_2
          try clear hfz99_0
          try clear hfz99_1
          try clear hfz99_2
          try clear p2
          obtain ⟨kq, x92_225, rfl, HA, HJ225, BK343, BK344, BK345, BK354, HB⟩ := hcut
          cases kq with
          | zero => exact absurd HA.out (by simp [intrusionlaw06_AddressSteps.j2])
          | succ kj225 =>
           have H := HA.out
           clear HA
           simp only [intrusionlaw06_AddressSteps.j2] at H
           by_cases c237 : x92_225 = true
           · subst c237
             rw [if_pos rfl] at H
             obtain rfl := Option.some.inj H
             go_wp2
             go_ret
             exact ⟨by first | rfl | (simp [errW_none, errW_some] <;> rfl) | (simp [*, errW_none, errW_some] <;> rfl), by repeat (first | (with_reducible first | exact HB.out | apply below_alloc | apply pw_below_drewN | apply below_drew1 | refine below_set ?_ GE343.out | refine below_set ?_ GE344.out | refine below_set ?_ GE345.out | refine below_set ?_ GE354.out) | exact HB.out)⟩
           · replace c237 := Bool.eq_false_iff.mpr c237
             subst c237
             rw [if_neg zF] at H
             replace H := Option.bind_eq_some_iff.mp H
             obtain ⟨t367, A2380, H⟩ := H
             try dsimp only at H
             have A238 := Aside0.mk A2380
             clear A2380
             by_cases c239 : t367 > 0
             · rw [if_pos c239] at H
               have c239b0 : decide (0 < t367) = true := decide_eq_true c239
               clear c239
               obtain rfl := Option.some.inj H
               have hnb240 := NB343_344.out
               have hnc240 := NB344_343.out
               have hnb241 := NB343_345.out
               have hnc241 := NB345_343.out
               have hnb242 := NB343_354.out
               have hnc242 := NB354_343.out
               obtain ⟨hcz243_0, hcz243_1, hcz243_2⟩ := zc3 BK343
               obtain ⟨hfz243_0, hfz243_1, hfz243_2⟩ := zf3 BK343
               have hnb244 := NB344_345.out
               have hnc244 := NB345_344.out
               have hnb245 := NB344_354.out
               have hnc245 := NB354_344.out
               obtain ⟨hcz246_0, hcz246_1, hcz246_2⟩ := zc3 BK344
               obtain ⟨hfz246_0, hfz246_1, hfz246_2⟩ := zf3 BK344
               go_wp2_with (first | ((with_reducible refine gate_callee (f := 18) rfl ?_); refine goesL_ (some 95) rfl rfl Tryd.func18 (by kernel_rfl) rfl #[.agg #[.bool a0_0, .int .u64 a0_1, .int .u64 a0_2], .agg #[.bool a1_0, .int .u64 a1_1, .int .u64 a1_2]] rfl (by (try simp only [List.map_toArray, List.map_cons, List.map_nil]); first | done | rfl | (simp only [List.length_drop, List.length_take]; rfl)) ?_; (with_reducible refine (address_Compare.calls a0_0 a0_1 a0_2 a1_0 a1_1 a1_2 t367 _ A238.out).mono ?_); rintro e w247 ⟨rfl, hb⟩; refine ⟨_, rfl, ?_⟩; replace BK343 := Aside0.mk (blk_below (g := gb343) (o := .cells #[.bool a0_0, .int .u64 a0_1, .int .u64 a0_2] 25 (0, 0)) (zK BK343) hb); replace BK344 := Aside0.mk (blk_below (g := gb344) (o := .cells #[.bool a1_0, .int .u64 a1_1, .int .u64 a1_2] 25 (0, 0)) (zK BK344) hb); replace BK345 := Aside0.mk (blk_below (g := gb345) (o := .cells #[.bool a2_0, .int .u64 a2_1, .int .u64 a2_2] 25 (0, 0)) (zK BK345) hb); replace BK354 := Aside0.mk (blk_below (g := gb354) (o := .cells #[.bool t350, .int .u64 t351, .int .u64 t352] 25 (0, 0)) (zK BK354) hb); replace HB := Aside0.mk (below_step (zB HB) hb); (try clear hb)))
               go_ret
               exact ⟨by first | rfl | (simp [errW_none, errW_some] <;> rfl) | (simp [*, errW_none, errW_some] <;> rfl), by repeat (first | (with_reducible first | exact HB.out | apply below_alloc | apply pw_below_drewN | apply below_drew1 | refine below_set ?_ GE343.out | refine below_set ?_ GE344.out | refine below_set ?_ GE345.out | refine below_set ?_ GE354.out) | exact HB.out)⟩
             · rw [if_neg c239] at H
               have c239b0 : decide (0 < t367) = false := decide_eq_false c239
               clear c239
               replace H := Option.bind_eq_some_iff.mp H
               obtain ⟨t368, A2480, H⟩ := H
               try dsimp only at H
               have A248 := Aside0.mk A2480
               clear A2480
               by_cases c249 : t368 > 0
               · rw [if_pos c249] at H
                 have c249b0 : decide (0 < t368) = true := decide_eq_true c249
                 clear c249
                 obtain rfl := Option.some.inj H
                 have hnb250 := NB343_344.out
                 have hnc250 := NB344_343.out
                 have hnb251 := NB343_345.out
                 have hnc251 := NB345_343.out
                 have hnb252 := NB343_354.out
                 have hnc252 := NB354_343.out
                 obtain ⟨hcz253_0, hcz253_1, hcz253_2⟩ := zc3 BK343
                 obtain ⟨hfz253_0, hfz253_1, hfz253_2⟩ := zf3 BK343
                 have hnb254 := NB344_345.out
                 have hnc254 := NB345_344.out
                 have hnb255 := NB344_354.out
                 have hnc255 := NB354_344.out
                 obtain ⟨hcz256_0, hcz256_1, hcz256_2⟩ := zc3 BK344
                 obtain ⟨hfz256_0, hfz256_1, hfz256_2⟩ := zf3 BK344
                 go_wp2_with (first | ((with_reducible refine gate_callee (f := 18) rfl ?_); refine goesL_ (some 95) rfl rfl Tryd.func18 (by kernel_rfl) rfl #[.agg #[.bool a0_0, .int .u64 a0_1, .int .u64 a0_2], .agg #[.bool a1_0, .int .u64 a1_1, .int .u64 a1_2]] rfl (by (try simp only [List.map_toArray, List.map_cons, List.map_nil]); first | done | rfl | (simp only [List.length_drop, List.length_take]; rfl)) ?_; (with_reducible refine (address_Compare.calls a0_0 a0_1 a0_2 a1_0 a1_1 a1_2 t367 _ A238.out).mono ?_); rintro e w257 ⟨rfl, hb⟩; refine ⟨_, rfl, ?_⟩; replace BK343 := Aside0.mk (blk_below (g := gb343) (o := .cells #[.bool a0_0, .int .u64 a0_1, .int .u64 a0_2] 25 (0, 0)) (zK BK343) hb); replace BK344 := Aside0.mk (blk_below (g := gb344) (o := .cells #[.bool a1_0, .int .u64 a1_1, .int .u64 a1_2] 25 (0, 0)) (zK BK344) hb); replace BK345 := Aside0.mk (blk_below (g := gb345) (o := .cells #[.bool a2_0, .int .u64 a2_1, .int .u64 a2_2] 25 (0, 0)) (zK BK345) hb); replace BK354 := Aside0.mk (blk_below (g := gb354) (o := .cells #[.bool t350, .int .u64 t351, .int .u64 t352] 25 (0, 0)) (zK BK354) hb); replace HB := Aside0.mk (below_step (zB HB) hb); (try clear hb); obtain ⟨hcz258_0, hcz258_1, hcz258_2⟩ := zc3 BK344; obtain ⟨hfz258_0, hfz258_1, hfz258_2⟩ := zf3 BK344; have hnb259 := NB345_354.out; have hnc259 := NB354_345.out; obtain ⟨hcz260_0, hcz260_1, hcz260_2⟩ := zc3 BK345; obtain ⟨hfz260_0, hfz260_1, hfz260_2⟩ := zf3 BK345) | (go_at_call 18; (with_reducible refine (address_Compare.calls a1_0 a1_1 a1_2 a2_0 a2_1 a2_2 t368 _ A248.out).mono ?_); rintro e w261 ⟨rfl, hb⟩; replace BK343 := Aside0.mk (blk_below (g := gb343) (o := .cells #[.bool a0_0, .int .u64 a0_1, .int .u64 a0_2] 25 (0, 0)) (zK BK343) hb); replace BK344 := Aside0.mk (blk_below (g := gb344) (o := .cells #[.bool a1_0, .int .u64 a1_1, .int .u64 a1_2] 25 (0, 0)) (zK BK344) hb); replace BK345 := Aside0.mk (blk_below (g := gb345) (o := .cells #[.bool a2_0, .int .u64 a2_1, .int .u64 a2_2] 25 (0, 0)) (zK BK345) hb); replace BK354 := Aside0.mk (blk_below (g := gb354) (o := .cells #[.bool t350, .int .u64 t351, .int .u64 t352] 25 (0, 0)) (zK BK354) hb); replace HB := Aside0.mk (below_step (zB HB) hb); (try clear hb)))
                 go_ret
                 exact ⟨by first | rfl | (simp [errW_none, errW_some] <;> rfl) | (simp [*, errW_none, errW_some] <;> rfl), by repeat (first | (with_reducible first | exact HB.out | apply below_alloc | apply pw_below_drewN | apply below_drew1 | refine below_set ?_ GE343.out | refine below_set ?_ GE344.out | refine below_set ?_ GE345.out | refine below_set ?_ GE354.out) | exact HB.out)⟩
               · rw [if_neg c249] at H
                 have c249b0 : decide (0 < t368) = false := decide_eq_false c249
                 clear c249
                 replace H := Option.bind_eq_some_iff.mp H
                 obtain ⟨t369, A2620, H⟩ := H
                 try dsimp only at H
                 have A262 := Aside0.mk A2620
                 clear A2620
                 obtain rfl := Option.some.inj H
                 have hnb263 := NB343_344.out
                 have hnc263 := NB344_343.out
                 have hnb264 := NB343_345.out
                 have hnc264 := NB345_343.out
                 have hnb265 := NB343_354.out
                 have hnc265 := NB354_343.out
                 obtain ⟨hcz266_0, hcz266_1, hcz266_2⟩ := zc3 BK343
                 obtain ⟨hfz266_0, hfz266_1, hfz266_2⟩ := zf3 BK343
                 have hnb267 := NB344_345.out
                 have hnc267 := NB345_344.out
                 have hnb268 := NB344_354.out
                 have hnc268 := NB354_344.out
                 obtain ⟨hcz269_0, hcz269_1, hcz269_2⟩ := zc3 BK344
                 obtain ⟨hfz269_0, hfz269_1, hfz269_2⟩ := zf3 BK344
                 go_wp2_with (first | ((with_reducible refine gate_callee (f := 18) rfl ?_); refine goesL_ (some 95) rfl rfl Tryd.func18 (by kernel_rfl) rfl #[.agg #[.bool a0_0, .int .u64 a0_1, .int .u64 a0_2], .agg #[.bool a1_0, .int .u64 a1_1, .int .u64 a1_2]] rfl (by (try simp only [List.map_toArray, List.map_cons, List.map_nil]); first | done | rfl | (simp only [List.length_drop, List.length_take]; rfl)) ?_; (with_reducible refine (address_Compare.calls a0_0 a0_1 a0_2 a1_0 a1_1 a1_2 t367 _ A238.out).mono ?_); rintro e w270 ⟨rfl, hb⟩; refine ⟨_, rfl, ?_⟩; replace BK343 := Aside0.mk (blk_below (g := gb343) (o := .cells #[.bool a0_0, .int .u64 a0_1, .int .u64 a0_2] 25 (0, 0)) (zK BK343) hb); replace BK344 := Aside0.mk (blk_below (g := gb344) (o := .cells #[.bool a1_0, .int .u64 a1_1, .int .u64 a1_2] 25 (0, 0)) (zK BK344) hb); replace BK345 := Aside0.mk (blk_below (g := gb345) (o := .cells #[.bool a2_0, .int .u64 a2_1, .int .u64 a2_2] 25 (0, 0)) (zK BK345) hb); replace BK354 := Aside0.mk (blk_below (g := gb354) (o := .cells #[.bool t350, .int .u64 t351, .int .u64 t352] 25 (0, 0)) (zK BK354) hb); replace HB := Aside0.mk (below_step (zB HB) hb); (try clear hb); obtain ⟨hcz271_0, hcz271_1, hcz271_2⟩ := zc3 BK344; obtain ⟨hfz271_0, hfz271_1, hfz271_2⟩ := zf3 BK344; have hnb272 := NB345_354.out; have hnc272 := NB354_345.out; obtain ⟨hcz273_0, hcz273_1, hcz273_2⟩ := zc3 BK345; obtain ⟨hfz273_0, hfz273_1, hfz273_2⟩ := zf3 BK345) | (go_at_call 18; (with_reducible refine (address_Compare.calls a1_0 a1_1 a1_2 a2_0 a2_1 a2_2 t368 _ A248.out).mono ?_); rintro e w274 ⟨rfl, hb⟩; replace BK343 := Aside0.mk (blk_below (g := gb343) (o := .cells #[.bool a0_0, .int .u64 a0_1, .int .u64 a0_2] 25 (0, 0)) (zK BK343) hb); replace BK344 := Aside0.mk (blk_below (g := gb344) (o := .cells #[.bool a1_0, .int .u64 a1_1, .int .u64 a1_2] 25 (0, 0)) (zK BK344) hb); replace BK345 := Aside0.mk (blk_below (g := gb345) (o := .cells #[.bool a2_0, .int .u64 a2_1, .int .u64 a2_2] 25 (0, 0)) (zK BK345) hb); replace BK354 := Aside0.mk (blk_below (g := gb354) (o := .cells #[.bool t350, .int .u64 t351, .int .u64 t352] 25 (0, 0)) (zK BK354) hb); replace HB := Aside0.mk (below_step (zB HB) hb); (try clear hb); obtain ⟨hcz275_0, hcz275_1, hcz275_2⟩ := zc3 BK343; obtain ⟨hfz275_0, hfz275_1, hfz275_2⟩ := zf3 BK343; obtain ⟨hcz276_0, hcz276_1, hcz276_2⟩ := zc3 BK345; obtain ⟨hfz276_0, hfz276_1, hfz276_2⟩ := zf3 BK345) | (go_at_call 18; (with_reducible refine (address_Compare.calls a0_0 a0_1 a0_2 a2_0 a2_1 a2_2 t369 _ A262.out).mono ?_); rintro e w277 ⟨rfl, hb⟩; replace BK343 := Aside0.mk (blk_below (g := gb343) (o := .cells #[.bool a0_0, .int .u64 a0_1, .int .u64 a0_2] 25 (0, 0)) (zK BK343) hb); replace BK344 := Aside0.mk (blk_below (g := gb344) (o := .cells #[.bool a1_0, .int .u64 a1_1, .int .u64 a1_2] 25 (0, 0)) (zK BK344) hb); replace BK345 := Aside0.mk (blk_below (g := gb345) (o := .cells #[.bool a2_0, .int .u64 a2_1, .int .u64 a2_2] 25 (0, 0)) (zK BK345) hb); replace BK354 := Aside0.mk (blk_below (g := gb354) (o := .cells #[.bool t350, .int .u64 t351, .int .u64 t352] 25 (0, 0)) (zK BK354) hb); replace HB := Aside0.mk (below_step (zB HB) hb); (try clear hb)))
                 go_ret
                 exact ⟨by first | rfl | (simp [errW_none, errW_some] <;> rfl) | (simp [*, errW_none, errW_some] <;> rfl), by repeat (first | (with_reducible first | exact HB.out | apply below_alloc | apply pw_below_drewN | apply below_drew1 | refine below_set ?_ GE343.out | refine below_set ?_ GE344.out | refine below_set ?_ GE345.out | refine below_set ?_ GE354.out) | exact HB.out)⟩
 · replace c5 := Bool.eq_false_iff.mpr c5
   subst c5
   rw [if_neg zF] at H
   obtain rfl := Option.some.inj H
   go_enter Tryd.func5, Tryd.ntmps5
   go_wp2_with (first | ((with_reducible refine gate_dst (N := 3) rfl ?_); refine zx 3 #[.bool a0_0, .int .u64 a0_1, .int .u64 a0_2] 25 ?_; intro gb343 hg w278 hbox hb; have BK343 := Aside0.mk (hbox); have GW343 := Aside0.mk ((by rw [hg]; exact (below_size (zB HB)) : w.heap.size ≤ gb343)); have GE343 := Aside0.mk ((by rw [hg]; exact (below_size (zB HB)) : w.heap.size ≤ gb343)); replace HB := Aside0.mk (below_step (zB HB) hb); clear hb hbox hg) | ((with_reducible refine gate_dst (N := 4) rfl ?_); refine zx 4 #[.bool a1_0, .int .u64 a1_1, .int .u64 a1_2] 25 ?_; intro gb344 hg w279 hbox hb; have BK344 := Aside0.mk (hbox); have GW344 := Aside0.mk ((by rw [hg]; exact (below_size (zB HB)) : w.heap.size ≤ gb344)); have GE344 := Aside0.mk ((by rw [hg]; exact (below_size (zB HB)) : w.heap.size ≤ gb344)); replace HB := Aside0.mk (below_step (zB HB) hb); have NB343_344 := Aside0.mk ((by rw [hg]; exact Nat.ne_of_lt (blk_lt (g := gb343) (o := .cells #[.bool a0_0, .int .u64 a0_1, .int .u64 a0_2] 25 (0, 0)) (zK BK343)) : gb343 ≠ gb344)); have NB344_343 := Aside0.mk ((by rw [hg]; exact Nat.ne_of_gt (blk_lt (g := gb343) (o := .cells #[.bool a0_0, .int .u64 a0_1, .int .u64 a0_2] 25 (0, 0)) (zK BK343)) : gb344 ≠ gb343)); replace BK343 := Aside0.mk (blk_below (g := gb343) (o := .cells #[.bool a0_0, .int .u64 a0_1, .int .u64 a0_2] 25 (0, 0)) (zK BK343) hb); clear hb hbox hg) | ((with_reducible refine gate_dst (N := 5) rfl ?_); refine zx 5 #[.bool a2_0, .int .u64 a2_1, .int .u64 a2_2] 25 ?_; intro gb345 hg w280 hbox hb; have BK345 := Aside0.mk (hbox); have GW345 := Aside0.mk ((by rw [hg]; exact (below_size (zB HB)) : w.heap.size ≤ gb345)); have GE345 := Aside0.mk ((by rw [hg]; exact (below_size (zB HB)) : w.heap.size ≤ gb345)); replace HB := Aside0.mk (below_step (zB HB) hb); have NB343_345 := Aside0.mk ((by rw [hg]; exact Nat.ne_of_lt (blk_lt (g := gb343) (o := .cells #[.bool a0_0, .int .u64 a0_1, .int .u64 a0_2] 25 (0, 0)) (zK BK343)) : gb343 ≠ gb345)); have NB345_343 := Aside0.mk ((by rw [hg]; exact Nat.ne_of_gt (blk_lt (g := gb343) (o := .cells #[.bool a0_0, .int .u64 a0_1, .int .u64 a0_2] 25 (0, 0)) (zK BK343)) : gb345 ≠ gb343)); replace BK343 := Aside0.mk (blk_below (g := gb343) (o := .cells #[.bool a0_0, .int .u64 a0_1, .int .u64 a0_2] 25 (0, 0)) (zK BK343) hb); have NB344_345 := Aside0.mk ((by rw [hg]; exact Nat.ne_of_lt (blk_lt (g := gb344) (o := .cells #[.bool a1_0, .int .u64 a1_1, .int .u64 a1_2] 25 (0, 0)) (zK BK344)) : gb344 ≠ gb345)); have NB345_344 := Aside0.mk ((by rw [hg]; exact Nat.ne_of_gt (blk_lt (g := gb344) (o := .cells #[.bool a1_0, .int .u64 a1_1, .int .u64 a1_2] 25 (0, 0)) (zK BK344)) : gb345 ≠ gb344)); replace BK344 := Aside0.mk (blk_below (g := gb344) (o := .cells #[.bool a1_0, .int .u64 a1_1, .int .u64 a1_2] 25 (0, 0)) (zK BK344) hb); clear hb hbox hg) | ((with_reducible refine gate_callee (f := 10) rfl ?_); refine goesL_ (some 11) rfl rfl Tryd.func10 (by kernel_rfl) rfl #[] rfl (by (try simp only [List.map_toArray, List.map_cons, List.map_nil]); first | done | rfl | (simp only [List.length_drop, List.length_take]; rfl)) ?_; (with_reducible refine (intrusionlaw06_lives.calls  false _ A4.out (WOK.below hW_ (zB HB))).mono ?_); rintro e w281 ⟨rfl, hb⟩; refine ⟨_, rfl, ?_⟩; replace BK343 := Aside0.mk (blk_below (g := gb343) (o := .cells #[.bool a0_0, .int .u64 a0_1, .int .u64 a0_2] 25 (0, 0)) (zK BK343) hb); replace BK344 := Aside0.mk (blk_below (g := gb344) (o := .cells #[.bool a1_0, .int .u64 a1_1, .int .u64 a1_2] 25 (0, 0)) (zK BK344) hb); replace BK345 := Aside0.mk (blk_below (g := gb345) (o := .cells #[.bool a2_0, .int .u64 a2_1, .int .u64 a2_2] 25 (0, 0)) (zK BK345) hb); replace HB := Aside0.mk (below_step (zB HB) hb); (try clear hb)))
   go_ret
   exact ⟨by first | rfl | (simp [errW_none, errW_some] <;> rfl) | (simp [*, errW_none, errW_some] <;> rfl), by repeat (first | (with_reducible first | exact HB.out | apply below_alloc | apply pw_below_drewN | apply below_drew1 | refine below_set ?_ GE343.out | refine below_set ?_ GE344.out | refine below_set ?_ GE345.out) | exact HB.out)⟩
end Go.Proofs.YtlgfinnldhjgeaaDoor.Q
end

section
set_option linter.unusedVariables false
namespace Go.Proofs.YtlgfinnldhjgeaaDoor.Read
open Go.RowKit Go.Deep Go.WideShapes Go.Proofs.YtlgfinnldhjgeaaDoorW.PrintWords
def Reads {α : Type} (P : Program) (W : World) (d : Kd α) (Q : α → Prop) (t : TypeId) : Prop :=
  ∀ (H : Type) (enc : TypeId × Value → H) (fuel : Nat) (cs : List Value) (x : DataW H × List MemPlace), DataW.trod enc P W 0 (fun _ => true) true fuel t cs = some x → ∃ y, d.K W y cs ∧ Q y
section
variable {P : Program} {W : World}
theorem reads_int {k : IntKind} {t : TypeId} (ht : P.underlying t = some (.int k)) : Reads P W (Kd.int k) (fun n => (Lit.int k n).wf = true) t := by
  intro H enc fuel cs x h
  obtain ⟨n, rfl, _, hw⟩ := DataW.trod_int ht h
  exact ⟨n, rfl, hw⟩
theorem reads_bool {t : TypeId} (ht : P.underlying t = some .bool) : Reads P W Kd.bool (fun _ => True) t := by
  intro H enc fuel cs x h
  obtain ⟨n, rfl, _⟩ := DataW.trod_bool ht h
  exact ⟨n, rfl, trivial⟩
theorem pair_mk {α β : Type} {a : Kd α} {b : Kd β} {x : α} {y : β} {cs : List Value} (s : Nat) (h0 : a.K W x (cs.take s)) (h1 : b.K W y (cs.drop s)) : (Kd.pair a b).K W (x, y) cs :=
  ⟨cs.take s, cs.drop s, (List.take_append_drop s cs).symm, h0, h1⟩
theorem field_at {α : Type} {d : Kd α} {Q : α → Prop} {fs : Array Field} {H : Type} {enc : TypeId × Value → H} {n : Nat} {cs : List Value} {xs : List (DataW H × List MemPlace)} (hl : xs.length = fs.size)
    (hf : ∀ (i : Nat) (f : Field), fs[i]? = some f → DataW.trod enc P W 0 (fun _ => true) true n f.type ((cs.drop f.offset).take (P.cellsOf f.type)) = xs[i]?)
    (i : Nat) {f : Field} (hi : fs[i]? = some f) {t off sz : Nat} (ht : f.type = t) (ho : f.offset = off) (hc : P.cellsOf t = sz) (hr : Reads P W d Q t) : ∃ y, d.K W y ((cs.drop off).take sz) ∧ Q y := by
  subst ht ho hc
  have h := hf i f hi
  have hlt : i < xs.length := by rw [hl]; exact (Array.getElem?_eq_some_iff.1 hi).1
  rw [List.getElem?_eq_getElem hlt] at h
  exact hr H enc n _ _ h
end
end Go.Proofs.YtlgfinnldhjgeaaDoor.Read
end

section
set_option linter.unusedVariables false
namespace Go.Proofs.YtlgfinnldhjgeaaDoor.Q
open Go.RowKit Go.Proofs.YtlgfinnldhjgeaaDoorW.PrintWords Go.Proofs.YtlgfinnldhjgeaaDoor.Read
def q25 (x : S25) : Prop := True ∧ (Lit.int .u64 x.f1).wf = true ∧ (Lit.int .u64 x.f2).wf = true
theorem reads_k25 (W : World) : Reads Tryd.prog W k25 q25 25 := by
  intro H enc fuel cs x h
  obtain ⟨xs, n, rfl, _, hcl, hxl, hf⟩ := DataW.trod_struct Tryd.underlying25 h
  have hc : cs.length = 3 := hcl.trans (by kernel_rfl)
  obtain ⟨y0, h0, g0⟩ := field_at hxl hf 0 rfl (t := 4) (off := 0) (sz := 1) rfl rfl (by kernel_rfl) (reads_bool Tryd.underlying4)
  obtain ⟨y1, h1, g1⟩ := field_at hxl hf 1 rfl (t := 23) (off := 1) (sz := 1) rfl rfl (by kernel_rfl) (reads_int Tryd.underlying23)
  obtain ⟨y2, h2, g2⟩ := field_at hxl hf 2 rfl (t := 23) (off := 2) (sz := 1) rfl rfl (by kernel_rfl) (reads_int Tryd.underlying23)
  refine ⟨⟨y0, y1, y2⟩, ?_, ⟨g0, g1, g2⟩⟩
  rw [show (cs.drop 0).take 1 = (cs.drop 0).take 1 from rfl] at h0
  rw [show (cs.drop 1).take 1 = (cs.drop 1).take 1 from rfl] at h1
  rw [show (cs.drop 2).take 1 = (cs.drop 2) from List.take_of_length_le (by rw [List.length_drop, hc]; decide)] at h2
  skip
  simp only [show 2 = 1 + 1 from rfl, ← List.drop_drop] at h2
  have e0 : cs.drop 0 = cs := rfl
  rw [e0] at h0
  exact pair_mk (a := Kd.bool) 1 h0 (pair_mk (a := (Kd.int .u64)) 1 h1 (h2))
end Go.Proofs.YtlgfinnldhjgeaaDoor.Q
end

section
set_option linter.unusedVariables false
set_option linter.unusedSimpArgs false
namespace Go.Proofs.YtlgfinnldhjgeaaDoor.Q
open Go.RowKit Go.Sort Go.Lib Go.Proofs.YtlgfinnldhjgeaaDoorW.PrintWords Go.Proofs.YtlgfinnldhjgeaaDoorW.PrintLast Go.Proofs.YtlgfinnldhjgeaaDoorW.PrintMore
def intrusionref06_Compare.f (a0_0 : Bool) (a0_1 : Int) (a0_2 : Int) (a1_0 : Bool) (a1_1 : Int) (a1_2 : Int) : Option (Int) := some (cmpA ⟨a0_0, a0_1, a0_2⟩ ⟨a1_0, a1_1, a1_2⟩)
end Go.Proofs.YtlgfinnldhjgeaaDoor.Q
end

section
namespace Go.Proofs.YtlgfinnldhjgeaaDoor.Q
open Go.RowKit Go.Proofs.YtlgfinnldhjgeaaDoorW.PrintWords Go.Proofs.YtlgfinnldhjgeaaDoorW.PrintLast Go.Proofs.YtlgfinnldhjgeaaDoorW.PrintMore
attribute [local go_sem] max2_int min2_int max_two min_two max_three min_three max_four min_four
set_option linter.unusedVariables false
set_option linter.unusedSimpArgs false
def intrusionref06_Valid.f (a0_0 : Bool) (a0_1 : Int) (a0_2 : Int) : Option (Bool) := if a0_0 = true then (some true) else (if a0_1 = 0 then (some (decide (a0_2 < 4294967296))) else (some false))
end Go.Proofs.YtlgfinnldhjgeaaDoor.Q
end

section
namespace Go.Proofs.YtlgfinnldhjgeaaDoor.Q
open Go.RowKit Go.Proofs.YtlgfinnldhjgeaaDoorW.PrintWords Go.Proofs.YtlgfinnldhjgeaaDoorW.PrintLast Go.Proofs.YtlgfinnldhjgeaaDoorW.PrintMore
attribute [local go_sem] max2_int min2_int max_two min_two max_three min_three max_four min_four
set_option linter.unusedVariables false
set_option linter.unusedSimpArgs false
def intrusionref06_Next.j0 : Nat → Bool → Bool → Int → Int → Option (Bool × Int × Int × Bool)
  | 0, _, _, _, _ => none
  | k + 1, x14, x294000, x294001, x294002 => if x14 = true then (if x294000 = true then (if x294002 = 0 then (if (IntKind.u64.wrap (x294001 + 1)) = 0 then (some (false, 0, 0, false)) else (some (x294000, IntKind.u64.wrap (x294001 + 1), x294002, true))) else (some (x294000, IntKind.u64.wrap (x294001 + 1), x294002, true))) else (if x294002 = 4294967296 then (some (false, 0, 0, false)) else (some (x294000, IntKind.u64.wrap (x294001 + 1), x294002, true)))) else (if x294000 = true then (if x294002 = 0 then (if x294001 = 0 then (some (false, 0, 0, false)) else (some (x294000, x294001, x294002, true))) else (some (x294000, x294001, x294002, true))) else (if x294002 = 4294967296 then (some (false, 0, 0, false)) else (some (x294000, x294001, x294002, true))))
def intrusionref06_Next.f (k : Nat) (a0_0 : Bool) (a0_1 : Int) (a0_2 : Int) : Option (Bool × Int × Int × Bool) := if a0_0 = true then (intrusionref06_Next.j0 k ((IntKind.u64.wrap (a0_2 + 1)) == 0) a0_0 a0_1 (IntKind.u64.wrap (a0_2 + 1))) else (intrusionref06_Next.j0 k false a0_0 a0_1 (IntKind.u64.wrap (a0_2 + 1)))
theorem intrusionref06_Next.mono_l : ∀ k, (∀ y0 y1 y2 y3, LeO (intrusionref06_Next.j0 k y0 y1 y2 y3) (intrusionref06_Next.j0 (k + 1) y0 y1 y2 y3))
  | 0 => fun _ _ _ _ r h => by simp [intrusionref06_Next.j0] at h
  | k + 1 => by
    have ih0 := intrusionref06_Next.mono_l k
    · intro y0 y1 y2 y3
      unfold intrusionref06_Next.j0
      repeat' first
      | (with_reducible exact ih0 _ _ _ _)
      | (with_reducible exact LeO.refl _)
      | (with_reducible exact LeO.none _)
      | (with_reducible refine LeO.ite ?_ ?_)
      | (with_reducible refine LeO.bind ?_ (fun _ => ?_))
      | exact ih0 _ _ _ _
      | exact LeO.none _
      | refine LeO.ite ?_ ?_
      | refine LeO.bind ?_ (fun _ => ?_)
theorem intrusionref06_Next.mono : ∀ a0 a1 a2 k, LeO (intrusionref06_Next.f k a0 a1 a2) (intrusionref06_Next.f (k + 1) a0 a1 a2) := by
  intro a0 a1 a2 k
  have ih0 := intrusionref06_Next.mono_l k
  unfold intrusionref06_Next.f
  repeat' first
      | (with_reducible exact ih0 _ _ _ _)
      | (with_reducible exact LeO.refl _)
      | (with_reducible exact LeO.none _)
      | (with_reducible refine LeO.ite ?_ ?_)
      | (with_reducible refine LeO.bind ?_ (fun _ => ?_))
      | exact ih0 _ _ _ _
      | exact LeO.none _
      | refine LeO.ite ?_ ?_
      | refine LeO.bind ?_ (fun _ => ?_)
end Go.Proofs.YtlgfinnldhjgeaaDoor.Q
end

section
namespace Go.Proofs.YtlgfinnldhjgeaaDoor.Q
open Go.RowKit Go.Proofs.YtlgfinnldhjgeaaDoorW.PrintWords Go.Proofs.YtlgfinnldhjgeaaDoorW.PrintLast Go.Proofs.YtlgfinnldhjgeaaDoorW.PrintMore
attribute [local go_sem] max2_int min2_int max_two min_two max_three min_three max_four min_four
set_option linter.unusedVariables false
set_option linter.unusedSimpArgs false
def intrusionref06_Previous.j0 : Nat → Bool → Bool → Int → Int → Option (Bool × Int × Int × Bool)
  | 0, _, _, _, _ => none
  | k + 1, x11, x296000, x296001, x296002 => if x11 = true then (some (false, 0, 0, false)) else (if x296002 = 0 then (some (x296000, IntKind.u64.wrap (x296001 - 1), IntKind.u64.wrap (x296002 - 1), true)) else (some (x296000, x296001, IntKind.u64.wrap (x296002 - 1), true)))
def intrusionref06_Previous.f (k : Nat) (a0_0 : Bool) (a0_1 : Int) (a0_2 : Int) : Option (Bool × Int × Int × Bool) := if a0_2 = 0 then (intrusionref06_Previous.j0 k (a0_1 == 0) a0_0 a0_1 a0_2) else (intrusionref06_Previous.j0 k false a0_0 a0_1 a0_2)
theorem intrusionref06_Previous.mono_l : ∀ k, (∀ y0 y1 y2 y3, LeO (intrusionref06_Previous.j0 k y0 y1 y2 y3) (intrusionref06_Previous.j0 (k + 1) y0 y1 y2 y3))
  | 0 => fun _ _ _ _ r h => by simp [intrusionref06_Previous.j0] at h
  | k + 1 => by
    have ih0 := intrusionref06_Previous.mono_l k
    · intro y0 y1 y2 y3
      unfold intrusionref06_Previous.j0
      repeat' first
      | (with_reducible exact ih0 _ _ _ _)
      | (with_reducible exact LeO.refl _)
      | (with_reducible exact LeO.none _)
      | (with_reducible refine LeO.ite ?_ ?_)
      | (with_reducible refine LeO.bind ?_ (fun _ => ?_))
      | exact ih0 _ _ _ _
      | exact LeO.none _
      | refine LeO.ite ?_ ?_
      | refine LeO.bind ?_ (fun _ => ?_)
theorem intrusionref06_Previous.mono : ∀ a0 a1 a2 k, LeO (intrusionref06_Previous.f k a0 a1 a2) (intrusionref06_Previous.f (k + 1) a0 a1 a2) := by
  intro a0 a1 a2 k
  have ih0 := intrusionref06_Previous.mono_l k
  unfold intrusionref06_Previous.f
  repeat' first
      | (with_reducible exact ih0 _ _ _ _)
      | (with_reducible exact LeO.refl _)
      | (with_reducible exact LeO.none _)
      | (with_reducible refine LeO.ite ?_ ?_)
      | (with_reducible refine LeO.bind ?_ (fun _ => ?_))
      | exact ih0 _ _ _ _
      | exact LeO.none _
      | refine LeO.ite ?_ ?_
      | refine LeO.bind ?_ (fun _ => ?_)
end Go.Proofs.YtlgfinnldhjgeaaDoor.Q
end

section
set_option linter.unusedVariables false
set_option linter.unusedSimpArgs false
namespace Go.Proofs.YtlgfinnldhjgeaaDoor.Q
open Go.RowKit Go.Proofs.YtlgfinnldhjgeaaDoorW.PrintWords Go.Proofs.YtlgfinnldhjgeaaDoorW.PrintLast Go.Proofs.YtlgfinnldhjgeaaDoorW.PrintMore
abbrev Ad := S25
def AW (a : Ad) : Prop := 0 ≤ a.f1 ∧ a.f1 < 18446744073709551616 ∧ 0 ≤ a.f2 ∧ a.f2 < 18446744073709551616
def av (a : Ad) : Int := (if a.f0 = true then 680564733841876926926749214863536422912 else 0) + a.f1 * 18446744073709551616 + a.f2
def AF (a : Ad) : Prop := AW a ∧ (a.f0 = true ∨ (a.f1 = 0 ∧ a.f2 ≤ 4294967295))
theorem wf_u64 {n : Int} (h : (Lit.int .u64 n).wf = true) : 0 ≤ n ∧ n < 18446744073709551616 := by
  simp only [Lit.wf, Bool.and_eq_true, decide_eq_true_eq] at h
  have e1 : IntKind.u64.min = 0 := by decide
  have e2 : IntKind.u64.max = 18446744073709551615 := by decide
  rw [e1, e2] at h
  omega
theorem aw_of {a : Ad} (h : q25 a) : AW a := by
  obtain ⟨_, h1, h2⟩ := h
  have := wf_u64 h1
  have := wf_u64 h2
  exact ⟨by omega, by omega, by omega, by omega⟩
theorem av_inj {a b : Ad} (ha : AW a) (hb : AW b) (h : av a = av b) : a = b := by
  obtain ⟨a0, a1, a2⟩ := a
  obtain ⟨b0, b1, b2⟩ := b
  unfold AW at ha hb
  unfold av at h
  cases a0 <;> cases b0 <;> simp at h ha hb ⊢ <;> omega
theorem av_eq {a b : Ad} (ha : AW a) (hb : AW b) : a = b ↔ av a = av b := ⟨fun h => by rw [h], av_inj ha hb⟩
theorem cmpA_tri (a b : Ad) : cmpA a b = 0 ∨ cmpA a b = -1 ∨ cmpA a b = 1 := by
  unfold cmpA
  repeat' split
  all_goals simp
theorem cmpA_zero {a b : Ad} : cmpA a b = 0 ↔ a = b := by
  obtain ⟨a0, a1, a2⟩ := a
  obtain ⟨b0, b1, b2⟩ := b
  unfold cmpA
  simp only [Ad, S25.mk.injEq]
  by_cases h0 : a0 = b0
  · by_cases h1 : a1 = b1
    · by_cases h2 : a2 = b2
      · simp [h0, h1, h2]
      · simp only [h0, h1, h2, if_true, if_false]
        split <;> simp
    · simp only [h0, h1, if_true, if_false]
      split <;> simp
  · simp only [h0, if_false]
    split <;> simp
theorem cmp_lt' {a b : Ad} (ha : AW a) (hb : AW b) : cmpA a b < 0 ↔ av a < av b := by
  obtain ⟨a0, a1, a2⟩ := a
  obtain ⟨b0, b1, b2⟩ := b
  unfold AW at ha hb
  unfold cmpA av
  cases a0 <;> cases b0 <;> simp at ha hb ⊢
  · by_cases h1 : a1 = b1
    · by_cases h2 : a2 = b2
      · simp [h1, h2]
      · by_cases h3 : a2 < b2 <;> simp [h1, h2, h3]
    · by_cases h3 : a1 < b1
      · simp [h1, h3]; omega
      · simp [h1, h3]; omega
  · omega
  · omega
  · by_cases h1 : a1 = b1
    · by_cases h2 : a2 = b2
      · simp [h1, h2]
      · by_cases h3 : a2 < b2 <;> simp [h1, h2, h3]
    · by_cases h3 : a1 < b1
      · simp [h1, h3]; omega
      · simp [h1, h3]; omega
theorem cmp_le' {a b : Ad} (ha : AW a) (hb : AW b) : cmpA a b ≤ 0 ↔ av a ≤ av b := by
  have h1 := cmp_lt' ha hb
  have h2 := @cmpA_zero a b
  rw [av_eq ha hb] at h2
  rcases cmpA_tri a b with h | h | h <;> omega
theorem cmp_gt' {a b : Ad} (ha : AW a) (hb : AW b) : 0 < cmpA a b ↔ av b < av a := by
  have h1 := cmp_le' ha hb
  omega
theorem cmp_swap {a b : Ad} (ha : AW a) (hb : AW b) : cmpA b a = -cmpA a b := by
  have h1 := cmp_lt' ha hb
  have h2 := cmp_lt' hb ha
  have h3 := cmp_gt' ha hb
  have h4 := cmp_gt' hb ha
  rcases cmpA_tri a b with h | h | h <;> rcases cmpA_tri b a with h' | h' | h' <;> omega
def fineB (a : Ad) : Bool := a.f0 || (decide (a.f1 = 0) && decide (a.f2 ≤ 4294967295))
theorem fine_eq (a : Ad) : address_Valid.f a.f0 a.f1 a.f2 = some (fineB a) := by
  unfold address_Valid.f fineB
  cases a.f0
  · by_cases h : a.f1 = 0 <;> simp [h]
  · simp
theorem fine_iff {a : Ad} (ha : AW a) : fineB a = true ↔ AF a := by
  unfold fineB AF
  simp only [Bool.or_eq_true, Bool.and_eq_true, decide_eq_true_eq]
  exact ⟨fun h => ⟨ha, h⟩, fun h => h.2⟩
theorem AF.num {a : Ad} (h : AF a) : (a.f0 = false ∧ 0 ≤ av a ∧ av a ≤ 4294967295) ∨ (a.f0 = true ∧ 680564733841876926926749214863536422912 ≤ av a ∧ av a < 1020847100762815390390123822295304634368) := by
  obtain ⟨⟨h1, h2, h3, h4⟩, h5⟩ := h
  obtain ⟨a0, a1, a2⟩ := a
  unfold av
  cases a0 <;> simp at h1 h2 h3 h4 h5 ⊢ <;> omega
theorem cmp_f (a b : Ad) : address_Compare.f a.f0 a.f1 a.f2 b.f0 b.f1 b.f2 = some (cmpA a b) := rfl
theorem u64_id {n : Int} (h0 : 0 ≤ n) (h1 : n < 18446744073709551616) : IntKind.u64.wrap n = n := IntWalk.u64_in n ⟨h0, by omega⟩
instance decAd : DecidableEq Ad := fun a b => decidable_of_iff (a.f0 = b.f0 ∧ a.f1 = b.f1 ∧ a.f2 = b.f2) ⟨fun h => by cases a; cases b; simp at h; simp [h], fun h => by rw [h]; exact ⟨rfl, rfl, rfl⟩⟩
theorem u64_top : IntKind.u64.wrap 18446744073709551616 = 0 := by decide
def nextA (a : Ad) : Ad := ⟨a.f0, if IntKind.u64.wrap (a.f2 + 1) = 0 then IntKind.u64.wrap (a.f1 + 1) else a.f1, IntKind.u64.wrap (a.f2 + 1)⟩
def topA (f : Bool) : Ad := if f then ⟨true, 18446744073709551615, 18446744073709551615⟩ else ⟨false, 0, 4294967295⟩
theorem topA_AF (f : Bool) : AF (topA f) := by
  cases f
  · refine ⟨⟨?_, ?_, ?_, ?_⟩, .inr ⟨?_, ?_⟩⟩ <;> simp [topA]
  · refine ⟨⟨?_, ?_, ?_, ?_⟩, .inl ?_⟩ <;> simp [topA]
theorem topA_max {a : Ad} (h : AF a) : av a ≤ av (topA a.f0) := by
  rcases h.num with ⟨e, _, h2⟩ | ⟨e, _, h2⟩
  · rw [e]; exact h2
  · rw [e]; show av a ≤ _; unfold topA av at *; simp at *; omega
theorem nextA_spec {a : Ad} (h : AF a) (hn : a ≠ topA a.f0) : AF (nextA a) ∧ (nextA a).f0 = a.f0 ∧ av (nextA a) = av a + 1 := by
  have hlt : av a < av (topA a.f0) := by
    have h1 := topA_max h
    have h2 : av a ≠ av (topA a.f0) := fun e => hn (av_inj h.1 (topA_AF _).1 e)
    omega
  obtain ⟨⟨h1, h2, h3, h4⟩, h5⟩ := h
  obtain ⟨a0, a1, a2⟩ := a
  simp only at h1 h2 h3 h4 h5
  by_cases c : a2 + 1 = 18446744073709551616
  · have e1 : IntKind.u64.wrap (a2 + 1) = 0 := by rw [c]; exact u64_top
    cases a0
    · simp at h5; omega
    · have h6 : a1 + 1 < 18446744073709551616 := by unfold topA av at hlt; simp at hlt; omega
      have e2 := u64_id (n := a1 + 1) (by omega) h6
      unfold nextA
      simp only [e1, e2, if_true]
      refine ⟨⟨⟨by simp; omega, by simp; omega, by simp, by simp⟩, .inl rfl⟩, by simp, ?_⟩
      unfold av; simp; omega
  · have e1 := u64_id (n := a2 + 1) (by omega) (by omega)
    unfold nextA
    have e3 : ¬ (a2 + 1 = 0) := by omega
    simp only [e1, e3, if_false]
    refine ⟨⟨⟨h1, h2, by simp; omega, by simp; omega⟩, ?_⟩, by simp, by unfold av; simp; omega⟩
    cases a0
    · simp at h5
      refine .inr ⟨h5.1, ?_⟩
      unfold topA av at hlt; simp at hlt ⊢; omega
    · exact .inl rfl
theorem next_eq (a : Ad) (h : AF a) : address_Next.f a.f0 a.f1 a.f2 = some (if a = topA a.f0 then (false, 0, 0, false) else ((nextA a).f0, (nextA a).f1, (nextA a).f2, true)) := by
  obtain ⟨a0, a1, a2⟩ := a
  have e : address_last.f a0 = some ((topA a0).f0, (topA a0).f1, (topA a0).f2) := by cases a0 <;> rfl
  unfold address_Next.f
  rw [e]
  simp only [Option.bind_some]
  have e2 : (a0 == (topA a0).f0 && (a1 == (topA a0).f1 && (a2 == (topA a0).f2))) = decide ((⟨a0, a1, a2⟩ : Ad) = topA a0) := by
    rw [Bool.eq_iff_iff]
    simp only [Bool.and_eq_true, beq_iff_eq, decide_eq_true_eq]
    constructor
    · rintro ⟨h1, h2, h3⟩
      cases a0 <;> simp [topA] at * <;> simp [h2, h3]
    · intro h
      rw [← h]
      exact ⟨rfl, rfl, rfl⟩
  rw [e2]
  by_cases c : (⟨a0, a1, a2⟩ : Ad) = topA a0
  · rw [if_pos (decide_eq_true c), if_pos c]
  · rw [if_neg (by simpa using c), if_neg c]
    unfold nextA
    by_cases d : IntKind.u64.wrap (a2 + 1) = 0
    · simp [d]
    · simp [d]
def prevA (a : Ad) : Ad := ⟨a.f0, if a.f2 = 0 then IntKind.u64.wrap (a.f1 - 1) else a.f1, IntKind.u64.wrap (a.f2 - 1)⟩
theorem prevA_spec {a : Ad} (h : AF a) (hn : ¬ (a.f1 = 0 ∧ a.f2 = 0)) : AF (prevA a) ∧ (prevA a).f0 = a.f0 ∧ av (prevA a) = av a - 1 := by
  obtain ⟨⟨h1, h2, h3, h4⟩, h5⟩ := h
  obtain ⟨a0, a1, a2⟩ := a
  simp only at h1 h2 h3 h4 h5 hn
  by_cases c : a2 = 0
  · subst c
    have e1 : IntKind.u64.wrap (0 - 1) = 18446744073709551615 := by decide
    cases a0
    · simp at h5; omega
    · have e2 := u64_id (n := a1 - 1) (by omega) (by omega)
      unfold prevA
      simp only [e1, e2, if_true]
      refine ⟨⟨⟨by simp; omega, by simp; omega, by simp, by simp⟩, .inl rfl⟩, by simp, ?_⟩
      unfold av; simp; omega
  · have e1 := u64_id (n := a2 - 1) (by omega) (by omega)
    unfold prevA
    rw [e1]
    simp only [c, if_false]
    refine ⟨⟨⟨h1, h2, by simp; omega, by simp; omega⟩, ?_⟩, by simp, by unfold av; simp; omega⟩
    rcases h5 with h5 | h5
    · exact .inl h5
    · exact .inr ⟨h5.1, by simp; omega⟩
theorem prev_eq (a : Ad) (hn : ¬ (a.f1 = 0 ∧ a.f2 = 0)) : address_Previous.f a.f0 a.f1 a.f2 = some ((prevA a).f0, (prevA a).f1, (prevA a).f2, true) := by
  unfold address_Previous.f prevA
  have e : (a.f1 == 0 && (a.f2 == 0)) = false := by
    rw [← Bool.not_eq_true]
    simpa using hn
  rw [e]
  by_cases c : a.f2 = 0 <;> simp [c]
theorem ends_eq (x y : Ad) : (x.f0 == y.f0 && (x.f1 == y.f1 && x.f2 == y.f2)) = decide (x = y) := by
  obtain ⟨x0, x1, x2⟩ := x
  obtain ⟨y0, y1, y2⟩ := y
  rw [Bool.eq_iff_iff]
  simp only [Bool.and_eq_true, beq_iff_eq, decide_eq_true_eq, Ad, S25.mk.injEq]
theorem ends_ne (x y : Ad) : (!(x.f0 == y.f0) || (!(x.f1 == y.f1) || !(x.f2 == y.f2))) = !decide (x = y) := by
  rw [← ends_eq, Bool.not_and, Bool.not_and]
theorem cmp_b {a b : Ad} : (cmpA a b == 0) = decide (a = b) := by
  rw [Bool.eq_iff_iff, beq_iff_eq, decide_eq_true_eq, cmpA_zero]
end Go.Proofs.YtlgfinnldhjgeaaDoor.Q
end

section
set_option linter.unusedVariables false
set_option linter.unusedSimpArgs false
namespace Go.Proofs.YtlgfinnldhjgeaaDoor.Pure
open Go.RowKit Go.Proofs.YtlgfinnldhjgeaaDoor.Q Go.Proofs.YtlgfinnldhjgeaaDoorW.PrintWords Go.Proofs.YtlgfinnldhjgeaaDoorW.PrintLast
theorem steps_j2 (a b c : Ad) (ha : AF a) (hb : AF b) (hc : AF c) : intrusionlaw06_AddressSteps.j2 1 false a.f0 a.f1 a.f2 b.f0 b.f1 b.f2 c.f0 c.f1 c.f2 = some true := by
  simp only [intrusionlaw06_AddressSteps.j2, cmp_f a b, cmp_f b c, cmp_f a c, Option.bind_some, Bool.false_eq_true, if_false]
  by_cases h1 : cmpA a b > 0
  · rw [if_pos h1]
  · rw [if_neg h1]
    by_cases h2 : cmpA b c > 0
    · rw [if_pos h2]
    · rw [if_neg h2]
      have g1 := (cmp_le' ha.1 hb.1).1 (by omega)
      have g2 := (cmp_le' hb.1 hc.1).1 (by omega)
      have g3 := (cmp_le' ha.1 hc.1).2 (by omega)
      simp [g3]
theorem steps_j1 (a b c : Ad) (ha : AF a) (hb : AF b) (hc : AF c) : intrusionlaw06_AddressSteps.j1 2 a.f0 a.f1 a.f2 b.f0 b.f1 b.f2 c.f0 c.f1 c.f2 = some true := by
  rw [intrusionlaw06_AddressSteps.j1]
  rw [cmp_f a b, cmp_f b a]
  simp only [Option.bind_some]
  rw [cmp_b, ends_eq, cmp_swap ha.1 hb.1]
  have e : (cmpA a b != wrap64 (- -cmpA a b)) = false := by
    rw [Int.neg_neg]
    have e2 : wrap64 (cmpA a b) = cmpA a b := by unfold wrap64; rcases cmpA_tri a b with h | h | h <;> omega
    rw [e2, bne_self_eq_false]
  rw [e]
  simp only [bne_self_eq_false, Bool.false_eq_true, if_false]
  exact steps_j2 a b c ha hb hc
theorem steps_j0 (a b c : Ad) (ha : AF a) (hb : AF b) (hc : AF c) : intrusionlaw06_AddressSteps.j0 3 false a.f0 a.f1 a.f2 b.f0 b.f1 b.f2 c.f0 c.f1 c.f2 = some true := by
  rw [intrusionlaw06_AddressSteps.j0]
  simp only [Bool.false_eq_true, if_false]
  rw [next_eq a ha]
  by_cases ht : a = topA a.f0
  · rw [if_pos ht]
    simp only [Option.bind_some, Bool.false_eq_true, if_false]
    exact steps_j1 a b c ha hb hc
  · rw [if_neg ht]
    obtain ⟨n1, n2, n3⟩ := nextA_spec ha ht
    simp only [Option.bind_some, if_true]
    have hz : ¬ ((nextA a).f1 = 0 ∧ (nextA a).f2 = 0) := fun h => by
      have h1 : av (nextA a) = if a.f0 = true then 680564733841876926926749214863536422912 else 0 := by
        unfold av; rw [h.1, h.2, n2]; omega
      rcases ha.num with ⟨e, g1, _⟩ | ⟨e, g1, _⟩ <;> rw [e] at h1 <;> simp at h1 <;> omega
    rw [prev_eq (nextA a) hz]
    obtain ⟨p1, p2, p3⟩ := prevA_spec n1 hz
    have hp : prevA (nextA a) = a := av_inj p1.1 ha.1 (by omega)
    rw [hp]
    simp only [Option.bind_some, if_true]
    rw [ends_ne]
    simp only [decide_true, Bool.not_true, Bool.false_eq_true, if_false]
    rw [cmp_f a (nextA a)]
    have c1 : cmpA a (nextA a) = -1 := by
      have := (cmp_lt' ha.1 n1.1).2 (by omega)
      rcases cmpA_tri a (nextA a) with h | h | h <;> omega
    have c2 : cmpA (nextA a) a = 1 := by rw [cmp_swap ha.1 n1.1, c1]; rfl
    rw [c1]
    simp only [Option.bind_some, if_true]
    rw [cmp_f (nextA a) a, c2]
    simp only [Option.bind_some, if_true]
    rw [cmp_f a b]
    simp only [Option.bind_some]
    by_cases h1 : cmpA a b < 0
    · rw [if_pos h1, cmp_f (nextA a) b]
      simp only [Option.bind_some]
      by_cases h2 : cmpA (nextA a) b > 0
      · have g1 := (cmp_lt' ha.1 hb.1).1 h1
        have g2 := (cmp_gt' n1.1 hb.1).1 h2
        omega
      · rw [if_neg h2]
        exact steps_j1 a b c ha hb hc
    · rw [if_neg h1]
      exact steps_j1 a b c ha hb hc
theorem AddressSteps : ∀ (x0 : Ad) (x1 : Ad) (x2 : Ad), q25 x0 → q25 x1 → q25 x2 → ∃ k, intrusionlaw06_AddressSteps.f k x0.f0 x0.f1 x0.f2 x1.f0 x1.f1 x1.f2 x2.f0 x2.f1 x2.f2 = some true := by
  intro a b c ha hb hc
  refine ⟨3, ?_⟩
  unfold intrusionlaw06_AddressSteps.f
  rw [fine_eq a, fine_eq b, fine_eq c]
  have hj : ∀ x, intrusionlaw06_AddressSteps.j0 3 true a.f0 a.f1 a.f2 b.f0 b.f1 b.f2 c.f0 c.f1 c.f2 = some x → x = true → intrusionlaw06_AddressSteps.j0 3 true a.f0 a.f1 a.f2 b.f0 b.f1 b.f2 c.f0 c.f1 c.f2 = some true := fun x h e => e ▸ h
  have hJ : intrusionlaw06_AddressSteps.j0 3 true a.f0 a.f1 a.f2 b.f0 b.f1 b.f2 c.f0 c.f1 c.f2 = some true := by rw [intrusionlaw06_AddressSteps.j0]; simp
  simp only [intrusionlaw06_lives.f, Option.bind_some, if_true]
  cases ea : fineB a
  · simpa using hJ
  · cases eb : fineB b
    · simpa using hJ
    · cases ec : fineB c
      · simpa using hJ
      · simp only [if_true, Bool.not_true]
        exact steps_j0 a b c ((fine_iff (aw_of ha)).1 ea) ((fine_iff (aw_of hb)).1 eb) ((fine_iff (aw_of hc)).1 ec)
end Go.Proofs.YtlgfinnldhjgeaaDoor.Pure
end

section
set_option linter.unusedVariables false
namespace Go.Proofs.YtlgfinnldhjgeaaDoor.Q
open Go.RowKit
theorem returns_laid {H : Type} {enc : TypeId × Value → H} {a : Assume} {C : Checked} {os : Os} {f : FuncId} {fn : Func} {s : ChangeSpec} {conds : List PathCond} {apart fresh handsOn again : Bool} {X : World → Array Value → Prop}
    (hX : ∀ (w w' : World) (args : Array Value), w.heap = w'.heap → X w args → X w' args)
    (own : ownKnob C.prog.godebug = none) (started : os.Started) (noInit : C.prog.inits.idxOf? f = none) (hfn : C.prog.funcs[f]? = some fn)
    (witness : ∃ (w : World) (tape : Tape) (i : Input), w.os = os ∧ (w.forCall tape i).Shaped C.prog ∧ i.vars = [] ∧ Input.okWide C.prog (w.forCall tape i) .any w.heap.size f i ∧
      ((s.pre enc C.prog fn conds apart (w.forCall tape i).memory i.args ∧ X (w.forCall tape i).memory i.args) ∧ sizedMet enc C.prog fn (OpenSpec.ofChange s) apart (w.forCall tape i).memory i.args) ∧ a.holds C.prog (lone (Frame.enter C.prog f i.args .normal) [] (w.forCall tape i)))
    (contract : ∀ (W : World) (base : Nat) (args : Array Value) (ds gs : List (DataW H)) (before : List MemPlace),
      (∀ (j : Nat) t v, fn.params[j]? = some t → args[j]? = some v → Value.okWide C.prog W .any base t v) →
      DataW.Whole enc C.prog fn.params.toList s.vars apart W args.toList ds gs before →
      conds.all (PathCond.test C.prog ⟨fn.params.toList, ds, s.plain.varTypes C.prog, gs⟩) = true →
      (DataW.weightsEach C.prog (fn.params.toList ++ s.plain.varTypes C.prog) (ds ++ gs)).all (· ≤ reachBytes) = true → X W args → W.ShapedOpen C.prog →
      a.holds C.prog (lone (Frame.enter C.prog f args .normal) [] W) →
      Calls C.prog f args W fun e W' => ∃ v, e = .returned v ∧ s.post enc C.prog fn apart fresh handsOn again W args v W') :
    ReturnsInHanded a C os f .any (fun w args => (s.pre enc C.prog fn conds apart w args ∧ X w args) ∧ sizedMet enc C.prog fn (OpenSpec.ofChange s) apart w args) (s.post enc C.prog fn apart fresh handsOn again) := by
  refine returnsInHanded_of_calls own started noInit witness ?_
  intro w tape i _ hsh _ hok hpre hholds
  obtain ⟨_, _, _, fn', hfn', _, _, _, _, hval⟩ := hok
  have e : fn' = fn := Option.some.inj (hfn'.symm.trans hfn)
  subst e
  obtain ⟨⟨⟨ds, gs, before, hw, hc⟩, hx⟩, hz⟩ := hpre
  have hw' := DataW.Whole.of_heap (w' := w.forCall tape i) (by rfl) hw
  refine (contract (w.forCall tape i) w.heap.size i.args ds gs before hval hw' hc (hz.weights hw) (hX _ _ _ (by rfl) hx) hsh hholds).mono fun e W' ⟨v, he, hp⟩ => ?_
  subst he
  exact ChangeSpec.post_blind hp
theorem laidVars_at {P : Program} {W : World} : ∀ {laid : List (String × DataW Unit)} {ps : List MemPlace}, DataW.LaidVars P W laid ps → ∀ (i : Nat) (n : String) (d : DataW Unit), laid[i]? = some (n, d) →
    ∃ g t cs fuel p, P.globalNamed n = some g ∧ (P.globals[g]?).map (·.type) = some t ∧ W.var? P n = some cs ∧ DataW.trod (fun _ => ()) P W 0 (fun _ => true) false fuel t cs.toList = some (d, p)
  | [], _, _, i, _, _, h => by simp at h
  | (m, c) :: r, ps, h, i, n, d, hi => by
    obtain ⟨g, t, cs, fuel, p, q, h1, h2, h3, h4, h5, _⟩ := h
    cases i with
    | zero =>
      simp only [List.getElem?_cons_zero, Option.some.injEq, Prod.mk.injEq] at hi
      obtain ⟨rfl, rfl⟩ := hi
      exact ⟨g, t, cs, fuel, p, h1, h2, h3, h4⟩
    | succ j => exact laidVars_at h5 j n d (by simpa using hi)
theorem tabIs_at {P : Program} {W : World} {laid : List (String × DataW Unit)} {name : String} {k : IntKind} {zs : List Int} {g : Nat} {t e : TypeId} {n : Nat} (i : Nat) (hi : laid[i]? = some (name, Lib.tabData k zs))
    (hg : P.globalNamed name = some g) (hty : (P.globals[g]?).map (·.type) = some t) (ht : P.underlying t = some (.array n e)) (he : P.underlying e = some (.int k)) (hce : P.cellsOf e = 1) (hct : P.cellsOf t = n)
    (h : laidMet P laid W) : Lib.TabIs P W name k zs := by
  obtain ⟨ps, h, _⟩ := h
  obtain ⟨g', t', cs, fuel, p, hg', ht', hvar, hd⟩ := laidVars_at h i _ _ hi
  obtain rfl := Option.some.inj (hg.symm.trans hg')
  obtain rfl := Option.some.inj (hty.symm.trans ht')
  unfold Lib.TabIs
  rw [hvar, ← Lib.cells_of_tab ht he hce hct hd]
def laidL : List (String × DataW Unit) := [("math/bits.deBruijn32tab", Rows.laid_math_bits_deBruijn32tab), ("math/bits.deBruijn64tab", Rows.laid_math_bits_deBruijn64tab), ("internal/strconv.uint64pow10", Rows.laid_internal_strconv_uint64pow10), ("unicode/utf8.acceptRanges", Rows.laid_unicode_utf8_acceptRanges), ("unicode/utf8.first", Rows.laid_unicode_utf8_first)]
theorem wok_of {W : World} (h : laidMetH Tryd.prog laidL W) (hs : W.ShapedOpen Tryd.prog) : WOK W := by
  rw [MakeChecks.laidMetH_plain _ _ _ (by kernel_rfl)] at h
  refine ⟨?_, ?_, ?_⟩
  · exact cell_of_shapedOpen_int (t := 3) (zero := #[.int .i64 0]) hs (by decide +kernel) (by kernel_rfl) (by kernel_rfl) (by kernel_rfl) (by kernel_rfl) Tryd.underlying3
  · exact tabIs_at (g := 1) (n := 20) 2 (by rfl) (by kernel_rfl) (t := 112) (by kernel_rfl) (by kernel_rfl) (e := 23) Tryd.underlying23 (by kernel_rfl) (by kernel_rfl) h
  · have hb : Lib.TabIs Tryd.prog W "math/bits.deBruijn64tab" .u8 (Lib.deBruijn64tab.map Int.ofNat) := tabIs_at (g := 3) (n := 64) 1 (by rfl) (by kernel_rfl) (t := 123) (by kernel_rfl) (by kernel_rfl) (e := 5) Tryd.underlying5 (by kernel_rfl) (by kernel_rfl) h
    intro j hj
    have h2 := hb.cell (g := 3) (by kernel_rfl) j (by rw [List.length_map]; exact hj)
    rw [h2, List.getD, List.getD, List.getElem?_map, List.getElem?_eq_getElem hj]
    rfl
set_option maxRecDepth 100000 in
theorem laid_world (os : Os) (args : Array Value) : laidMetH Tryd.prog laidL ((World.laidAll Tryd.prog os laidL).forCall (fun _ _ => 0) ⟨#[], args, []⟩).memory := by
  rw [MakeChecks.laidMetH_plain _ _ _ (by kernel_rfl)]
  exact laidMet_laidAll _ (by kernel_rfl) (by kernel_rfl)
end Go.Proofs.YtlgfinnldhjgeaaDoor.Q
end

section
namespace Go.Proofs.YtlgfinnldhjgeaaDoor.addressSteps
open Go.ChangeShapes Go.WideShapes Go.ChangeAt Go.RowKit Go.Proofs.YtlgfinnldhjgeaaDoorW.PrintWords Go.Proofs.YtlgfinnldhjgeaaDoor.Read Go.Proofs.YtlgfinnldhjgeaaDoor.Q
open Go.ChangeMaps (open_string shut_string)
set_option linter.unusedVariables false
theorem own : ownKnob Tryd.prog.godebug = none := by kernel_rfl
theorem laidOut : laidOutB Tryd.prog = true := by kernel_rfl
set_option maxRecDepth 100000 in
theorem lifted (os : Os) (started : os.Started) (H : Type) (enc : TypeId × Value → H) :
    ReturnsInHanded {} Tryd.checked os 5 .any (fun w args => (Rows.addressStepsSpec.pre enc Tryd.prog Tryd.f5 Rows.addressStepsRow.domain false w args ∧ laidMetH Tryd.prog laidL w) ∧ sizedMet enc Tryd.prog Tryd.f5 (OpenSpec.ofChange Rows.addressStepsSpec) false w args) (Rows.addressStepsSpec.post enc Tryd.prog Tryd.f5 false true false false) := by
  refine returns_laid (C := Tryd.checked) (X := (fun w _ => laidMetH Tryd.prog laidL w)) (fun _ _ _ hh h => h.of_heap hh) own started (by kernel_rfl) Tryd.func5
    (ChangeSpec.witness_shaped (enc := enc) (C := Tryd.checked) (os := os) (X := (fun w _ => laidMetH Tryd.prog laidL w)) false (World.laidAll Tryd.prog os laidL) #[.agg #[.bool false, .int .u64 0, .int .u64 0], .agg #[.bool false, .int .u64 0, .int .u64 0], .agg #[.bool false, .int .u64 0, .int .u64 0]] 8 (World.laidAll_os _ _ _)
      (World.shaped_of_ZipB (by kernel_rfl) (by kernel_rfl)) (by kernel_rfl) (by kernel_rfl) (by kernel_rfl) (laid_world os _)) ?_
  intro W base args ds gs before hval0 hW hcnd hsz0 hL hsh _
  have hWok := wok_of hL hsh
  have hsz : (DataW.weightsEach Tryd.prog (Tryd.f5.params.toList ++ Rows.addressStepsSpec.plain.varTypes Tryd.prog) (ds ++ gs)).all (· ≤ reachBytes) = true := hsz0
  have hval : ∀ (j : Nat) t v, Tryd.f5.params[j]? = some t → args[j]? = some v → Value.okWide Tryd.prog W .any base t v := hval0
  have hW' := hW
  obtain ⟨p, q, hA0, hV, rfl, hfz, hnd⟩ := hW
  have hA : DataW.TrodAll enc Tryd.prog W 0 (fun _ => true) true Tryd.f5.params.toList args.toList ds p := hA0
  rw [Tryd.params5] at hA hval hsz
  obtain ⟨v0, vs0, d0, ds0, p0, q0, hargs, rfl, rfl, h0, r0⟩ := trodAll_cons hA
  obtain ⟨v1, vs1, d1, ds1, p1, q1, rfl, rfl, rfl, h1, r1⟩ := trodAll_cons r0
  obtain ⟨v2, vs2, d2, ds2, p2, q2, rfl, rfl, rfl, h2, r2⟩ := trodAll_cons r1
  obtain ⟨rfl, rfl, rfl⟩ := trodAll_nil r2
  obtain rfl : args = #[v0, v1, v2] := by cases args; simp_all
  obtain ⟨rfl, rfl⟩ := trodVars_none hV
  obtain ⟨cs0, rfl, hz0⟩ := okWide_struct Tryd.underlying25 (hval 0 25 v0 rfl rfl)
  have k0_ := h0
  have lt0 : ∀ x ∈ p0, x.block < W.heap.size := by obtain ⟨m, hm⟩ := k0_; exact DataW.trod_lt m _ _ _ hm
  obtain ⟨fuel0, hf0⟩ := h0
  obtain ⟨x0, hK0, hq0⟩ := reads_k25 W H enc fuel0 _ _ hf0
  have hcs0 := k25_open hK0
  simp only [Value.cells] at hcs0
  obtain rfl : cs0 = #[.bool x0.f0, .int .u64 x0.f1, .int .u64 x0.f2] := by rw [← Array.toList_inj]; exact hcs0
  obtain ⟨cs1, rfl, hz1⟩ := okWide_struct Tryd.underlying25 (hval 1 25 v1 rfl rfl)
  have k1_ := h1
  have lt1 : ∀ x ∈ p1, x.block < W.heap.size := by obtain ⟨m, hm⟩ := k1_; exact DataW.trod_lt m _ _ _ hm
  obtain ⟨fuel1, hf1⟩ := h1
  obtain ⟨x1, hK1, hq1⟩ := reads_k25 W H enc fuel1 _ _ hf1
  have hcs1 := k25_open hK1
  simp only [Value.cells] at hcs1
  obtain rfl : cs1 = #[.bool x1.f0, .int .u64 x1.f1, .int .u64 x1.f2] := by rw [← Array.toList_inj]; exact hcs1
  obtain ⟨cs2, rfl, hz2⟩ := okWide_struct Tryd.underlying25 (hval 2 25 v2 rfl rfl)
  have k2_ := h2
  have lt2 : ∀ x ∈ p2, x.block < W.heap.size := by obtain ⟨m, hm⟩ := k2_; exact DataW.trod_lt m _ _ _ hm
  obtain ⟨fuel2, hf2⟩ := h2
  obtain ⟨x2, hK2, hq2⟩ := reads_k25 W H enc fuel2 _ _ hf2
  have hcs2 := k25_open hK2
  simp only [Value.cells] at hcs2
  obtain rfl : cs2 = #[.bool x2.f0, .int .u64 x2.f1, .int .u64 x2.f2] := by rw [← Array.toList_inj]; exact hcs2
  clear hA0 hval0 hsz0 hsz
  obtain ⟨k, hk⟩ := Pure.AddressSteps x0 x1 x2 hq0 hq1 hq2
  refine (intrusionlaw06_AddressSteps.calls k x0.f0 x0.f1 x0.f2 x1.f0 x1.f1 x1.f2 x2.f0 x2.f1 x2.f2 true W  hk hWok).mono fun e W' he => ?_
  obtain ⟨rfl, bel⟩ := he
  exact ⟨_, rfl, _, _, _, [], _, [], hW', trodAll_mk1 (shut_bool Tryd.underlying4 _), (trodAll_cons_mk (Below.trod laidOut (by kernel_rfl) (of_decide_eq_true (by kernel_rfl)) k0_ bel lt0) (trodAll_cons_mk (Below.trod laidOut (by kernel_rfl) (of_decide_eq_true (by kernel_rfl)) k1_ bel lt1) (trodAll_cons_mk (Below.trod laidOut (by kernel_rfl) (of_decide_eq_true (by kernel_rfl)) k2_ bel lt2) trodAll_mk0))), rfl, bel.frame _, fun h => by cases h⟩
theorem over : Rows.addressStepsRow.holds Tryd.pinned (OpenSpec.ofChange Rows.addressStepsSpec) :=
  OpenClaim.holds_of_wide 5 Tryd.f5 rfl rfl rfl rfl rfl rfl rfl ⟨rfl, rfl, rfl, rfl, rfl⟩ rfl rfl rfl rfl rfl (by kernel_rfl) Tryd.func5 (by kernel_rfl)
    (of_decide_eq_true (by kernel_rfl)) (by unfold Func.isWrapper; first | (rw [if_pos (by decide +kernel)]; kernel_rfl) | (rw [if_neg (by decide +kernel)]; exact ⟨rfl, rfl⟩))
    (fun os started H enc _ => lifted os started H enc)
theorem card : Rows.AddressStepsCardSaid :=
  Claim7.holds_tied_plain_at .later [] [.data, .data, .data, .data, .pinned] true (true, "a4caf97771cecc6370fff57cddc3aa8f525d50a87a13146298f7be9fbc5a6ea2") false over (fun _ h => by cases h) (by kernel_rfl) (fun _ h => by cases h) addressSteps_row_tie rfl ⟨rfl, rfl⟩ (by kernel_rfl) rfl
    (fun f fn hf hfn => by
      obtain rfl : f = 5 := Option.some.inj ((show Tryd.prog.funcNamed "intrusion/intrusionlaw06.AddressSteps" = some 5 by kernel_rfl).symm.trans hf) |>.symm
      obtain rfl : fn = Tryd.f5 := (Option.some.inj (Tryd.func5.symm.trans hfn)).symm
      exact ⟨by kernel_rfl, fun j t ht => by
        rw [Tryd.params5] at ht
        have hm : t ∈ [25, 25, 25] := by simpa using Array.mem_of_getElem? ht
        have hall : ([25, 25, 25].all fun u => !Tryd.prog.wantsStandIn u) = true := by kernel_rfl
        exact (show Tryd.prog.wantsStandIn t = false by simpa using List.all_eq_true.1 hall t hm)⟩)
    (by kernel_rfl)
#print axioms card
end Go.Proofs.YtlgfinnldhjgeaaDoor.addressSteps
namespace Go.Proofs.YtlgfinnldhjgeaaDoor
theorem addressSteps_holds : Rows.AddressStepsCardSaid := addressSteps.card
end Go.Proofs.YtlgfinnldhjgeaaDoor
end
