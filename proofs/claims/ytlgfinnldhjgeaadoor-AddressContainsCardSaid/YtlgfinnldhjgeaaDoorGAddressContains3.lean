/- The law AddressContains answers true for every input and leaves its arguments as they were. No condition. (Part 3 of 3: the kit's printed words and walks, hand-made contracts and plain laws, joined in build order, without what the theorem does not reach.) -/
import Derived.Deep.Slices
import Derived.ChangeArms
import Derived.WideShapes
import Derived.DataElems
import Derived.Lib.AppendIntMem
import Derived.IntWalk
import Derived.Test.YtlgfinnldhjgeaaDoorRows
import Derived.ProofKit
import Derived.OpenShut
import Derived.LaidMore
import Derived.Lay
import Derived.SevenTiedAt
import Derived.Stop.Joined
import Derived.Lib.LaidTab
import Derived.Shelf.Vars
import Derived.HandedShaped
import Derived.WalkKit
import Derived.ShutString
import Derived.ChangeOld
import Derived.Below
import Derived.SizedLaws
import Derived.Carry
import Derived.Test.YtlgfinnldhjgeaaDoorTie
import Derived.Test.YtlgfinnldhjgeaaDoorCards
import Derived.Test.YtlgfinnldhjgeaaDoorGAddressContains2
section
set_option linter.unusedVariables false
set_option linter.unusedSimpArgs false
namespace Go.Proofs.YtlgfinnldhjgeaaDoor.Q
open Go.RowKit Go.Proofs.YtlgfinnldhjgeaaDoorW.PrintWords Go.Proofs.YtlgfinnldhjgeaaDoorW.PrintLast Go.Proofs.YtlgfinnldhjgeaaDoorW.PrintMore
def hexD (n : Nat) : UInt8 := [48, 49, 50, 51, 52, 53, 54, 55, 56, 57, 97, 98, 99, 100, 101, 102].getD n 0
def hexL : Nat → Nat → List UInt8
  | 0, _ => []
  | k + 1, n => if n < 16 then [hexD n] else hexL k (n / 16) ++ [hexD (n % 16)]
theorem pow2_16 (w : World) : Calls Tryd.prog 100 #[.int .i64 16] w fun e w' => e = .returned (.bool true) ∧ Below w.heap.size w w' := by
  go_enter Tryd.func100, Tryd.ntmps100
  go_wp2
  go_ret
  exact ⟨rfl, by repeat (first | (with_reducible apply below_alloc) | (with_reducible apply pw_below_drewN) | (with_reducible apply below_drew1) | exact Below.refl _ _)⟩
theorem tz16 (w : World) (hW : WOK w) : Calls Tryd.prog 101 #[.int .u64 16] w fun e w' => e = .returned (.int .i64 4) ∧ Below w.heap.size w w' := by
  have h := Tryd.bits_TrailingZeros 16 (by decide) w (fun _ => hW.bit)
  rw [show Lib.ctz 64 16 = 4 from by decide] at h
  refine h.mono ?_
  rintro e w' ⟨rfl, rfl⟩
  exact ⟨rfl, Below.refl _ _⟩
theorem bits_and15 (x : Nat) (hx : x < 18446744073709551616) : Go.bits .and .u64 (x : Int) 15 = ((x % 16 : Nat) : Int) := by
  have e : ∀ y : Nat, y < 18446744073709551616 → (BitVec.ofInt 64 (y : Int)).toNat = y := fun y hy => by rw [BitVec.toNat_ofInt]; simp; omega
  unfold Go.bits
  show IntKind.u64.wrap ((((BitVec.ofInt 64 (x : Int)) &&& (BitVec.ofInt 64 ((15 : Nat) : Int))).toNat : Nat) : Int) = _
  rw [BitVec.toNat_and, e x hx, e 15 (by decide), show (15 : Nat) = 2 ^ 4 - 1 from rfl, Nat.and_two_pow_sub_one_eq_mod]
  exact IntWalk.u64_in _ ⟨by omega, by have := Nat.mod_lt x (show 0 < 2 ^ 4 by decide); omega⟩
structure HexAt (w0 : World) (g : Nat) (n0 : Nat) (wr : World) (i u : Nat) : Prop where
  arr : ∃ cs : Array Value, wr.heap[g]? = some (.cells cs 114 (0, 0)) ∧ cs.size = 65 ∧ ∃ ds : List UInt8, cs.toList.drop i = ds.map (fun d => Value.int .u8 d.toNat) ∧ ds.length = 65 - i ∧ hexL 4 n0 = hexL (i - 61) u ++ ds
  lo : 62 ≤ i
  hi : i ≤ 65
  small : u < 16 ^ (i - 61)
  bel : Below w0.heap.size w0 wr
theorem drop_set_self {l : List Value} {j : Nat} (hj : j < l.length) (v : Value) : (l.set j v).drop j = v :: l.drop (j + 1) := by
  rw [List.drop_eq_getElem_cons (by simpa using hj), List.getElem_set_self, List.drop_set_of_lt (by omega)]
theorem HexAt.put {w0 wr : World} {g n0 j n : Nat} (h : HexAt w0 g n0 wr (j + 1) n) (hn : 16 ≤ n) (hg : w0.heap.size ≤ g) (dv : UInt8) (hd : dv = hexD (n % 16)) : HexAt w0 g n0 (wr.setCell ⟨g, j, none⟩ (.int .u8 dv.toNat)) j (n / 16) := by
  obtain ⟨⟨cs, hx, hs, ds, hd1, hd2, hd3⟩, hlo, hhi, hsm, hbl⟩ := h
  have hj : 62 ≤ j := by
    rcases Nat.lt_or_ge j 62 with h | h
    · rw [show j + 1 - 61 = 1 from by omega] at hsm; omega
    · exact h
  have hk : j + 1 - 61 = (j - 61) + 1 := by omega
  rw [hk] at hsm hd3
  refine ⟨⟨_, blk_set hx j _, by simpa using hs, dv :: ds, ?_, by simp; omega, ?_⟩, hj, by omega, ?_, hbl.setCell hg _⟩
  · rw [Array.toList_setIfInBounds, drop_set_self (by simpa using by omega), hd1]
    rfl
  · rw [hd3, hexL, if_neg (by omega), hd, List.append_assoc]
    rfl
  · rw [Nat.pow_succ] at hsm
    exact Nat.div_lt_of_lt_mul (by rw [Nat.mul_comm]; exact hsm)
theorem HexAt.last {w0 wr : World} {g n0 j n : Nat} (h : HexAt w0 g n0 wr (j + 1) n) (hn : n < 16) (hg : w0.heap.size ≤ g) (dv : UInt8) (hd : dv = hexD n) :
    Below w0.heap.size w0 (wr.setCell ⟨g, j, none⟩ (.int .u8 dv.toNat)) ∧ ∃ cs : Array Value, (wr.setCell ⟨g, j, none⟩ (.int .u8 dv.toNat)).heap[g]? = some (.cells cs 114 (0, 0)) ∧ cs.size = 65 ∧ cs.toList.drop j = (hexL 4 n0).map (fun d => Value.int .u8 d.toNat) := by
  obtain ⟨⟨cs, hx, hs, ds, hd1, hd2, hd3⟩, hlo, hhi, hsm, hbl⟩ := h
  refine ⟨hbl.setCell hg _, _, blk_set hx j _, by simpa using hs, ?_⟩
  rw [Array.toList_setIfInBounds, drop_set_self (by simpa using by omega), hd1, hd3, show j + 1 - 61 = (j - 61) + 1 from by omega, hexL, if_pos hn, hd]
  rfl
theorem digit_ix : ∀ d : Nat, d < 16 → ∀ h, (⟨#[48, 49, 50, 51, 52, 53, 54, 55, 56, 57, 97, 98, 99, 100, 101, 102, 103, 104, 105, 106, 107, 108, 109, 110, 111, 112, 113, 114, 115, 116, 117, 118, 119, 120, 121, 122]⟩ : ByteArray)[d]'h = hexD d := by decide
theorem digit_at (n : Nat) (h : (Go.bits .and .u64 (n : Int) 15).toNat < (⟨#[48, 49, 50, 51, 52, 53, 54, 55, 56, 57, 97, 98, 99, 100, 101, 102, 103, 104, 105, 106, 107, 108, 109, 110, 111, 112, 113, 114, 115, 116, 117, 118, 119, 120, 121, 122]⟩ : ByteArray).size) (hb : Go.bits .and .u64 (n : Int) 15 = ((n % 16 : Nat) : Int)) :
    (⟨#[48, 49, 50, 51, 52, 53, 54, 55, 56, 57, 97, 98, 99, 100, 101, 102, 103, 104, 105, 106, 107, 108, 109, 110, 111, 112, 113, 114, 115, 116, 117, 118, 119, 120, 121, 122]⟩ : ByteArray)[(Go.bits .and .u64 (n : Int) 15).toNat]'h = hexD (n % 16) := by
  have e : (Go.bits .and .u64 (n : Int) 15).toNat = n % 16 := by rw [hb]; exact Int.toNat_natCast _
  have hlt : n % 16 < 16 := Nat.mod_lt _ (by decide)
  have key : ∀ m (hm : m < (⟨#[48, 49, 50, 51, 52, 53, 54, 55, 56, 57, 97, 98, 99, 100, 101, 102, 103, 104, 105, 106, 107, 108, 109, 110, 111, 112, 113, 114, 115, 116, 117, 118, 119, 120, 121, 122]⟩ : ByteArray).size), m = n % 16 → (⟨#[48, 49, 50, 51, 52, 53, 54, 55, 56, 57, 97, 98, 99, 100, 101, 102, 103, 104, 105, 106, 107, 108, 109, 110, 111, 112, 113, 114, 115, 116, 117, 118, 119, 120, 121, 122]⟩ : ByteArray)[m]'hm = hexD (n % 16) := fun m hm e2 => by subst e2; exact digit_ix _ hlt _
  exact key _ h e
theorem hex_slice (ga j : Nat) (hj : j < 65) (h0 : 0 < j) : ∀ W, (Instr.sliceAt 114 (.pointer (some ⟨ga, 0, none⟩)) (some (.int .i64 (j : Int))) none none).run Tryd.prog W = .ok (.slice (some ⟨ga, j, none⟩) (65 - j) (65 - j)) W := fun W => by
  have hal : Tryd.prog.arrayLen 114 = 65 := by kernel_rfl
  rw [run_sliceAt_array_l W 114 ⟨ga, 0, none⟩ (by kernel_rfl) .i64 (j : Int) (by omega) (by rw [hal]; omega), hal]
  go_simp
  omega
theorem hex_string {W : World} {ga j : Nat} {cs : Array Value} {l : List UInt8} (hx : W.heap[ga]? = some (.cells cs 114 (0, 0))) (hs : cs.size = 65) (hd : cs.toList.drop j = l.map (fun d => Value.int .u8 d.toNat)) (hj : j < 65) :
    (convert 75 9 (.slice (some ⟨ga, j, none⟩) (65 - j) (65 - j))).run Tryd.prog W = .ok (.string ⟨l.toArray⟩) W := by
  have hlen : l.length = 65 - j := by
    have := congrArg List.length hd
    simp only [List.length_drop, List.length_map, Array.length_toList] at this
    omega
  have hr : ReadsInt W .u8 (some ⟨ga, j, none⟩) (65 - j) (l.map (fun d => (d.toNat : Int))) := by
    refine ⟨by simp [hlen], by omega, fun _ => ⟨_, rfl, fun i hi => ?_⟩⟩
    have e : (⟨ga, j, none⟩ : Addr).add i = ⟨ga, j + i, none⟩ := by
      unfold Addr.add
      by_cases h0 : i = 0
      · rw [if_pos h0, h0]; rfl
      · rw [if_neg h0]
    rw [e]
    unfold World.cell?
    simp only [hx]
    have h2 := congrArg (fun q => q[i]?) hd
    simp only [List.getElem?_drop, List.getElem?_map] at h2
    rw [List.getElem?_eq_getElem (show i < l.length from by omega)] at h2
    simp only [Option.isSome_none, Bool.false_eq_true, if_false]
    rw [← Array.getElem?_toList, h2]
    simp [List.getElem?_eq_getElem (show i < l.length from by omega)]
  have := string_of_reads (P := Tryd.prog) (src := 75) (dst := 9) (e := 5) (c := 65 - j) (by kernel_rfl) (by kernel_rfl) (by kernel_rfl) hr
  have e : strOfNums (l.map (fun d => (d.toNat : Int))) = ⟨l.toArray⟩ := by
    have h2 : ∀ l : List UInt8, (l.map (fun d => (d.toNat : Int))).map (fun n => UInt8.ofNat n.toNat) = l := fun l => by
      induction l with
      | nil => rfl
      | cons a t ih => simp only [List.map_cons, ih, Int.toNat_natCast, UInt8.ofNat_toNat]
    unfold strOfNums
    rw [h2]
  rw [this, e]
set_option maxHeartbeats 4000000 in
set_option maxRecDepth 100000 in
theorem formatBits16 (u : Nat) (hu : u < 65536) (w : World) (hW : WOK w) : Calls Tryd.prog 87 #[.slice none 0 0, .int .u64 (u : Int), .int .i64 16, .bool false, .bool false] w fun e w' => e = .returned (.tuple #[.slice none 0 0, .string ⟨(hexL 4 u).toArray⟩]) ∧ Below w.heap.size w w' := by
  have HW := Aside0.mk hW
  clear hW
  go_enter Tryd.func87, Tryd.ntmps87
  go_wp2_with fail
  refine (pow2_16 _).mono ?_
  rintro e w2 ⟨rfl, hb⟩
  have hX := blk_below (heap_alloc_new w (.cells Tryd.zeroCells114 114)) hb
  have hB := (below_alloc (Below.refl w.heap.size w) (.cells Tryd.zeroCells114 114)).trans (hb.mono (by simp))
  have HX := Aside0.mk hX
  have HB := Aside0.mk hB
  have hG : w.heap.size ≤ w.heap.size := Nat.le_refl _
  revert HX hG
  clear hb hX hB
  generalize hga : w.heap.size = ga
  intro HX hG
  have HG : Aside0 (w.heap.size ≤ ga) := ⟨by omega⟩
  clear hG
  go_wp2_with fail
  refine (tz16 _ (HW.out.below (hga ▸ HB.out))).mono ?_
  rintro e w3 ⟨rfl, hb⟩
  have HX3 := Aside0.mk (blk_below HX.out hb)
  have HB3 := Aside0.mk (HB.out.trans (hb.mono (HB.out.size)))
  clear hb HX HB
  clear hga
  have H0 : Aside0 (HexAt w ga u w3 65 u) := ⟨⟨⟨_, HX3.out, by rfl, [], by rfl, rfl, by simp⟩, by omega, by omega, by simpa using hu, HB3.out⟩⟩
  clear HX3 HB3
  go_wp2_with fail
  go_loopg [1, 13] 65 (fun gg v1 v13 wr => ∃ (i n : Nat), i ≤ gg ∧ v1 = .int .u64 (n : Int) ∧ v13 = .int .i64 (i : Int) ∧ Aside0 (HexAt w ga u wr i n))
  case atStart => exact ⟨65, u, by omega, rfl, rfl, H0⟩
  case round =>
    obtain ⟨i, n, hig, rfl, rfl, HA⟩ := hrel
    clear H0
    by_cases hn : 16 ≤ n
    · have hn1 : ((n : Int) ≥ 16) = True := eq_true (by omega)
      have hn2 : decide ((n : Int) ≥ 16) = true := decide_eq_true (by omega)
      have hA := HA.out
      obtain ⟨⟨cs, hx, hs, ds, hd1, hd2, hd3⟩, hlo, hhi, hsm, hbl⟩ := hA
      have hi2 : 63 ≤ i := by
        rcases Nat.lt_or_ge i 63 with h | h
        · rw [show i - 61 = 1 from by omega] at hsm; omega
        · exact h
      obtain ⟨j, rfl⟩ : ∃ j, i = j + 1 := ⟨i - 1, by omega⟩
      have hw1 : wrap64 (j : Int) = (j : Int) := by unfold wrap64; omega
      have hw0 : ((j + 1 : Nat) : Int) - 1 = (j : Int) := by omega
      have hq0 : Go.bits .and .u64 (n : Int) 15 = ((n % 16 : Nat) : Int) := bits_and15 n (by
        have : 16 ^ (j + 1 - 61) ≤ 16 ^ 4 := Nat.pow_le_pow_right (by decide) (by omega)
        omega)
      have hq1 : (0 ≤ Go.bits .and .u64 (n : Int) 15 ∧ Go.bits .and .u64 (n : Int) 15 < 36) = True := eq_true (by rw [hq0]; omega)
      have hj1 : ((j : Int) < 65) = True := eq_true (by omega)
      have hc1 : ∃ old, wr.cell? ⟨ga, j, none⟩ = some old := by
        unfold World.cell?
        simp only [hx]
        exact ⟨_, Array.getElem?_eq_getElem (show j < cs.size from by omega)⟩
      obtain ⟨old, hc⟩ := hc1
      have hf : wr.frozen? ⟨ga, j, none⟩ = false := by
        unfold World.frozen?
        simp only [hx]
        simp
      clear hx hs hd1 hd2 hd3 hsm hbl
      have HQ0 := Aside0.mk hq0
      clear hq0
      go_wp2_with fail
      go_roundg j
      case measure => omega
      case rel => exact ⟨j, n / 16, Nat.le_refl _, by simp, rfl, ⟨HA.out.put hn HG.out _ (digit_at n _ HQ0.out)⟩⟩
    · have hA := HA.out
      obtain ⟨⟨cs, hx, hs, ds, hd1, hd2, hd3⟩, hlo, hhi, hsm, hbl⟩ := hA
      obtain ⟨j, rfl⟩ : ∃ j, i = j + 1 := ⟨i - 1, by omega⟩
      have hn1 : ((n : Int) ≥ 16) = False := eq_false (by omega)
      have hn2 : decide ((n : Int) ≥ 16) = false := decide_eq_false (by omega)
      have hw1 : wrap64 (j : Int) = (j : Int) := by unfold wrap64; omega
      have hw0 : ((j + 1 : Nat) : Int) - 1 = (j : Int) := by omega
      have hn36 : ((n : Int) < 36) = True := eq_true (by omega)
      have hj1 : ((j : Int) < 65) = True := eq_true (by omega)
      have hc1 : ∃ old, wr.cell? ⟨ga, j, none⟩ = some old := by
        unfold World.cell?
        simp only [hx]
        exact ⟨_, Array.getElem?_eq_getElem (show j < cs.size from by omega)⟩
      obtain ⟨old, hc⟩ := hc1
      have hf : wr.frozen? ⟨ga, j, none⟩ = false := by
        unfold World.frozen?
        simp only [hx]
        simp
      have HJ : Aside0 (62 ≤ j + 1 ∧ j + 1 ≤ 65) := ⟨hlo, hhi⟩
      clear hx hs hd1 hd2 hd3 hsm hbl
      go_upto_region 30 with (fail)
      have hD : ∀ h, (⟨#[48, 49, 50, 51, 52, 53, 54, 55, 56, 57, 97, 98, 99, 100, 101, 102, 103, 104, 105, 106, 107, 108, 109, 110, 111, 112, 113, 114, 115, 116, 117, 118, 119, 120, 121, 122]⟩ : ByteArray)[n]'h = hexD n := fun h => digit_ix n (by omega) h
      have hl := HA.out.last (by omega) HG.out (hexD n) rfl
      simp only [hD]
      obtain ⟨hb, cs, hx, hs, hd⟩ := hl
      have hj2 := HJ.out
      have hsl := hex_slice ga j (by omega) (by omega)
      have hst := hex_string hx hs hd (by omega)
      have HB := Aside0.mk hb
      clear hx hs hd hb hc hf HA hD
      generalize wr.setCell ⟨ga, j, none⟩ (.int .u8 (hexD n).toNat) = W at hst HB ⊢
      go_wp2_with fail
      exact bodyPost_ret (v := .tuple #[.slice none 0 0, .string ⟨(hexL 4 u).toArray⟩]) (by simp [results, Tryd.results87, go_sem]) rfl ⟨rfl, HB.out⟩
set_option maxHeartbeats 1000000 in
theorem formatUint16 (u : Nat) (hu : u < 65536) (w : World) (hW : WOK w) : Calls Tryd.prog 76 #[.int .u64 (u : Int), .int .i64 16] w fun e w' => e = .returned (.string ⟨(hexL 4 u).toArray⟩) ∧ Below w.heap.size w w' := by
  go_enter Tryd.func76, Tryd.ntmps76
  go_wp2_with fail
  refine (formatBits16 u hu _ (hW.below (by repeat (first | (with_reducible apply below_alloc) | (with_reducible apply pw_below_drewN) | (with_reducible apply below_drew1) | exact Below.refl _ _)))).mono ?_
  rintro e w2 ⟨rfl, hb⟩
  have HB := Aside0.mk hb
  clear hb
  go_wp2_with fail
  go_ret
  exact ⟨rfl, by first | exact HB.out | exact (below_alloc (Below.refl _ _) _).trans (HB.out.mono (by simp))⟩
set_option maxHeartbeats 1000000 in
theorem formatUint16p (u : Nat) (hu : u < 65536) (w : World) (hW : WOK w) : Calls Tryd.prog 58 #[.int .u64 (u : Int), .int .i64 16] w fun e w' => e = .returned (.string ⟨(hexL 4 u).toArray⟩) ∧ Below w.heap.size w w' := by
  go_enter Tryd.func58, Tryd.ntmps58
  go_wp2_with fail
  refine (formatUint16 u hu _ (hW.below (by repeat (first | (with_reducible apply below_alloc) | (with_reducible apply pw_below_drewN) | (with_reducible apply below_drew1) | exact Below.refl _ _)))).mono ?_
  rintro e w2 ⟨rfl, hb⟩
  have HB := Aside0.mk hb
  clear hb
  go_wp2_with fail
  go_ret
  exact ⟨rfl, by first | exact HB.out | exact (below_alloc (Below.refl _ _) _).trans (HB.out.mono (by simp))⟩
def strconv_FormatUint.f (i : Int) (base : Int) : Option ByteArray := if base = 16 then if 0 ≤ i ∧ i < 65536 then some ⟨(hexL 4 i.toNat).toArray⟩ else none else none
theorem strconv_FormatUint.calls (i base : Int) (r : ByteArray) (w : World) (h : strconv_FormatUint.f i base = some r) (hW : WOK w) :
    Calls Tryd.prog 58 #[.int .u64 i, .int .i64 base] w fun e w' => e = .returned (.string r) ∧ Below w.heap.size w w' := by
  unfold strconv_FormatUint.f at h
  split at h
  case isFalse => cases h
  rename_i hb
  subst hb
  split at h
  case isFalse => cases h
  rename_i hi
  injection h with h
  subst h
  have := formatUint16p i.toNat (by omega) w hW
  rw [show ((i.toNat : Nat) : Int) = i from by omega] at this
  exact this
end Go.Proofs.YtlgfinnldhjgeaaDoor.Q
end

section
set_option linter.unusedVariables false
set_option linter.unusedSimpArgs false
namespace Go.Proofs.YtlgfinnldhjgeaaDoor.Q
open Go.RowKit Go.Proofs.YtlgfinnldhjgeaaDoorW.PrintWords Go.Proofs.YtlgfinnldhjgeaaDoorW.PrintLast Go.Proofs.YtlgfinnldhjgeaaDoorW.PrintMore
theorem blk_apart {α : Type} {d : Kd α} {W w1 : World} {g base : Nat} {cs : Array Value} {t e : TypeId} {ok : Nat → Prop} {v : Value} {xs : List α} (hX : W.heap[g]? = some (.cells cs t (0, 0))) (ht : t ≠ e) (hR : d.R e W base ok v xs) (hg : W.grownBy w1 v.ownBlock) : w1.heap[g]? = some (.cells cs t (0, 0)) :=
  blk_grown hX hg (fun h => by
    obtain ⟨c, hc⟩ := Kd.R_typed hR g h.symm
    rw [hX] at hc
    injection hc with hc
    injection hc with _ hc
    exact ht hc)
def decB (n : Int) : ByteArray := ⟨(Lib.itoa n).toArray⟩
theorem itoa_b {x : Int} (h : 0 ≤ Go.bits .and .u64 x 255 ∧ Go.bits .and .u64 x 255 < 256) : strconv_Itoa.f (wrap64 (Go.bits .and .u64 x 255)) = some (decB (Go.bits .and .u64 x 255)) := by
  have e : wrap64 (Go.bits .and .u64 x 255) = Go.bits .and .u64 x 255 := by unfold wrap64; omega
  unfold strconv_Itoa.f decB
  rw [e, if_pos (by omega)]
theorem and255 (x : Int) : 0 ≤ Go.bits .and .u64 x 255 ∧ Go.bits .and .u64 x 255 < 256 := by
  unfold Go.bits
  have h1 : ((BitVec.ofInt 64 x) &&& (BitVec.ofInt 64 255)).toNat < 256 := by
    rw [BitVec.toNat_and, show (BitVec.ofInt 64 255).toNat = 2 ^ 8 - 1 from by decide, Nat.and_two_pow_sub_one_eq_mod]
    exact Nat.mod_lt _ (by decide)
  show 0 ≤ IntKind.u64.wrap _ ∧ IntKind.u64.wrap _ < 256
  rw [IntWalk.u64_in _ ⟨by show (0 : Int) ≤ (((BitVec.ofInt 64 x) &&& (BitVec.ofInt 64 255)).toNat : Int); omega, by show (((BitVec.ofInt 64 x) &&& (BitVec.ofInt 64 255)).toNat : Int) ≤ _; omega⟩]
  exact ⟨by show (0 : Int) ≤ (((BitVec.ofInt 64 x) &&& (BitVec.ofInt 64 255)).toNat : Int); omega, by show (((BitVec.ofInt 64 x) &&& (BitVec.ofInt 64 255)).toNat : Int) < 256; omega⟩
set_option maxHeartbeats 4000000 in
set_option maxRecDepth 100000 in
theorem format4 (hi lo : Int) (r : ByteArray) (w : World) (hr : strings_Join.f [decB (Go.bits .and .u64 (lo / 16777216) 255), decB (Go.bits .and .u64 (lo / 65536) 255), decB (Go.bits .and .u64 (lo / 256) 255), decB (Go.bits .and .u64 (lo) 255)] (⟨#[46]⟩ : ByteArray) = some r) (hW : WOK w) : Calls Tryd.prog 33 #[.agg #[.bool false, .int .u64 hi, .int .u64 lo]] w fun e w' => e = .returned (.string r) ∧ Below w.heap.size w w' := by
  have HW := Aside0.mk hW
  have HJ := Aside0.mk hr
  clear hW hr
  have HX : Aside0 ((w.alloc (.cells #[.bool false, .int .u64 hi, .int .u64 lo] 25)).heap[w.heap.size]? = some (.cells #[.bool false, .int .u64 hi, .int .u64 lo] 25 (0, 0))) := ⟨heap_alloc_new _ _⟩
  have HB : Aside0 (Below w.heap.size w (w.alloc (.cells #[.bool false, .int .u64 hi, .int .u64 lo] 25))) := ⟨below_alloc (Below.refl _ _) _⟩
  have HO : Aside0 (Kd.R Kd.string 9 (w.alloc (.cells #[.bool false, .int .u64 hi, .int .u64 lo] 25)) w.heap.size (fun _ => True) (.slice none 0 0) ([] : List ByteArray)) := ⟨Kd.R_nil _ _ _ _ _⟩
  go_enter Tryd.func33, Tryd.ntmps33
  go_upto_region 3 with (fail)
  obtain ⟨g, hg⟩ : ∃ g, w.heap.size = g := ⟨_, rfl⟩
  rw [hg] at HX
  simp only [hg]
  clear hg
  generalize w.alloc (.cells #[.bool false, .int .u64 hi, .int .u64 lo] 25) = W at HX HB HO ⊢
  go_upto_region 4 with (fail)
  refine wp_loop_rounds 5 ?_
  have hc : W.cell? ⟨g, 2, none⟩ = some (.int .u64 lo) := (blk_cell HX.out 2).trans rfl
  rw [rounds_succ]
  go_wp2_with fail
  clear hc
  refine (strconv_Itoa.calls _ _ _ (itoa_b (and255 _)) (HW.out.below HB.out)).mono ?_
  rintro e w2 ⟨rfl, hb⟩
  replace HX := Aside0.mk (blk_below HX.out hb)
  replace HO := Aside0.mk (Kd.R_below HO.out hb)
  replace HB := Aside0.mk (below_step HB.out hb)
  clear hb
  go_wp2_with (first | ((with_reducible refine gate_builtin (b := .append) (xs := #[.tmp 17, .tmp 27]) rfl ?_); at_builtin; refine Kd.R_append Kd.string (w0 := w) w.heap.size rfl (.tmp 17) (.tmp 27) 56 9 (.string ⟨#[]⟩) 16 rfl Tryd.underlying56 info9 rfl (by decide) (by omega) _ ([] : List ByteArray) (decB (Go.bits .and .u64 (lo / 16777216) 255)) [.string (decB (Go.bits .and .u64 (lo / 16777216) 255))] (fun _ => True) (fun _ => False) rfl rfl ?aP (fun _ hk => hk.elim) ?aF ?aO ?aB ?aS ?aL ?_; (case aP => exact rfl); (case aB => exact HB.out); (case aF => exact (fun _ _ => trivial)); (case aO => exact HO.out); (case aS => exact (below_size HB.out)); (case aL => simp); intro v0 W0 ho hb hg hat; replace HX := Aside0.mk (blk_apart HX.out (by decide) HO.out hg); replace HB := Aside0.mk hb; replace HO := Aside0.mk ho; clear ho hb hg hat))
  have hc : W0.cell? ⟨g, 2, none⟩ = some (.int .u64 lo) := (blk_cell HX.out 2).trans rfl
  rw [rounds_succ]
  go_wp2_with fail
  clear hc
  refine (strconv_Itoa.calls _ _ _ (itoa_b (and255 _)) (HW.out.below HB.out)).mono ?_
  rintro e w2 ⟨rfl, hb⟩
  replace HX := Aside0.mk (blk_below HX.out hb)
  replace HO := Aside0.mk (Kd.R_below HO.out hb)
  replace HB := Aside0.mk (below_step HB.out hb)
  clear hb
  go_wp2_with (first | ((with_reducible refine gate_builtin (b := .append) (xs := #[.tmp 17, .tmp 27]) rfl ?_); at_builtin; refine Kd.R_append Kd.string (w0 := w) w.heap.size rfl (.tmp 17) (.tmp 27) 56 9 (.string ⟨#[]⟩) 16 rfl Tryd.underlying56 info9 rfl (by decide) (by omega) _ [decB (Go.bits .and .u64 (lo / 16777216) 255)] (decB (Go.bits .and .u64 (lo / 65536) 255)) [.string (decB (Go.bits .and .u64 (lo / 65536) 255))] (fun _ => True) (fun _ => False) rfl rfl ?aP (fun _ hk => hk.elim) ?aF ?aO ?aB ?aS ?aL ?_; (case aP => exact rfl); (case aB => exact HB.out); (case aF => exact (fun _ _ => trivial)); (case aO => exact HO.out); (case aS => exact (below_size HB.out)); (case aL => simp); intro v1 W1 ho hb hg hat; replace HX := Aside0.mk (blk_apart HX.out (by decide) HO.out hg); replace HB := Aside0.mk hb; replace HO := Aside0.mk ho; clear ho hb hg hat))
  have hc : W1.cell? ⟨g, 2, none⟩ = some (.int .u64 lo) := (blk_cell HX.out 2).trans rfl
  rw [rounds_succ]
  go_wp2_with fail
  clear hc
  refine (strconv_Itoa.calls _ _ _ (itoa_b (and255 _)) (HW.out.below HB.out)).mono ?_
  rintro e w2 ⟨rfl, hb⟩
  replace HX := Aside0.mk (blk_below HX.out hb)
  replace HO := Aside0.mk (Kd.R_below HO.out hb)
  replace HB := Aside0.mk (below_step HB.out hb)
  clear hb
  go_wp2_with (first | ((with_reducible refine gate_builtin (b := .append) (xs := #[.tmp 17, .tmp 27]) rfl ?_); at_builtin; refine Kd.R_append Kd.string (w0 := w) w.heap.size rfl (.tmp 17) (.tmp 27) 56 9 (.string ⟨#[]⟩) 16 rfl Tryd.underlying56 info9 rfl (by decide) (by omega) _ [decB (Go.bits .and .u64 (lo / 16777216) 255), decB (Go.bits .and .u64 (lo / 65536) 255)] (decB (Go.bits .and .u64 (lo / 256) 255)) [.string (decB (Go.bits .and .u64 (lo / 256) 255))] (fun _ => True) (fun _ => False) rfl rfl ?aP (fun _ hk => hk.elim) ?aF ?aO ?aB ?aS ?aL ?_; (case aP => exact rfl); (case aB => exact HB.out); (case aF => exact (fun _ _ => trivial)); (case aO => exact HO.out); (case aS => exact (below_size HB.out)); (case aL => simp); intro v2 W2 ho hb hg hat; replace HX := Aside0.mk (blk_apart HX.out (by decide) HO.out hg); replace HB := Aside0.mk hb; replace HO := Aside0.mk ho; clear ho hb hg hat))
  have hc : W2.cell? ⟨g, 2, none⟩ = some (.int .u64 lo) := (blk_cell HX.out 2).trans rfl
  rw [rounds_succ]
  go_wp2_with fail
  clear hc
  refine (strconv_Itoa.calls _ _ _ (itoa_b (and255 _)) (HW.out.below HB.out)).mono ?_
  rintro e w2 ⟨rfl, hb⟩
  replace HX := Aside0.mk (blk_below HX.out hb)
  replace HO := Aside0.mk (Kd.R_below HO.out hb)
  replace HB := Aside0.mk (below_step HB.out hb)
  clear hb
  go_wp2_with (first | ((with_reducible refine gate_builtin (b := .append) (xs := #[.tmp 17, .tmp 27]) rfl ?_); at_builtin; refine Kd.R_append Kd.string (w0 := w) w.heap.size rfl (.tmp 17) (.tmp 27) 56 9 (.string ⟨#[]⟩) 16 rfl Tryd.underlying56 info9 rfl (by decide) (by omega) _ [decB (Go.bits .and .u64 (lo / 16777216) 255), decB (Go.bits .and .u64 (lo / 65536) 255), decB (Go.bits .and .u64 (lo / 256) 255)] (decB (Go.bits .and .u64 (lo) 255)) [.string (decB (Go.bits .and .u64 (lo) 255))] (fun _ => True) (fun _ => False) rfl rfl ?aP (fun _ hk => hk.elim) ?aF ?aO ?aB ?aS ?aL ?_; (case aP => exact rfl); (case aB => exact HB.out); (case aF => exact (fun _ _ => trivial)); (case aO => exact HO.out); (case aS => exact (below_size HB.out)); (case aL => simp); intro v3 W3 ho hb hg hat; replace HX := Aside0.mk (blk_apart HX.out (by decide) HO.out hg); replace HB := Aside0.mk hb; replace HO := Aside0.mk ho; clear ho hb hg hat))
  rw [rounds_succ]
  obtain ⟨A, c, e⟩ := Kd.R_slice HO.out
  subst e
  go_wp2_with fail
  refine (strings_Join.calls A c _ _ r _ (Kd.R_reads' HO.out).2.2 (Kd.R_reads' HO.out).2.1 HJ.out).mono ?_
  rintro e w2 ⟨rfl, hb⟩
  replace HB := Aside0.mk (below_step HB.out hb)
  clear hb
  go_wp2_with fail
  exact bodyPost_ret (v := .string r) (by simp [results, Tryd.results33, go_sem]) rfl ⟨rfl, HB.out⟩
theorem and65535 (x : Int) : 0 ≤ Go.bits .and .u64 x 65535 ∧ Go.bits .and .u64 x 65535 < 65536 := by
  unfold Go.bits
  have h1 : ((BitVec.ofInt 64 x) &&& (BitVec.ofInt 64 65535)).toNat < 65536 := by
    rw [BitVec.toNat_and, show (BitVec.ofInt 64 65535).toNat = 2 ^ 16 - 1 from by decide, Nat.and_two_pow_sub_one_eq_mod]
    exact Nat.mod_lt _ (by decide)
  show 0 ≤ IntKind.u64.wrap _ ∧ IntKind.u64.wrap _ < 65536
  rw [IntWalk.u64_in _ ⟨by show (0 : Int) ≤ (((BitVec.ofInt 64 x) &&& (BitVec.ofInt 64 65535)).toNat : Int); omega, by show (((BitVec.ofInt 64 x) &&& (BitVec.ofInt 64 65535)).toNat : Int) ≤ _; omega⟩]
  exact ⟨by show (0 : Int) ≤ (((BitVec.ofInt 64 x) &&& (BitVec.ofInt 64 65535)).toNat : Int); omega, by show (((BitVec.ofInt 64 x) &&& (BitVec.ofInt 64 65535)).toNat : Int) < 65536; omega⟩
def grpL (hi lo : Int) : List Int := [Go.bits .and .u64 (hi / 281474976710656) 65535, Go.bits .and .u64 (hi / 4294967296) 65535, Go.bits .and .u64 (hi / 65536) 65535, Go.bits .and .u64 (hi) 65535, Go.bits .and .u64 (lo / 281474976710656) 65535, Go.bits .and .u64 (lo / 4294967296) 65535, Go.bits .and .u64 (lo / 65536) 65535, Go.bits .and .u64 (lo) 65535]
def fmtT (l : List Int) (p q : Nat) : Nat → Nat → ByteArray → ByteArray
  | 0, _, o => o
  | d + 1, i, o => if i < 8 then (if i = p ∧ 1 < q - p then fmtT l p q d q (o ++ ⟨#[58, 58]⟩) else fmtT l p q d (i + 1) ((if o.toList ≠ [] ∧ Lib.hasSuffix o.data.toList [58] = false then o ++ ⟨#[58]⟩ else o) ++ ⟨(hexL 4 (l.getD i 0).toNat).toArray⟩)) else o
theorem runF_le (l : List Int) : ∀ (d i a b : Nat), a ≤ b → b ≤ 8 → i + d ≤ 8 → (runF l d i (a, b)).1 ≤ (runF l d i (a, b)).2 ∧ (runF l d i (a, b)).2 ≤ 8
  | 0, i, a, b, h1, h2, _ => ⟨h1, h2⟩
  | d + 1, i, a, b, h1, h2, h3 => by
    unfold runF
    split
    · have := zEnd_le l (8 - i) i
      exact runF_le l d (i + 1) _ _ this.1 (by omega) (by omega)
    · exact runF_le l d (i + 1) _ _ h1 h2 (by omega)
theorem runF_ok (l : List Int) : (runF l 8 0 (0, 0)).1 ≤ (runF l 8 0 (0, 0)).2 ∧ (runF l 8 0 (0, 0)).2 ≤ 8 := runF_le l 8 0 0 0 (by omega) (by omega) (by omega)
structure TxtI (l : List Int) (p q gg i : Nat) (o r : ByteArray) : Prop where
  m : 8 - i ≤ gg
  i8 : i ≤ 8
  res : fmtT l p q gg i o = r
  sz : o.size + 8 * gg ≤ 64
theorem TxtI.pos {l : List Int} {p q gg i : Nat} {o r : ByteArray} (h : TxtI l p q gg i o r) (hi : i < 8) : ∃ m, gg = m + 1 := ⟨gg - 1, by have := h.m; omega⟩
theorem TxtI.fin {l : List Int} {p q gg i : Nat} {o r : ByteArray} (h : TxtI l p q gg i o r) (hi : ¬ i < 8) : o = r := by
  have := h.res
  cases gg with
  | zero => exact this
  | succ d => rw [fmtT, if_neg hi] at this; exact this
theorem TxtI.gap {l : List Int} {p q d i : Nat} {o r : ByteArray} (h : TxtI l p q (d + 1) i o r) (hi : i < 8) (hp : i = p) (hq : 1 < q - p) (hq8 : q ≤ 8) : TxtI l p q d q (o ++ ⟨#[58, 58]⟩) r := by
  obtain ⟨h1, h2, h3, h4⟩ := h
  refine ⟨by omega, hq8, ?_, ?_⟩
  · rw [fmtT, if_pos hi, if_pos ⟨hp, hq⟩] at h3; exact h3
  · rw [ByteArray.size_append, show (⟨#[58, 58]⟩ : ByteArray).size = 2 from rfl]; omega
theorem hexL_len : ∀ (k n : Nat), (hexL k n).length ≤ k
  | 0, _ => Nat.le_refl _
  | k + 1, n => by
    unfold hexL
    split
    · simp
    · have := hexL_len k (n / 16); simp; omega
theorem hexL_size (k n : Nat) : (⟨(hexL k n).toArray⟩ : ByteArray).size ≤ k := by
  show (hexL k n).toArray.size ≤ k
  rw [List.size_toArray]
  exact hexL_len k n
theorem TxtI.hexA {l : List Int} {p q d i : Nat} {o r : ByteArray} {x : Int} (hx : l.getD i 0 = x) (h : TxtI l p q (d + 1) i o r) (hi : i < 8) (hp : ¬ (i = p ∧ 1 < q - p)) (hs : ¬ (o.toList ≠ [] ∧ Lib.hasSuffix o.data.toList [58] = false)) : TxtI l p q d (i + 1) (o ++ ⟨(hexL 4 x.toNat).toArray⟩) r := by
  subst hx
  obtain ⟨h1, h2, h3, h4⟩ := h
  refine ⟨by omega, by omega, ?_, ?_⟩
  · rw [fmtT, if_pos hi, if_neg hp, if_neg hs] at h3; exact h3
  · have := hexL_size 4 (l.getD i 0).toNat
    rw [ByteArray.size_append]; omega
theorem TxtI.hexB {l : List Int} {p q d i : Nat} {o r : ByteArray} {x : Int} (hx : l.getD i 0 = x) (h : TxtI l p q (d + 1) i o r) (hi : i < 8) (hp : ¬ (i = p ∧ 1 < q - p)) (hs : o.toList ≠ [] ∧ Lib.hasSuffix o.data.toList [58] = false) : TxtI l p q d (i + 1) (o ++ ⟨#[58]⟩ ++ ⟨(hexL 4 x.toNat).toArray⟩) r := by
  subst hx
  obtain ⟨h1, h2, h3, h4⟩ := h
  refine ⟨by omega, by omega, ?_, ?_⟩
  · rw [fmtT, if_pos hi, if_neg hp, if_pos hs] at h3; exact h3
  · have := hexL_size 4 (l.getD i 0).toNat
    rw [ByteArray.size_append, ByteArray.size_append, show (⟨#[58]⟩ : ByteArray).size = 1 from rfl]; omega
theorem hex_u {x : Int} (h : 0 ≤ x ∧ x < 65536) : strconv_FormatUint.f x 16 = some ⟨(hexL 4 x.toNat).toArray⟩ := by unfold strconv_FormatUint.f; rw [if_pos rfl, if_pos h]
theorem suf_u {o : ByteArray} (h : o.size ≤ 64) : strings_HasSuffix.f o ⟨#[58]⟩ = some (Lib.hasSuffix o.data.toList [58]) := by unfold strings_HasSuffix.f; rw [if_pos (by omega)]
theorem i_eq {i p : Nat} (h : i = p) : ((i : Int) == (p : Int)) = true := by simp [h]
theorem i_ne {i p : Nat} (h : ¬ i = p) : ((i : Int) == (p : Int)) = false := beq_eq_false_iff_ne.mpr (fun e => h (by omega))
theorem i_eqd {i p : Nat} (h : i = p) : decide ((i : Int) = (p : Int)) = true := by simp [h]
theorem i_ned {i p : Nat} (h : ¬ i = p) : decide ((i : Int) = (p : Int)) = false := decide_eq_false (fun e => h (by omega))
theorem q_gt {p q : Nat} (h : 1 < q - p) (h8 : q ≤ 8) : decide (wrap64 ((q : Int) - (p : Int)) > 1) = true := decide_eq_true (by unfold wrap64; omega)
theorem q_ngt {p q : Nat} (h : ¬ 1 < q - p) (h8 : p ≤ q ∧ q ≤ 8) : decide (wrap64 ((q : Int) - (p : Int)) > 1) = false := decide_eq_false (by unfold wrap64; omega)
theorem sz_2 {l : List Int} {p q d i : Nat} {o r : ByteArray} (h : TxtI l p q d i o r) : (9223372036854775807 < o.size + 2) = False := eq_false (by have := h.sz; omega)
theorem sz_1 {l : List Int} {p q d i : Nat} {o r : ByteArray} (h : TxtI l p q d i o r) : (9223372036854775807 < o.size + 1) = False := eq_false (by have := h.sz; omega)
theorem sz_h {l : List Int} {p q d i : Nat} {o t r : ByteArray} (h : TxtI l p q d i (o ++ t) r) : (9223372036854775807 < o.size + t.size) = False := eq_false (by have := h.sz; rw [ByteArray.size_append] at this; omega)
theorem q_next {p q : Nat} (h : 1 < q - p) (h8 : q ≤ 8) : wrap64 (wrap64 ((q : Int) - 1) + 1) = (q : Int) := by unfold wrap64; omega
theorem run_g (hi lo : Int) (w : World) : Calls Tryd.prog 56 #[.agg #[.int .u64 (Go.bits .and .u64 (hi / 281474976710656) 65535), .int .u64 (Go.bits .and .u64 (hi / 4294967296) 65535), .int .u64 (Go.bits .and .u64 (hi / 65536) 65535), .int .u64 (Go.bits .and .u64 (hi) 65535), .int .u64 (Go.bits .and .u64 (lo / 281474976710656) 65535), .int .u64 (Go.bits .and .u64 (lo / 4294967296) 65535), .int .u64 (Go.bits .and .u64 (lo / 65536) 65535), .int .u64 (Go.bits .and .u64 (lo) 65535)]] w fun e w' => e = .returned (.tuple #[.int .i64 ((runF (grpL hi lo) 8 0 (0, 0)).1 : Nat), .int .i64 ((runF (grpL hi lo) 8 0 (0, 0)).2 : Nat)]) ∧ Below w.heap.size w w' := address_run.calls _ _ _ _ _ _ _ _ w
def fmt6 (hi lo : Int) : ByteArray := fmtT (grpL hi lo) (runF (grpL hi lo) 8 0 (0, 0)).1 (runF (grpL hi lo) 8 0 (0, 0)).2 8 0 ⟨#[]⟩
def fmt.T13 : Bool × List (List Nat × List Nat) := (true, [([], []), ([], []), ([1], [1]), ([], []), ([3], [3]), ([], []), ([5], [5]), ([6], [6]), ([4, 7], [4, 7]), ([8], [8]), ([], []), ([10], [10]), ([], []), ([12], [12]), ([13], [13]), ([11, 14], [11, 14]), ([15], [15]), ([0, 0, 3, 4, 5, 6, 7, 8, 9], [0]), ([17, 9, 0, 3, 4, 5, 6, 7, 8, 9], [9, 17]), ([2, 0, 1, 2, 3, 4, 5, 6, 7, 8, 9, 10, 11, 12, 13, 14, 15, 16, 17, 18], [2]), ([19, 16, 18, 0, 1, 2, 3, 4, 5, 6, 7, 8, 9, 10, 11, 12, 13, 14, 15, 16, 17, 18], [16, 19])])
def fmt.B13 : List Nat := [0, 0, 2, 0, 8, 0, 32, 96, 248, 504, 0, 1024, 0, 4096, 12288, 31744, 64512, 1017, 132089, 524287, 1048575]
theorem fmt.tab13 : rtab .any (opsOf Tryd.f33 13) = fmt.T13 := by kernel_rfl
theorem fmt.bits13 : waitsOk fmt.T13.2 fmt.B13 = true := by kernel_rfl
set_option maxHeartbeats 4000000 in
set_option maxRecDepth 100000 in
theorem format6 (hi lo : Int) (w : World) (hW : WOK w) : Calls Tryd.prog 33 #[.agg #[.bool true, .int .u64 hi, .int .u64 lo]] w fun e w' => e = .returned (.string (fmt6 hi lo)) ∧ Below w.heap.size w w' := by
  have HW := Aside0.mk hW
  clear hW
  obtain ⟨r, hr⟩ : ∃ r, fmt6 hi lo = r := ⟨_, rfl⟩
  have HR := Aside0.mk hr
  rw [hr]
  clear hr
  have HX : Aside0 ((w.alloc (.cells #[.bool true, .int .u64 hi, .int .u64 lo] 25)).heap[w.heap.size]? = some (.cells #[.bool true, .int .u64 hi, .int .u64 lo] 25 (0, 0))) := ⟨heap_alloc_new _ _⟩
  have HB : Aside0 (Below w.heap.size w (w.alloc (.cells #[.bool true, .int .u64 hi, .int .u64 lo] 25))) := ⟨below_alloc (Below.refl _ _) _⟩
  go_enter Tryd.func33, Tryd.ntmps33
  go_upto_region 9 with (fail)
  obtain ⟨g, hg⟩ : ∃ g, w.heap.size = g := ⟨_, rfl⟩
  rw [hg] at HX
  simp only [hg]
  clear hg
  generalize w.alloc (.cells #[.bool true, .int .u64 hi, .int .u64 lo] 25) = W at HX HB ⊢
  have HY : Aside0 ((W.alloc (.cells #[.int .u64 0, .int .u64 0, .int .u64 0, .int .u64 0, .int .u64 0, .int .u64 0, .int .u64 0, .int .u64 0] 68)).heap[W.heap.size]? = some (.cells #[.int .u64 0, .int .u64 0, .int .u64 0, .int .u64 0, .int .u64 0, .int .u64 0, .int .u64 0, .int .u64 0] 68 (0, 0))) := ⟨heap_alloc_new _ _⟩
  have HL := Aside0.mk (blk_lt HX.out)
  replace HX := Aside0.mk (blk_alloc HX.out (.cells #[.int .u64 0, .int .u64 0, .int .u64 0, .int .u64 0, .int .u64 0, .int .u64 0, .int .u64 0, .int .u64 0] 68))
  have HG := Aside0.mk HB.out.size
  replace HB := Aside0.mk (below_alloc HB.out (.cells #[.int .u64 0, .int .u64 0, .int .u64 0, .int .u64 0, .int .u64 0, .int .u64 0, .int .u64 0, .int .u64 0] 68))
  go_upto_region 11 with (fail)
  obtain ⟨ga, hga⟩ : ∃ ga, W.heap.size = ga := ⟨_, rfl⟩
  rw [hga] at HY HG HL
  simp only [hga]
  clear hga
  have HN := Aside0.mk (Nat.ne_of_lt HL.out)
  clear HL
  generalize W.alloc (.cells #[.int .u64 0, .int .u64 0, .int .u64 0, .int .u64 0, .int .u64 0, .int .u64 0, .int .u64 0, .int .u64 0] 68) = W0 at HX HY HB ⊢
  refine wp_loop_rounds 5 ?_
  rw [rounds_succ]
  go_upto_region 13 with (fail)
  refine start_ (n := 21) (S := fun w' => w'.cell? ⟨g, 1, none⟩ = some (.int .u64 hi) ∧ w'.cell? ⟨g, 2, none⟩ = some (.int .u64 lo)) (ds := [20]) #[false, false, false, false, false, false, false, false, false, false, false, false, false, false, false, false, false, false, false, false, false] (by kernel_rfl) rfl rfl ⟨(blk_cell (blk_drew HX.out) 1).trans rfl, (blk_cell (blk_drew HX.out) 2).trans rfl⟩ (fun hHeld => ?_)
  refine with_tabW fmt.tab13 fmt.bits13 (fun HT_ HW_ => ?_)
  replace HX := Aside0.mk (blk_drew HX.out)
  replace HY := Aside0.mk (blk_drew HY.out)
  replace HB := Aside0.mk (below_drew1 HB.out)
  generalize W0.drew = V0 at HX HY HB hHeld ⊢
  refine zp 0 35 HT_ ?_; refine zp 1 36 HT_ ?_; refine zp (v := .int .i64 4) 2 37 HT_ ?_ (hy := fun _ => rfl); refine zp 3 38 HT_ ?_; refine zt 4 39 HT_ HW_ hHeld ?_; refine zp 5 40 HT_ ?_; refine zp (v := .int .i64 0) 6 41 HT_ ?_ (hy := fun _ => rfl); refine zp (v := .int .i64 48) 7 42 HT_ ?_ (hy := fun _ => rfl); refine zp 8 43 HT_ ?_; refine zp 9 44 HT_ ?_; refine zp 10 45 HT_ ?_; refine zt 11 46 HT_ HW_ hHeld ?_; refine zp 12 47 HT_ ?_; refine zp (v := .int .i64 0) 13 48 HT_ ?_ (hy := fun _ => rfl); refine zp (v := .int .i64 48) 14 49 HT_ ?_ (hy := fun _ => rfl); refine zp 15 50 HT_ ?_; refine zp 16 51 HT_ ?_; refine zp 17 52 HT_ ?_
  have hc : V0.cell? ⟨ga, 0, none⟩ = some (.int .u64 0) := (blk_cell HY.out 0).trans rfl
  have hf : V0.frozen? ⟨ga, 0, none⟩ = false := blk_frozen HY.out 0
  refine one_ (i := 18) (N := none) #[true, true, true, true, true, true, true, true, true, true, true, true, true, true, true, true, true, true, true, false, false] rfl rfl (one_of HT_.out (by kernel_rfl)) (by decide) (fun K hK => ?_)
  refine skip_ (w1 := V0.setCell ⟨ga, 0, none⟩ (.int .u64 (Go.bits .and .u64 (hi / 281474976710656) 65535))) (by rfl) rfl (by go_simp) ?_
  clear hc hf
  replace HX := Aside0.mk (blk_far HX.out (p := ⟨ga, 0, none⟩) HN.out (.int .u64 (Go.bits .and .u64 (hi / 281474976710656) 65535)))
  replace HY : Aside0 ((V0.setCell ⟨ga, 0, none⟩ (.int .u64 (Go.bits .and .u64 (hi / 281474976710656) 65535))).heap[ga]? = some (.cells #[.int .u64 (Go.bits .and .u64 (hi / 281474976710656) 65535), .int .u64 0, .int .u64 0, .int .u64 0, .int .u64 0, .int .u64 0, .int .u64 0, .int .u64 0] 68 (0, 0))) := ⟨blk_put (cs := #[.int .u64 0, .int .u64 0, .int .u64 0, .int .u64 0, .int .u64 0, .int .u64 0, .int .u64 0, .int .u64 0]) HY.out 0 _ rfl⟩
  replace HB := Aside0.mk (HB.out.setCell (p := ⟨ga, 0, none⟩) HG.out (.int .u64 (Go.bits .and .u64 (hi / 281474976710656) 65535)))
  generalize V0.setCell ⟨ga, 0, none⟩ (.int .u64 (Go.bits .and .u64 (hi / 281474976710656) 65535)) = U0 at HX HY HB ⊢
  refine hK.out _ _ ⟨(blk_cell HX.out 1).trans rfl, (blk_cell HX.out 2).trans rfl⟩ (fun _ => ?_)
  clear hK K
  refine zp 19 53 HT_ ?_
  have hc : U0.cell? ⟨ga, 4, none⟩ = some (.int .u64 0) := (blk_cell HY.out 4).trans rfl
  have hf : U0.frozen? ⟨ga, 4, none⟩ = false := blk_frozen HY.out 4
  refine last_ (i := 20) (N := none) #[true, true, true, true, true, true, true, true, true, true, true, true, true, true, true, true, true, true, true, true, true] rfl rfl (one_of HT_.out (by kernel_rfl)) (by decide) (fun K hK => ?_)
  refine skip_ (w1 := U0.setCell ⟨ga, 4, none⟩ (.int .u64 (Go.bits .and .u64 (lo / 281474976710656) 65535))) (by rfl) rfl (by go_simp) ?_
  clear hc hf
  replace HX := Aside0.mk (blk_far HX.out (p := ⟨ga, 4, none⟩) HN.out (.int .u64 (Go.bits .and .u64 (lo / 281474976710656) 65535)))
  replace HY : Aside0 ((U0.setCell ⟨ga, 4, none⟩ (.int .u64 (Go.bits .and .u64 (lo / 281474976710656) 65535))).heap[ga]? = some (.cells #[.int .u64 (Go.bits .and .u64 (hi / 281474976710656) 65535), .int .u64 0, .int .u64 0, .int .u64 0, .int .u64 (Go.bits .and .u64 (lo / 281474976710656) 65535), .int .u64 0, .int .u64 0, .int .u64 0] 68 (0, 0))) := ⟨blk_put (cs := #[.int .u64 (Go.bits .and .u64 (hi / 281474976710656) 65535), .int .u64 0, .int .u64 0, .int .u64 0, .int .u64 0, .int .u64 0, .int .u64 0, .int .u64 0]) HY.out 4 _ rfl⟩
  replace HB := Aside0.mk (HB.out.setCell (p := ⟨ga, 4, none⟩) HG.out (.int .u64 (Go.bits .and .u64 (lo / 281474976710656) 65535)))
  generalize U0.setCell ⟨ga, 4, none⟩ (.int .u64 (Go.bits .and .u64 (lo / 281474976710656) 65535)) = W1 at HX HY HB ⊢
  refine hK.out _ _ ?_
  clear hK K
  refine zd HT_ ?_
  clear hHeld HT_ HW_
  go_wp2_with fail
  rw [rounds_succ]
  go_upto_region 13 with (fail)
  refine start_ (n := 21) (S := fun w' => w'.cell? ⟨g, 1, none⟩ = some (.int .u64 hi) ∧ w'.cell? ⟨g, 2, none⟩ = some (.int .u64 lo)) (ds := [20]) #[false, false, false, false, false, false, false, false, false, false, false, false, false, false, false, false, false, false, false, false, false] (by kernel_rfl) rfl rfl ⟨(blk_cell (blk_drew HX.out) 1).trans rfl, (blk_cell (blk_drew HX.out) 2).trans rfl⟩ (fun hHeld => ?_)
  refine with_tabW fmt.tab13 fmt.bits13 (fun HT_ HW_ => ?_)
  replace HX := Aside0.mk (blk_drew HX.out)
  replace HY := Aside0.mk (blk_drew HY.out)
  replace HB := Aside0.mk (below_drew1 HB.out)
  generalize W1.drew = V1 at HX HY HB hHeld ⊢
  refine zp 0 35 HT_ ?_; refine zp 1 36 HT_ ?_; refine zp (v := .int .i64 5) 2 37 HT_ ?_ (hy := fun _ => rfl); refine zp 3 38 HT_ ?_; refine zt 4 39 HT_ HW_ hHeld ?_; refine zp 5 40 HT_ ?_; refine zp (v := .int .i64 16) 6 41 HT_ ?_ (hy := fun _ => rfl); refine zp (v := .int .i64 32) 7 42 HT_ ?_ (hy := fun _ => rfl); refine zp 8 43 HT_ ?_; refine zp 9 44 HT_ ?_; refine zp 10 45 HT_ ?_; refine zt 11 46 HT_ HW_ hHeld ?_; refine zp 12 47 HT_ ?_; refine zp (v := .int .i64 16) 13 48 HT_ ?_ (hy := fun _ => rfl); refine zp (v := .int .i64 32) 14 49 HT_ ?_ (hy := fun _ => rfl); refine zp 15 50 HT_ ?_; refine zp 16 51 HT_ ?_; refine zp 17 52 HT_ ?_
  have hc : V1.cell? ⟨ga, 1, none⟩ = some (.int .u64 0) := (blk_cell HY.out 1).trans rfl
  have hf : V1.frozen? ⟨ga, 1, none⟩ = false := blk_frozen HY.out 1
  refine one_ (i := 18) (N := none) #[true, true, true, true, true, true, true, true, true, true, true, true, true, true, true, true, true, true, true, false, false] rfl rfl (one_of HT_.out (by kernel_rfl)) (by decide) (fun K hK => ?_)
  refine skip_ (w1 := V1.setCell ⟨ga, 1, none⟩ (.int .u64 (Go.bits .and .u64 (hi / 4294967296) 65535))) (by rfl) rfl (by go_simp) ?_
  clear hc hf
  replace HX := Aside0.mk (blk_far HX.out (p := ⟨ga, 1, none⟩) HN.out (.int .u64 (Go.bits .and .u64 (hi / 4294967296) 65535)))
  replace HY : Aside0 ((V1.setCell ⟨ga, 1, none⟩ (.int .u64 (Go.bits .and .u64 (hi / 4294967296) 65535))).heap[ga]? = some (.cells #[.int .u64 (Go.bits .and .u64 (hi / 281474976710656) 65535), .int .u64 (Go.bits .and .u64 (hi / 4294967296) 65535), .int .u64 0, .int .u64 0, .int .u64 (Go.bits .and .u64 (lo / 281474976710656) 65535), .int .u64 0, .int .u64 0, .int .u64 0] 68 (0, 0))) := ⟨blk_put (cs := #[.int .u64 (Go.bits .and .u64 (hi / 281474976710656) 65535), .int .u64 0, .int .u64 0, .int .u64 0, .int .u64 (Go.bits .and .u64 (lo / 281474976710656) 65535), .int .u64 0, .int .u64 0, .int .u64 0]) HY.out 1 _ rfl⟩
  replace HB := Aside0.mk (HB.out.setCell (p := ⟨ga, 1, none⟩) HG.out (.int .u64 (Go.bits .and .u64 (hi / 4294967296) 65535)))
  generalize V1.setCell ⟨ga, 1, none⟩ (.int .u64 (Go.bits .and .u64 (hi / 4294967296) 65535)) = U1 at HX HY HB ⊢
  refine hK.out _ _ ⟨(blk_cell HX.out 1).trans rfl, (blk_cell HX.out 2).trans rfl⟩ (fun _ => ?_)
  clear hK K
  refine zp 19 53 HT_ ?_
  have hc : U1.cell? ⟨ga, 5, none⟩ = some (.int .u64 0) := (blk_cell HY.out 5).trans rfl
  have hf : U1.frozen? ⟨ga, 5, none⟩ = false := blk_frozen HY.out 5
  refine last_ (i := 20) (N := none) #[true, true, true, true, true, true, true, true, true, true, true, true, true, true, true, true, true, true, true, true, true] rfl rfl (one_of HT_.out (by kernel_rfl)) (by decide) (fun K hK => ?_)
  refine skip_ (w1 := U1.setCell ⟨ga, 5, none⟩ (.int .u64 (Go.bits .and .u64 (lo / 4294967296) 65535))) (by rfl) rfl (by go_simp) ?_
  clear hc hf
  replace HX := Aside0.mk (blk_far HX.out (p := ⟨ga, 5, none⟩) HN.out (.int .u64 (Go.bits .and .u64 (lo / 4294967296) 65535)))
  replace HY : Aside0 ((U1.setCell ⟨ga, 5, none⟩ (.int .u64 (Go.bits .and .u64 (lo / 4294967296) 65535))).heap[ga]? = some (.cells #[.int .u64 (Go.bits .and .u64 (hi / 281474976710656) 65535), .int .u64 (Go.bits .and .u64 (hi / 4294967296) 65535), .int .u64 0, .int .u64 0, .int .u64 (Go.bits .and .u64 (lo / 281474976710656) 65535), .int .u64 (Go.bits .and .u64 (lo / 4294967296) 65535), .int .u64 0, .int .u64 0] 68 (0, 0))) := ⟨blk_put (cs := #[.int .u64 (Go.bits .and .u64 (hi / 281474976710656) 65535), .int .u64 (Go.bits .and .u64 (hi / 4294967296) 65535), .int .u64 0, .int .u64 0, .int .u64 (Go.bits .and .u64 (lo / 281474976710656) 65535), .int .u64 0, .int .u64 0, .int .u64 0]) HY.out 5 _ rfl⟩
  replace HB := Aside0.mk (HB.out.setCell (p := ⟨ga, 5, none⟩) HG.out (.int .u64 (Go.bits .and .u64 (lo / 4294967296) 65535)))
  generalize U1.setCell ⟨ga, 5, none⟩ (.int .u64 (Go.bits .and .u64 (lo / 4294967296) 65535)) = W2 at HX HY HB ⊢
  refine hK.out _ _ ?_
  clear hK K
  refine zd HT_ ?_
  clear hHeld HT_ HW_
  go_wp2_with fail
  rw [rounds_succ]
  go_upto_region 13 with (fail)
  refine start_ (n := 21) (S := fun w' => w'.cell? ⟨g, 1, none⟩ = some (.int .u64 hi) ∧ w'.cell? ⟨g, 2, none⟩ = some (.int .u64 lo)) (ds := [20]) #[false, false, false, false, false, false, false, false, false, false, false, false, false, false, false, false, false, false, false, false, false] (by kernel_rfl) rfl rfl ⟨(blk_cell (blk_drew HX.out) 1).trans rfl, (blk_cell (blk_drew HX.out) 2).trans rfl⟩ (fun hHeld => ?_)
  refine with_tabW fmt.tab13 fmt.bits13 (fun HT_ HW_ => ?_)
  replace HX := Aside0.mk (blk_drew HX.out)
  replace HY := Aside0.mk (blk_drew HY.out)
  replace HB := Aside0.mk (below_drew1 HB.out)
  generalize W2.drew = V2 at HX HY HB hHeld ⊢
  refine zp 0 35 HT_ ?_; refine zp 1 36 HT_ ?_; refine zp (v := .int .i64 6) 2 37 HT_ ?_ (hy := fun _ => rfl); refine zp 3 38 HT_ ?_; refine zt 4 39 HT_ HW_ hHeld ?_; refine zp 5 40 HT_ ?_; refine zp (v := .int .i64 32) 6 41 HT_ ?_ (hy := fun _ => rfl); refine zp (v := .int .i64 16) 7 42 HT_ ?_ (hy := fun _ => rfl); refine zp 8 43 HT_ ?_; refine zp 9 44 HT_ ?_; refine zp 10 45 HT_ ?_; refine zt 11 46 HT_ HW_ hHeld ?_; refine zp 12 47 HT_ ?_; refine zp (v := .int .i64 32) 13 48 HT_ ?_ (hy := fun _ => rfl); refine zp (v := .int .i64 16) 14 49 HT_ ?_ (hy := fun _ => rfl); refine zp 15 50 HT_ ?_; refine zp 16 51 HT_ ?_; refine zp 17 52 HT_ ?_
  have hc : V2.cell? ⟨ga, 2, none⟩ = some (.int .u64 0) := (blk_cell HY.out 2).trans rfl
  have hf : V2.frozen? ⟨ga, 2, none⟩ = false := blk_frozen HY.out 2
  refine one_ (i := 18) (N := none) #[true, true, true, true, true, true, true, true, true, true, true, true, true, true, true, true, true, true, true, false, false] rfl rfl (one_of HT_.out (by kernel_rfl)) (by decide) (fun K hK => ?_)
  refine skip_ (w1 := V2.setCell ⟨ga, 2, none⟩ (.int .u64 (Go.bits .and .u64 (hi / 65536) 65535))) (by rfl) rfl (by go_simp) ?_
  clear hc hf
  replace HX := Aside0.mk (blk_far HX.out (p := ⟨ga, 2, none⟩) HN.out (.int .u64 (Go.bits .and .u64 (hi / 65536) 65535)))
  replace HY : Aside0 ((V2.setCell ⟨ga, 2, none⟩ (.int .u64 (Go.bits .and .u64 (hi / 65536) 65535))).heap[ga]? = some (.cells #[.int .u64 (Go.bits .and .u64 (hi / 281474976710656) 65535), .int .u64 (Go.bits .and .u64 (hi / 4294967296) 65535), .int .u64 (Go.bits .and .u64 (hi / 65536) 65535), .int .u64 0, .int .u64 (Go.bits .and .u64 (lo / 281474976710656) 65535), .int .u64 (Go.bits .and .u64 (lo / 4294967296) 65535), .int .u64 0, .int .u64 0] 68 (0, 0))) := ⟨blk_put (cs := #[.int .u64 (Go.bits .and .u64 (hi / 281474976710656) 65535), .int .u64 (Go.bits .and .u64 (hi / 4294967296) 65535), .int .u64 0, .int .u64 0, .int .u64 (Go.bits .and .u64 (lo / 281474976710656) 65535), .int .u64 (Go.bits .and .u64 (lo / 4294967296) 65535), .int .u64 0, .int .u64 0]) HY.out 2 _ rfl⟩
  replace HB := Aside0.mk (HB.out.setCell (p := ⟨ga, 2, none⟩) HG.out (.int .u64 (Go.bits .and .u64 (hi / 65536) 65535)))
  generalize V2.setCell ⟨ga, 2, none⟩ (.int .u64 (Go.bits .and .u64 (hi / 65536) 65535)) = U2 at HX HY HB ⊢
  refine hK.out _ _ ⟨(blk_cell HX.out 1).trans rfl, (blk_cell HX.out 2).trans rfl⟩ (fun _ => ?_)
  clear hK K
  refine zp 19 53 HT_ ?_
  have hc : U2.cell? ⟨ga, 6, none⟩ = some (.int .u64 0) := (blk_cell HY.out 6).trans rfl
  have hf : U2.frozen? ⟨ga, 6, none⟩ = false := blk_frozen HY.out 6
  refine last_ (i := 20) (N := none) #[true, true, true, true, true, true, true, true, true, true, true, true, true, true, true, true, true, true, true, true, true] rfl rfl (one_of HT_.out (by kernel_rfl)) (by decide) (fun K hK => ?_)
  refine skip_ (w1 := U2.setCell ⟨ga, 6, none⟩ (.int .u64 (Go.bits .and .u64 (lo / 65536) 65535))) (by rfl) rfl (by go_simp) ?_
  clear hc hf
  replace HX := Aside0.mk (blk_far HX.out (p := ⟨ga, 6, none⟩) HN.out (.int .u64 (Go.bits .and .u64 (lo / 65536) 65535)))
  replace HY : Aside0 ((U2.setCell ⟨ga, 6, none⟩ (.int .u64 (Go.bits .and .u64 (lo / 65536) 65535))).heap[ga]? = some (.cells #[.int .u64 (Go.bits .and .u64 (hi / 281474976710656) 65535), .int .u64 (Go.bits .and .u64 (hi / 4294967296) 65535), .int .u64 (Go.bits .and .u64 (hi / 65536) 65535), .int .u64 0, .int .u64 (Go.bits .and .u64 (lo / 281474976710656) 65535), .int .u64 (Go.bits .and .u64 (lo / 4294967296) 65535), .int .u64 (Go.bits .and .u64 (lo / 65536) 65535), .int .u64 0] 68 (0, 0))) := ⟨blk_put (cs := #[.int .u64 (Go.bits .and .u64 (hi / 281474976710656) 65535), .int .u64 (Go.bits .and .u64 (hi / 4294967296) 65535), .int .u64 (Go.bits .and .u64 (hi / 65536) 65535), .int .u64 0, .int .u64 (Go.bits .and .u64 (lo / 281474976710656) 65535), .int .u64 (Go.bits .and .u64 (lo / 4294967296) 65535), .int .u64 0, .int .u64 0]) HY.out 6 _ rfl⟩
  replace HB := Aside0.mk (HB.out.setCell (p := ⟨ga, 6, none⟩) HG.out (.int .u64 (Go.bits .and .u64 (lo / 65536) 65535)))
  generalize U2.setCell ⟨ga, 6, none⟩ (.int .u64 (Go.bits .and .u64 (lo / 65536) 65535)) = W3 at HX HY HB ⊢
  refine hK.out _ _ ?_
  clear hK K
  refine zd HT_ ?_
  clear hHeld HT_ HW_
  go_wp2_with fail
  rw [rounds_succ]
  go_upto_region 13 with (fail)
  refine start_ (n := 21) (S := fun w' => w'.cell? ⟨g, 1, none⟩ = some (.int .u64 hi) ∧ w'.cell? ⟨g, 2, none⟩ = some (.int .u64 lo)) (ds := [20]) #[false, false, false, false, false, false, false, false, false, false, false, false, false, false, false, false, false, false, false, false, false] (by kernel_rfl) rfl rfl ⟨(blk_cell (blk_drew HX.out) 1).trans rfl, (blk_cell (blk_drew HX.out) 2).trans rfl⟩ (fun hHeld => ?_)
  refine with_tabW fmt.tab13 fmt.bits13 (fun HT_ HW_ => ?_)
  replace HX := Aside0.mk (blk_drew HX.out)
  replace HY := Aside0.mk (blk_drew HY.out)
  replace HB := Aside0.mk (below_drew1 HB.out)
  generalize W3.drew = V3 at HX HY HB hHeld ⊢
  refine zp 0 35 HT_ ?_; refine zp 1 36 HT_ ?_; refine zp (v := .int .i64 7) 2 37 HT_ ?_ (hy := fun _ => rfl); refine zp 3 38 HT_ ?_; refine zt 4 39 HT_ HW_ hHeld ?_; refine zp 5 40 HT_ ?_; refine zp (v := .int .i64 48) 6 41 HT_ ?_ (hy := fun _ => rfl); refine zp (v := .int .i64 0) 7 42 HT_ ?_ (hy := fun _ => rfl); refine zp 8 43 HT_ ?_; refine zp 9 44 HT_ ?_; refine zp 10 45 HT_ ?_; refine zt 11 46 HT_ HW_ hHeld ?_; refine zp 12 47 HT_ ?_; refine zp (v := .int .i64 48) 13 48 HT_ ?_ (hy := fun _ => rfl); refine zp (v := .int .i64 0) 14 49 HT_ ?_ (hy := fun _ => rfl); refine zp 15 50 HT_ ?_; refine zp 16 51 HT_ ?_; refine zp 17 52 HT_ ?_
  have hc : V3.cell? ⟨ga, 3, none⟩ = some (.int .u64 0) := (blk_cell HY.out 3).trans rfl
  have hf : V3.frozen? ⟨ga, 3, none⟩ = false := blk_frozen HY.out 3
  refine one_ (i := 18) (N := none) #[true, true, true, true, true, true, true, true, true, true, true, true, true, true, true, true, true, true, true, false, false] rfl rfl (one_of HT_.out (by kernel_rfl)) (by decide) (fun K hK => ?_)
  refine skip_ (w1 := V3.setCell ⟨ga, 3, none⟩ (.int .u64 (Go.bits .and .u64 (hi) 65535))) (by rfl) rfl (by go_simp) ?_
  clear hc hf
  replace HX := Aside0.mk (blk_far HX.out (p := ⟨ga, 3, none⟩) HN.out (.int .u64 (Go.bits .and .u64 (hi) 65535)))
  replace HY : Aside0 ((V3.setCell ⟨ga, 3, none⟩ (.int .u64 (Go.bits .and .u64 (hi) 65535))).heap[ga]? = some (.cells #[.int .u64 (Go.bits .and .u64 (hi / 281474976710656) 65535), .int .u64 (Go.bits .and .u64 (hi / 4294967296) 65535), .int .u64 (Go.bits .and .u64 (hi / 65536) 65535), .int .u64 (Go.bits .and .u64 (hi) 65535), .int .u64 (Go.bits .and .u64 (lo / 281474976710656) 65535), .int .u64 (Go.bits .and .u64 (lo / 4294967296) 65535), .int .u64 (Go.bits .and .u64 (lo / 65536) 65535), .int .u64 0] 68 (0, 0))) := ⟨blk_put (cs := #[.int .u64 (Go.bits .and .u64 (hi / 281474976710656) 65535), .int .u64 (Go.bits .and .u64 (hi / 4294967296) 65535), .int .u64 (Go.bits .and .u64 (hi / 65536) 65535), .int .u64 0, .int .u64 (Go.bits .and .u64 (lo / 281474976710656) 65535), .int .u64 (Go.bits .and .u64 (lo / 4294967296) 65535), .int .u64 (Go.bits .and .u64 (lo / 65536) 65535), .int .u64 0]) HY.out 3 _ rfl⟩
  replace HB := Aside0.mk (HB.out.setCell (p := ⟨ga, 3, none⟩) HG.out (.int .u64 (Go.bits .and .u64 (hi) 65535)))
  generalize V3.setCell ⟨ga, 3, none⟩ (.int .u64 (Go.bits .and .u64 (hi) 65535)) = U3 at HX HY HB ⊢
  refine hK.out _ _ ⟨(blk_cell HX.out 1).trans rfl, (blk_cell HX.out 2).trans rfl⟩ (fun _ => ?_)
  clear hK K
  refine zp 19 53 HT_ ?_
  have hc : U3.cell? ⟨ga, 7, none⟩ = some (.int .u64 0) := (blk_cell HY.out 7).trans rfl
  have hf : U3.frozen? ⟨ga, 7, none⟩ = false := blk_frozen HY.out 7
  refine last_ (i := 20) (N := none) #[true, true, true, true, true, true, true, true, true, true, true, true, true, true, true, true, true, true, true, true, true] rfl rfl (one_of HT_.out (by kernel_rfl)) (by decide) (fun K hK => ?_)
  refine skip_ (w1 := U3.setCell ⟨ga, 7, none⟩ (.int .u64 (Go.bits .and .u64 (lo) 65535))) (by rfl) rfl (by go_simp) ?_
  clear hc hf
  replace HX := Aside0.mk (blk_far HX.out (p := ⟨ga, 7, none⟩) HN.out (.int .u64 (Go.bits .and .u64 (lo) 65535)))
  replace HY : Aside0 ((U3.setCell ⟨ga, 7, none⟩ (.int .u64 (Go.bits .and .u64 (lo) 65535))).heap[ga]? = some (.cells #[.int .u64 (Go.bits .and .u64 (hi / 281474976710656) 65535), .int .u64 (Go.bits .and .u64 (hi / 4294967296) 65535), .int .u64 (Go.bits .and .u64 (hi / 65536) 65535), .int .u64 (Go.bits .and .u64 (hi) 65535), .int .u64 (Go.bits .and .u64 (lo / 281474976710656) 65535), .int .u64 (Go.bits .and .u64 (lo / 4294967296) 65535), .int .u64 (Go.bits .and .u64 (lo / 65536) 65535), .int .u64 (Go.bits .and .u64 (lo) 65535)] 68 (0, 0))) := ⟨blk_put (cs := #[.int .u64 (Go.bits .and .u64 (hi / 281474976710656) 65535), .int .u64 (Go.bits .and .u64 (hi / 4294967296) 65535), .int .u64 (Go.bits .and .u64 (hi / 65536) 65535), .int .u64 (Go.bits .and .u64 (hi) 65535), .int .u64 (Go.bits .and .u64 (lo / 281474976710656) 65535), .int .u64 (Go.bits .and .u64 (lo / 4294967296) 65535), .int .u64 (Go.bits .and .u64 (lo / 65536) 65535), .int .u64 0]) HY.out 7 _ rfl⟩
  replace HB := Aside0.mk (HB.out.setCell (p := ⟨ga, 7, none⟩) HG.out (.int .u64 (Go.bits .and .u64 (lo) 65535)))
  generalize U3.setCell ⟨ga, 7, none⟩ (.int .u64 (Go.bits .and .u64 (lo) 65535)) = W4 at HX HY HB ⊢
  refine hK.out _ _ ?_
  clear hK K
  refine zd HT_ ?_
  clear hHeld HT_ HW_
  go_wp2_with fail
  rw [rounds_succ]
  have hc0 : W4.cell? ⟨ga, 0, none⟩ = some (.int .u64 (Go.bits .and .u64 (hi / 281474976710656) 65535)) := (blk_cell HY.out 0).trans rfl
  have hc1 : W4.cell? ⟨ga, 1, none⟩ = some (.int .u64 (Go.bits .and .u64 (hi / 4294967296) 65535)) := (blk_cell HY.out 1).trans rfl
  have hc2 : W4.cell? ⟨ga, 2, none⟩ = some (.int .u64 (Go.bits .and .u64 (hi / 65536) 65535)) := (blk_cell HY.out 2).trans rfl
  have hc3 : W4.cell? ⟨ga, 3, none⟩ = some (.int .u64 (Go.bits .and .u64 (hi) 65535)) := (blk_cell HY.out 3).trans rfl
  have hc4 : W4.cell? ⟨ga, 4, none⟩ = some (.int .u64 (Go.bits .and .u64 (lo / 281474976710656) 65535)) := (blk_cell HY.out 4).trans rfl
  have hc5 : W4.cell? ⟨ga, 5, none⟩ = some (.int .u64 (Go.bits .and .u64 (lo / 4294967296) 65535)) := (blk_cell HY.out 5).trans rfl
  have hc6 : W4.cell? ⟨ga, 6, none⟩ = some (.int .u64 (Go.bits .and .u64 (lo / 65536) 65535)) := (blk_cell HY.out 6).trans rfl
  have hc7 : W4.cell? ⟨ga, 7, none⟩ = some (.int .u64 (Go.bits .and .u64 (lo) 65535)) := (blk_cell HY.out 7).trans rfl
  go_wp2_with fail
  clear hc0 hc1 hc2 hc3 hc4 hc5 hc6 hc7
  refine (run_g hi lo _).mono ?_
  rintro e w2 ⟨rfl, hb⟩
  replace HX := Aside0.mk (blk_below HX.out hb)
  replace HY := Aside0.mk (blk_below HY.out hb)
  replace HB := Aside0.mk (below_step HB.out hb)
  clear hb
  have HC : Aside0 (∀ k : Nat, k < 8 → (#[.int .u64 (Go.bits .and .u64 (hi / 281474976710656) 65535), .int .u64 (Go.bits .and .u64 (hi / 4294967296) 65535), .int .u64 (Go.bits .and .u64 (hi / 65536) 65535), .int .u64 (Go.bits .and .u64 (hi) 65535), .int .u64 (Go.bits .and .u64 (lo / 281474976710656) 65535), .int .u64 (Go.bits .and .u64 (lo / 4294967296) 65535), .int .u64 (Go.bits .and .u64 (lo / 65536) 65535), .int .u64 (Go.bits .and .u64 (lo) 65535)] : Array Value)[k]? = some (.int .u64 ((grpL hi lo).getD k 0))) := ⟨fun k hk => by
    rcases k with _ | _ | _ | _ | _ | _ | _ | _ | k <;> first | omega | rfl⟩
  have HH : Aside0 (∀ k : Nat, k < 8 → 0 ≤ (grpL hi lo).getD k 0 ∧ (grpL hi lo).getD k 0 < 65536) := ⟨fun k hk => by
    rcases k with _ | _ | _ | _ | _ | _ | _ | _ | k <;> first | omega | exact and65535 _⟩
  have HP := Aside0.mk (runF_ok (grpL hi lo))
  have H0 : Aside0 (TxtI (grpL hi lo) (runF (grpL hi lo) 8 0 (0, 0)).1 (runF (grpL hi lo) 8 0 (0, 0)).2 8 0 ⟨#[]⟩ r) := ⟨⟨by omega, by omega, HR.out, by decide⟩⟩
  clear HR
  generalize grpL hi lo = l at HC HH HP H0 ⊢
  generalize (#[.int .u64 (Go.bits .and .u64 (hi / 281474976710656) 65535), .int .u64 (Go.bits .and .u64 (hi / 4294967296) 65535), .int .u64 (Go.bits .and .u64 (hi / 65536) 65535), .int .u64 (Go.bits .and .u64 (hi) 65535), .int .u64 (Go.bits .and .u64 (lo / 281474976710656) 65535), .int .u64 (Go.bits .and .u64 (lo / 4294967296) 65535), .int .u64 (Go.bits .and .u64 (lo / 65536) 65535), .int .u64 (Go.bits .and .u64 (lo) 65535)] : Array Value) = C at HC HY
  obtain ⟨pq, hpq⟩ : ∃ pq, runF l 8 0 (0, 0) = pq := ⟨_, rfl⟩
  rw [hpq] at HP H0
  simp only [hpq]
  clear hpq
  obtain ⟨p, q⟩ := pq
  dsimp only at HP H0 ⊢
  go_wp2_with fail
  go_loopg [9, 10] 8 (fun gg v9 v10 wr => ∃ (i : Nat) (o : ByteArray), v9 = .string o ∧ v10 = .int .i64 (i : Int) ∧ Aside0 (TxtI l p q gg i o r) ∧ Aside0 (wr.heap[ga]? = some (.cells C 68 (0, 0))) ∧ Aside0 (Below w.heap.size w wr))
  case atStart => exact ⟨0, _, rfl, rfl, H0, HY, HB⟩
  case round =>
    obtain ⟨i, o, rfl, rfl, HT, HY, HB⟩ := hrel
    clear H0
    by_cases hi8 : i < 8
    · obtain ⟨m, rfl⟩ := HT.out.pos hi8
      have hlt := r_lt hi8
      have hlt2 := r_ltd hi8
      have hc : wr.cell? ⟨ga, i, none⟩ = some (.int .u64 (l.getD i 0)) := (blk_cell HY.out i).trans (HC.out i hi8)
      have HV := Aside0.mk (HH.out i hi8)
      obtain ⟨x, hx⟩ : ∃ x, l.getD i 0 = x := ⟨_, rfl⟩
      rw [hx] at hc HV
      have HS := Aside0.mk (r_suc (Nat.le_of_lt hi8))
      have HE := Aside0.mk hx
      clear hx
      have HI := Aside0.mk hi8
      clear hi8
      by_cases hip : i = p
      · have he1 := i_eq hip
        have he2 := i_eqd hip
        by_cases hq : 1 < q - p
        · have hg1 := q_gt hq HP.out.2
          have HN := Aside0.mk (HT.out.gap HI.out hip hq HP.out.2)
          have hs2 := sz_2 HT.out
          have HS2 := Aside0.mk (q_next hq HP.out.2)
          clear hip hq
          go_wp2_with fail
          go_roundg m
          case measure => exact Nat.lt_succ_self m
          case rel => exact ⟨q, _, rfl, by rw [HS2.out], HN, HY, HB⟩
        · have hg1 := q_ngt hq HP.out
          have HNP : Aside0 (¬ (i = p ∧ 1 < q - p)) := ⟨fun h => hq h.2⟩
          clear hip hq
          by_cases ho : o.toList = []
          · have ho1 : (o.toList == ([] : List UInt8)) = true := beq_iff_eq.mpr ho
            have ho2 : (o.toList != ([] : List UInt8)) = false := bne_eq_false_iff_eq.mpr ho
            have HN := Aside0.mk (HT.out.hexA HE.out HI.out HNP.out (fun h => h.1 ho))
            clear ho
            go_wp2_with fail
            refine (strconv_FormatUint.calls _ _ _ _ (hex_u HV.out) (HW.out.below HB.out)).mono ?_
            rintro e w4 ⟨rfl, hb⟩
            replace HY := Aside0.mk (blk_below HY.out hb)
            replace HB := Aside0.mk (below_step HB.out hb)
            clear hb
            generalize (⟨(hexL 4 x.toNat).toArray⟩ : ByteArray) = hx at HN ⊢
            have hs4 := sz_h HN.out
            try rw [ByteArray.size_append, show (⟨#[58]⟩ : ByteArray).size = 1 from rfl] at hs4
            go_wp2_with fail
            go_roundg m
            case measure => exact Nat.lt_succ_self m
            case rel => exact ⟨i + 1, _, rfl, by rw [HS.out], HN, HY, HB⟩
          · have ho1 : (o.toList == ([] : List UInt8)) = false := beq_eq_false_iff_ne.mpr ho
            have ho2 : (o.toList != ([] : List UInt8)) = true := bne_iff_ne.mpr ho
            have HO := Aside0.mk ho
            clear ho
            go_wp2_with fail
            refine (strings_HasSuffix.calls _ _ _ _ (suf_u (Nat.le_trans (Nat.le_add_right _ _) HT.out.sz))).mono ?_
            rintro e w3 ⟨rfl, hb⟩
            replace HY := Aside0.mk (blk_below HY.out hb)
            replace HB := Aside0.mk (below_step HB.out hb)
            clear hb hc
            have hc : w3.cell? ⟨ga, i, none⟩ = some (.int .u64 x) := (blk_cell HY.out i).trans ((HC.out i HI.out).trans (by rw [HE.out]))
            cases hs : Lib.hasSuffix o.data.toList [58] with
            | true =>
              have HN := Aside0.mk (HT.out.hexA HE.out HI.out HNP.out (fun h => Bool.noConfusion (hs.symm.trans h.2)))
              clear hs
              go_wp2_with fail
              refine (strconv_FormatUint.calls _ _ _ _ (hex_u HV.out) (HW.out.below HB.out)).mono ?_
              rintro e w4 ⟨rfl, hb⟩
              replace HY := Aside0.mk (blk_below HY.out hb)
              replace HB := Aside0.mk (below_step HB.out hb)
              clear hb
              generalize (⟨(hexL 4 x.toNat).toArray⟩ : ByteArray) = hx at HN ⊢
              have hs4 := sz_h HN.out
              try rw [ByteArray.size_append, show (⟨#[58]⟩ : ByteArray).size = 1 from rfl] at hs4
              go_wp2_with fail
              go_roundg m
              case measure => exact Nat.lt_succ_self m
              case rel => exact ⟨i + 1, _, rfl, by rw [HS.out], HN, HY, HB⟩
            | false =>
              have HN := Aside0.mk (HT.out.hexB HE.out HI.out HNP.out ⟨HO.out, hs⟩)
              have hs1 := sz_1 HT.out
              clear hs
              go_wp2_with fail
              refine (strconv_FormatUint.calls _ _ _ _ (hex_u HV.out) (HW.out.below HB.out)).mono ?_
              rintro e w4 ⟨rfl, hb⟩
              replace HY := Aside0.mk (blk_below HY.out hb)
              replace HB := Aside0.mk (below_step HB.out hb)
              clear hb
              generalize (⟨(hexL 4 x.toNat).toArray⟩ : ByteArray) = hx at HN ⊢
              have hs4 := sz_h HN.out
              try rw [ByteArray.size_append, show (⟨#[58]⟩ : ByteArray).size = 1 from rfl] at hs4
              go_wp2_with fail
              go_roundg m
              case measure => exact Nat.lt_succ_self m
              case rel => exact ⟨i + 1, _, rfl, by rw [HS.out], HN, HY, HB⟩
      · have he1 := i_ne hip
        have he2 := i_ned hip
        have HNP : Aside0 (¬ (i = p ∧ 1 < q - p)) := ⟨fun h => hip h.1⟩
        clear hip
        by_cases ho : o.toList = []
        · have ho1 : (o.toList == ([] : List UInt8)) = true := beq_iff_eq.mpr ho
          have ho2 : (o.toList != ([] : List UInt8)) = false := bne_eq_false_iff_eq.mpr ho
          have HN := Aside0.mk (HT.out.hexA HE.out HI.out HNP.out (fun h => h.1 ho))
          clear ho
          go_wp2_with fail
          refine (strconv_FormatUint.calls _ _ _ _ (hex_u HV.out) (HW.out.below HB.out)).mono ?_
          rintro e w4 ⟨rfl, hb⟩
          replace HY := Aside0.mk (blk_below HY.out hb)
          replace HB := Aside0.mk (below_step HB.out hb)
          clear hb
          generalize (⟨(hexL 4 x.toNat).toArray⟩ : ByteArray) = hx at HN ⊢
          have hs4 := sz_h HN.out
          try rw [ByteArray.size_append, show (⟨#[58]⟩ : ByteArray).size = 1 from rfl] at hs4
          go_wp2_with fail
          go_roundg m
          case measure => exact Nat.lt_succ_self m
          case rel => exact ⟨i + 1, _, rfl, by rw [HS.out], HN, HY, HB⟩
        · have ho1 : (o.toList == ([] : List UInt8)) = false := beq_eq_false_iff_ne.mpr ho
          have ho2 : (o.toList != ([] : List UInt8)) = true := bne_iff_ne.mpr ho
          have HO := Aside0.mk ho
          clear ho
          go_wp2_with fail
          refine (strings_HasSuffix.calls _ _ _ _ (suf_u (Nat.le_trans (Nat.le_add_right _ _) HT.out.sz))).mono ?_
          rintro e w3 ⟨rfl, hb⟩
          replace HY := Aside0.mk (blk_below HY.out hb)
          replace HB := Aside0.mk (below_step HB.out hb)
          clear hb hc
          have hc : w3.cell? ⟨ga, i, none⟩ = some (.int .u64 x) := (blk_cell HY.out i).trans ((HC.out i HI.out).trans (by rw [HE.out]))
          cases hs : Lib.hasSuffix o.data.toList [58] with
          | true =>
            have HN := Aside0.mk (HT.out.hexA HE.out HI.out HNP.out (fun h => Bool.noConfusion (hs.symm.trans h.2)))
            clear hs
            go_wp2_with fail
            refine (strconv_FormatUint.calls _ _ _ _ (hex_u HV.out) (HW.out.below HB.out)).mono ?_
            rintro e w4 ⟨rfl, hb⟩
            replace HY := Aside0.mk (blk_below HY.out hb)
            replace HB := Aside0.mk (below_step HB.out hb)
            clear hb
            generalize (⟨(hexL 4 x.toNat).toArray⟩ : ByteArray) = hx at HN ⊢
            have hs4 := sz_h HN.out
            try rw [ByteArray.size_append, show (⟨#[58]⟩ : ByteArray).size = 1 from rfl] at hs4
            go_wp2_with fail
            go_roundg m
            case measure => exact Nat.lt_succ_self m
            case rel => exact ⟨i + 1, _, rfl, by rw [HS.out], HN, HY, HB⟩
          | false =>
            have HN := Aside0.mk (HT.out.hexB HE.out HI.out HNP.out ⟨HO.out, hs⟩)
            have hs1 := sz_1 HT.out
            clear hs
            go_wp2_with fail
            refine (strconv_FormatUint.calls _ _ _ _ (hex_u HV.out) (HW.out.below HB.out)).mono ?_
            rintro e w4 ⟨rfl, hb⟩
            replace HY := Aside0.mk (blk_below HY.out hb)
            replace HB := Aside0.mk (below_step HB.out hb)
            clear hb
            generalize (⟨(hexL 4 x.toNat).toArray⟩ : ByteArray) = hx at HN ⊢
            have hs4 := sz_h HN.out
            try rw [ByteArray.size_append, show (⟨#[58]⟩ : ByteArray).size = 1 from rfl] at hs4
            go_wp2_with fail
            go_roundg m
            case measure => exact Nat.lt_succ_self m
            case rel => exact ⟨i + 1, _, rfl, by rw [HS.out], HN, HY, HB⟩
    · have hlt := r_ge hi8
      have hlt2 := r_ged hi8
      have e := HT.out.fin hi8
      subst e
      clear hi8
      go_wp2_with fail
      exact bodyPost_ret (v := .string o) (by simp [results, Tryd.results33, go_sem]) rfl ⟨rfl, HB.out⟩
def address_Format.f (a0 : Bool) (a1 a2 : Int) : Option ByteArray := if a0 = true then some (fmt6 a1 a2) else strings_Join.f [decB (Go.bits .and .u64 (a2 / 16777216) 255), decB (Go.bits .and .u64 (a2 / 65536) 255), decB (Go.bits .and .u64 (a2 / 256) 255), decB (Go.bits .and .u64 (a2) 255)] (⟨#[46]⟩ : ByteArray)
theorem address_Format.calls (a0 : Bool) (a1 a2 : Int) (r : ByteArray) (w : World) (h : address_Format.f a0 a1 a2 = some r) (hW : WOK w) :
    Calls Tryd.prog 33 #[.agg #[.bool a0, .int .u64 a1, .int .u64 a2]] w fun e w' => e = .returned (.string r) ∧ Below w.heap.size w w' := by
  unfold address_Format.f at h
  cases a0 with
  | true =>
    rw [if_pos rfl] at h
    injection h with h
    subst h
    exact format6 a1 a2 w hW
  | false =>
    rw [if_neg (by decide)] at h
    exact format4 a1 a2 r w h hW
end Go.Proofs.YtlgfinnldhjgeaaDoor.Q
end

section
set_option linter.unusedVariables false
set_option linter.unusedSimpArgs false
namespace Go.Proofs.YtlgfinnldhjgeaaDoor.Q
open Go.RowKit Go.Proofs.YtlgfinnldhjgeaaDoorW.PrintWords Go.Proofs.YtlgfinnldhjgeaaDoorW.PrintLast Go.Proofs.YtlgfinnldhjgeaaDoorW.PrintMore
theorem lives06.e1 : address_Parse.f 40 (⟨#[58, 58, 49, 58, 48]⟩ : ByteArray) = some (true, 0, 65536, 0) := by kernel_rfl
theorem lives06.e2 : address_ParsePrefix.f 40 (⟨#[49, 48, 46, 48, 46, 48, 46, 48, 47, 56]⟩ : ByteArray) = some (false, 0, 167772160, 8, 0) := by kernel_rfl
theorem lives06.e3 : address_Parse.f 40 (⟨#[49, 48, 46, 49, 46, 50, 46, 51]⟩ : ByteArray) = some (false, 0, 167838211, 0) := by kernel_rfl
theorem lives06.e4 : address_Next.f false 0 255 = some (false, 0, 256, true) := by kernel_rfl
theorem lives06.e5 : address_Contains.f false 0 167772160 8 false 0 167838211 = some true := by kernel_rfl
theorem lives06.e6 : address_Format.f false 0 167838211 = some ⟨#[49, 48, 46, 49, 46, 50, 46, 51]⟩ := by kernel_rfl
theorem lives06.e7 : address_Format.f true 0 65536 = some ⟨#[58, 58, 49, 58, 48]⟩ := by kernel_rfl
theorem lives06.e8 : address_Compare.f false 0 167838211 true 0 65536 = some (-1) := by kernel_rfl
theorem lives06.e9 : address_Valid.f false 0 167838211 = some true := by kernel_rfl
def intrusionlaw06_lives.f : Option Bool := some true
set_option maxHeartbeats 4000000 in
set_option maxRecDepth 100000 in
theorem intrusionlaw06_lives.calls (r : Bool) (w : World) (h : intrusionlaw06_lives.f = some r) (hW : WOK w) :
    Calls Tryd.prog 10 #[] w fun e w' => e = .returned (.bool r) ∧ Below w.heap.size w w' := by
  injection h with h
  subst h
  have HW := Aside0.mk hW
  have HB : Aside0 (Below w.heap.size w w) := ⟨Below.refl _ _⟩
  clear hW
  go_enter Tryd.func10, Tryd.ntmps10
  go_wp2_with fail
  refine (address_Parse.calls 40 _ _ _ _ _ _ lives06.e1 (HW.out.below HB.out)).mono ?_
  rintro e w1 ⟨rfl, hb⟩
  replace HB := Aside0.mk (below_step HB.out hb)
  clear hb
  have HXa : Aside0 ((w1.alloc (.cells #[.bool true, .int .u64 0, .int .u64 65536] 25)).heap[w1.heap.size]? = some (.cells #[.bool true, .int .u64 0, .int .u64 65536] 25 (0, 0))) := ⟨heap_alloc_new _ _⟩
  replace HB := Aside0.mk (below_alloc HB.out (.cells #[.bool true, .int .u64 0, .int .u64 65536] 25))
  go_wp2_with fail
  obtain ⟨ga, hg⟩ : ∃ g, w1.heap.size = g := ⟨_, rfl⟩
  rw [hg] at HXa
  simp only [hg]
  clear hg
  generalize w1.alloc (.cells #[.bool true, .int .u64 0, .int .u64 65536] 25) = Wa at HXa HB ⊢
  refine (address_ParsePrefix.calls 40 _ _ _ _ _ _ _ lives06.e2 (HW.out.below HB.out)).mono ?_
  rintro e w2 ⟨rfl, hb⟩
  replace HB := Aside0.mk (below_step HB.out hb)
  replace HXa := Aside0.mk (blk_below HXa.out hb)
  clear hb
  have HXp : Aside0 ((w2.alloc (.cells #[.bool false, .int .u64 0, .int .u64 167772160, .int .i64 8] 30)).heap[w2.heap.size]? = some (.cells #[.bool false, .int .u64 0, .int .u64 167772160, .int .i64 8] 30 (0, 0))) := ⟨heap_alloc_new _ _⟩
  replace HXa := Aside0.mk (blk_alloc HXa.out (.cells #[.bool false, .int .u64 0, .int .u64 167772160, .int .i64 8] 30))
  replace HB := Aside0.mk (below_alloc HB.out (.cells #[.bool false, .int .u64 0, .int .u64 167772160, .int .i64 8] 30))
  go_wp2_with fail
  obtain ⟨gp, hg⟩ : ∃ g, w2.heap.size = g := ⟨_, rfl⟩
  rw [hg] at HXp
  simp only [hg]
  clear hg
  generalize w2.alloc (.cells #[.bool false, .int .u64 0, .int .u64 167772160, .int .i64 8] 30) = Wp at HXa HXp HB ⊢
  refine (address_Parse.calls 40 _ _ _ _ _ _ lives06.e3 (HW.out.below HB.out)).mono ?_
  rintro e w3 ⟨rfl, hb⟩
  replace HB := Aside0.mk (below_step HB.out hb)
  replace HXa := Aside0.mk (blk_below HXa.out hb)
  replace HXp := Aside0.mk (blk_below HXp.out hb)
  clear hb
  have HXb : Aside0 ((w3.alloc (.cells #[.bool false, .int .u64 0, .int .u64 167838211] 25)).heap[w3.heap.size]? = some (.cells #[.bool false, .int .u64 0, .int .u64 167838211] 25 (0, 0))) := ⟨heap_alloc_new _ _⟩
  replace HXa := Aside0.mk (blk_alloc HXa.out (.cells #[.bool false, .int .u64 0, .int .u64 167838211] 25))
  replace HXp := Aside0.mk (blk_alloc HXp.out (.cells #[.bool false, .int .u64 0, .int .u64 167838211] 25))
  replace HB := Aside0.mk (below_alloc HB.out (.cells #[.bool false, .int .u64 0, .int .u64 167838211] 25))
  go_wp2_with fail
  obtain ⟨gb, hg⟩ : ∃ g, w3.heap.size = g := ⟨_, rfl⟩
  rw [hg] at HXb
  simp only [hg]
  clear hg
  generalize w3.alloc (.cells #[.bool false, .int .u64 0, .int .u64 167838211] 25) = Wb at HXa HXp HXb HB ⊢
  refine (address_Next.calls _ _ _ _ _ _ _ _ lives06.e4).mono ?_
  rintro e w4 ⟨rfl, hb⟩
  replace HB := Aside0.mk (below_step HB.out hb)
  replace HXa := Aside0.mk (blk_below HXa.out hb)
  replace HXp := Aside0.mk (blk_below HXp.out hb)
  replace HXb := Aside0.mk (blk_below HXb.out hb)
  clear hb
  have HXn : Aside0 ((w4.alloc (.cells #[.bool false, .int .u64 0, .int .u64 256] 25)).heap[w4.heap.size]? = some (.cells #[.bool false, .int .u64 0, .int .u64 256] 25 (0, 0))) := ⟨heap_alloc_new _ _⟩
  replace HXa := Aside0.mk (blk_alloc HXa.out (.cells #[.bool false, .int .u64 0, .int .u64 256] 25))
  replace HXp := Aside0.mk (blk_alloc HXp.out (.cells #[.bool false, .int .u64 0, .int .u64 256] 25))
  replace HXb := Aside0.mk (blk_alloc HXb.out (.cells #[.bool false, .int .u64 0, .int .u64 256] 25))
  replace HB := Aside0.mk (below_alloc HB.out (.cells #[.bool false, .int .u64 0, .int .u64 256] 25))
  go_upto_region 5 with (fail)
  obtain ⟨gn, hg⟩ : ∃ g, w4.heap.size = g := ⟨_, rfl⟩
  rw [hg] at HXn
  simp only [hg]
  clear hg
  generalize w4.alloc (.cells #[.bool false, .int .u64 0, .int .u64 256] 25) = Wn at HXa HXp HXb HXn HB ⊢
  obtain ⟨ca0, ca1, ca2⟩ := zc3 HXa
  obtain ⟨cp0, cp1, cp2, cp3⟩ := zc4 HXp
  obtain ⟨cb0, cb1, cb2⟩ := zc3 HXb
  obtain ⟨cn0, cn1, cn2⟩ := zc3 HXn
  go_wp2_with fail
  clear ca0 ca1 ca2
  clear cp0 cp1 cp2 cp3
  clear cb0 cb1 cb2
  clear cn0 cn1 cn2
  refine (address_Contains.calls _ _ _ _ _ _ _ _ _ lives06.e5).mono ?_
  rintro e w5 ⟨rfl, hb⟩
  replace HB := Aside0.mk (below_step HB.out hb)
  replace HXa := Aside0.mk (blk_below HXa.out hb)
  replace HXp := Aside0.mk (blk_below HXp.out hb)
  replace HXb := Aside0.mk (blk_below HXb.out hb)
  replace HXn := Aside0.mk (blk_below HXn.out hb)
  clear hb
  obtain ⟨ca0, ca1, ca2⟩ := zc3 HXa
  obtain ⟨cp0, cp1, cp2, cp3⟩ := zc4 HXp
  obtain ⟨cb0, cb1, cb2⟩ := zc3 HXb
  obtain ⟨cn0, cn1, cn2⟩ := zc3 HXn
  go_wp2_with fail
  clear ca0 ca1 ca2
  clear cp0 cp1 cp2 cp3
  clear cb0 cb1 cb2
  clear cn0 cn1 cn2
  refine (address_Valid.calls _ _ _ _ _ lives06.e9).mono ?_
  rintro e w6 ⟨rfl, hb⟩
  replace HB := Aside0.mk (below_step HB.out hb)
  replace HXa := Aside0.mk (blk_below HXa.out hb)
  replace HXp := Aside0.mk (blk_below HXp.out hb)
  replace HXb := Aside0.mk (blk_below HXb.out hb)
  replace HXn := Aside0.mk (blk_below HXn.out hb)
  clear hb
  obtain ⟨ca0, ca1, ca2⟩ := zc3 HXa
  obtain ⟨cp0, cp1, cp2, cp3⟩ := zc4 HXp
  obtain ⟨cb0, cb1, cb2⟩ := zc3 HXb
  obtain ⟨cn0, cn1, cn2⟩ := zc3 HXn
  go_wp2_with fail
  clear ca0 ca1 ca2
  clear cp0 cp1 cp2 cp3
  clear cb0 cb1 cb2
  clear cn0 cn1 cn2
  refine (address_Format.calls _ _ _ _ _ lives06.e6 (HW.out.below HB.out)).mono ?_
  rintro e w7 ⟨rfl, hb⟩
  replace HB := Aside0.mk (below_step HB.out hb)
  replace HXa := Aside0.mk (blk_below HXa.out hb)
  replace HXp := Aside0.mk (blk_below HXp.out hb)
  replace HXb := Aside0.mk (blk_below HXb.out hb)
  replace HXn := Aside0.mk (blk_below HXn.out hb)
  clear hb
  obtain ⟨ca0, ca1, ca2⟩ := zc3 HXa
  obtain ⟨cp0, cp1, cp2, cp3⟩ := zc4 HXp
  obtain ⟨cb0, cb1, cb2⟩ := zc3 HXb
  obtain ⟨cn0, cn1, cn2⟩ := zc3 HXn
  go_wp2_with fail
  clear ca0 ca1 ca2
  clear cp0 cp1 cp2 cp3
  clear cb0 cb1 cb2
  clear cn0 cn1 cn2
  refine (address_Format.calls _ _ _ _ _ lives06.e7 (HW.out.below HB.out)).mono ?_
  rintro e w8 ⟨rfl, hb⟩
  replace HB := Aside0.mk (below_step HB.out hb)
  replace HXa := Aside0.mk (blk_below HXa.out hb)
  replace HXp := Aside0.mk (blk_below HXp.out hb)
  replace HXb := Aside0.mk (blk_below HXb.out hb)
  replace HXn := Aside0.mk (blk_below HXn.out hb)
  clear hb
  obtain ⟨ca0, ca1, ca2⟩ := zc3 HXa
  obtain ⟨cp0, cp1, cp2, cp3⟩ := zc4 HXp
  obtain ⟨cb0, cb1, cb2⟩ := zc3 HXb
  obtain ⟨cn0, cn1, cn2⟩ := zc3 HXn
  go_wp2_with fail
  clear ca0 ca1 ca2
  clear cp0 cp1 cp2 cp3
  clear cb0 cb1 cb2
  clear cn0 cn1 cn2
  refine (address_Compare.calls _ _ _ _ _ _ _ _ lives06.e8).mono ?_
  rintro e w9 ⟨rfl, hb⟩
  replace HB := Aside0.mk (below_step HB.out hb)
  replace HXa := Aside0.mk (blk_below HXa.out hb)
  replace HXp := Aside0.mk (blk_below HXp.out hb)
  replace HXb := Aside0.mk (blk_below HXb.out hb)
  replace HXn := Aside0.mk (blk_below HXn.out hb)
  clear hb
  obtain ⟨ca0, ca1, ca2⟩ := zc3 HXa
  obtain ⟨cp0, cp1, cp2, cp3⟩ := zc4 HXp
  obtain ⟨cb0, cb1, cb2⟩ := zc3 HXb
  obtain ⟨cn0, cn1, cn2⟩ := zc3 HXn
  go_wp2_with fail
  exact bodyPost_ret (v := .bool true) (by simp [results, Tryd.results10, go_sem]) rfl ⟨rfl, HB.out⟩
end Go.Proofs.YtlgfinnldhjgeaaDoor.Q
end

section
namespace Go.Proofs.YtlgfinnldhjgeaaDoor.Q
open Go.RowKit Go.Proofs.YtlgfinnldhjgeaaDoorW.PrintWords Go.Proofs.YtlgfinnldhjgeaaDoorW.PrintLast Go.Proofs.YtlgfinnldhjgeaaDoorW.PrintMore
attribute [local go_sem] max2_int min2_int max_two min_two max_three min_three max_four min_four
set_option linter.unusedVariables false
set_option linter.unusedSimpArgs false
mutual
def intrusionlaw06_AddressContains.j0 : Nat → Int → Bool → Bool → Int → Int → Bool → Int → Int → Option (Bool)
  | 0, _, _, _, _, _, _, _, _ => none
  | k + 1, x2, x19, x376000, x376001, x376002, x377000, x377001, x377002 => if x19 = true then (some true) else ((address_MakePrefix.f x376000 x376001 x376002 x2).bind fun bt380 => (if bt380.2.2.2.2 = 0 then ((address_Bounds.f bt380.1 bt380.2.1 bt380.2.2.1 bt380.2.2.2.1).bind fun bt386 => ((address_Contains.f bt380.1 bt380.2.1 bt380.2.2.1 bt380.2.2.2.1 x376000 x376001 x376002).bind fun t393 => (if t393 = true then ((address_Contains.f bt380.1 bt380.2.1 bt380.2.2.1 bt380.2.2.2.1 bt386.1 bt386.2.1 bt386.2.2.1).bind fun t394 => (if t394 = true then ((address_Contains.f bt380.1 bt380.2.1 bt380.2.2.1 bt380.2.2.2.1 bt386.2.2.2.1 bt386.2.2.2.2.1 bt386.2.2.2.2.2).bind fun t395 => (intrusionlaw06_AddressContains.j1 k (!t395) x377000 x377001 x377002 bt380.1 bt380.2.1 bt380.2.2.1 bt380.2.2.2.1 bt386.1 bt386.2.1 bt386.2.2.1 bt386.2.2.2.1 bt386.2.2.2.2.1 bt386.2.2.2.2.2)) else (intrusionlaw06_AddressContains.j1 k true x377000 x377001 x377002 bt380.1 bt380.2.1 bt380.2.2.1 bt380.2.2.2.1 bt386.1 bt386.2.1 bt386.2.2.1 bt386.2.2.2.1 bt386.2.2.2.2.1 bt386.2.2.2.2.2))) else (intrusionlaw06_AddressContains.j1 k true x377000 x377001 x377002 bt380.1 bt380.2.1 bt380.2.2.1 bt380.2.2.2.1 bt386.1 bt386.2.1 bt386.2.2.1 bt386.2.2.2.1 bt386.2.2.2.2.1 bt386.2.2.2.2.2)))) else (some true)))
def intrusionlaw06_AddressContains.j1 : Nat → Bool → Bool → Int → Int → Bool → Int → Int → Int → Bool → Int → Int → Bool → Int → Int → Option (Bool)
  | 0, _, _, _, _, _, _, _, _, _, _, _, _, _, _ => none
  | k + 1, x47, x377000, x377001, x377002, x386000, x386001, x386002, x386003, x393000, x393001, x393002, x393003, x393004, x393005 => if x47 = true then (some false) else ((address_Contains.f x386000 x386001 x386002 x386003 x377000 x377001 x377002).bind fun t396 => ((address_Compare.f x393000 x393001 x393002 x377000 x377001 x377002).bind fun t397 => (if t397 ≤ 0 then ((address_Compare.f x377000 x377001 x377002 x393003 x393004 x393005).bind fun t398 => (some (t396 == (decide (t398 ≤ 0))))) else (some (t396 == false)))))
end
def intrusionlaw06_AddressContains.f (k : Nat) (a0_0 : Bool) (a0_1 : Int) (a0_2 : Int) (a1_0 : Bool) (a1_1 : Int) (a1_2 : Int) (a2 : Int) : Option (Bool) := (intrusionlaw06_lives.f).bind fun t377 => (if t377 = true then ((address_Valid.f a0_0 a0_1 a0_2).bind fun t378 => (if t378 = true then ((address_Valid.f a1_0 a1_1 a1_2).bind fun t379 => (intrusionlaw06_AddressContains.j0 k a2 (!t379) a0_0 a0_1 a0_2 a1_0 a1_1 a1_2)) else (intrusionlaw06_AddressContains.j0 k a2 true a0_0 a0_1 a0_2 a1_0 a1_1 a1_2))) else (some false))
theorem intrusionlaw06_AddressContains.mono_l : ∀ k, (∀ y0 y1 y2 y3 y4 y5 y6 y7, LeO (intrusionlaw06_AddressContains.j0 k y0 y1 y2 y3 y4 y5 y6 y7) (intrusionlaw06_AddressContains.j0 (k + 1) y0 y1 y2 y3 y4 y5 y6 y7)) ∧ (∀ y0 y1 y2 y3 y4 y5 y6 y7 y8 y9 y10 y11 y12 y13, LeO (intrusionlaw06_AddressContains.j1 k y0 y1 y2 y3 y4 y5 y6 y7 y8 y9 y10 y11 y12 y13) (intrusionlaw06_AddressContains.j1 (k + 1) y0 y1 y2 y3 y4 y5 y6 y7 y8 y9 y10 y11 y12 y13))
  | 0 => ⟨fun _ _ _ _ _ _ _ _ r h => by simp [intrusionlaw06_AddressContains.j0] at h, fun _ _ _ _ _ _ _ _ _ _ _ _ _ _ r h => by simp [intrusionlaw06_AddressContains.j1] at h⟩
  | k + 1 => by
    obtain ⟨ih0, ih1⟩ := intrusionlaw06_AddressContains.mono_l k
    refine ⟨?_, ?_⟩
    · intro y0 y1 y2 y3 y4 y5 y6 y7
      unfold intrusionlaw06_AddressContains.j0
      repeat' first
      | (with_reducible exact ih0 _ _ _ _ _ _ _ _)
      | (with_reducible exact ih1 _ _ _ _ _ _ _ _ _ _ _ _ _ _)
      | (with_reducible exact LeO.refl _)
      | (with_reducible exact LeO.none _)
      | (with_reducible refine LeO.ite ?_ ?_)
      | (with_reducible refine LeO.bind ?_ (fun _ => ?_))
      | exact ih0 _ _ _ _ _ _ _ _
      | exact ih1 _ _ _ _ _ _ _ _ _ _ _ _ _ _
      | exact LeO.none _
      | refine LeO.ite ?_ ?_
      | refine LeO.bind ?_ (fun _ => ?_)
    · intro y0 y1 y2 y3 y4 y5 y6 y7 y8 y9 y10 y11 y12 y13
      unfold intrusionlaw06_AddressContains.j1
      repeat' first
      | (with_reducible exact ih0 _ _ _ _ _ _ _ _)
      | (with_reducible exact ih1 _ _ _ _ _ _ _ _ _ _ _ _ _ _)
      | (with_reducible exact LeO.refl _)
      | (with_reducible exact LeO.none _)
      | (with_reducible refine LeO.ite ?_ ?_)
      | (with_reducible refine LeO.bind ?_ (fun _ => ?_))
      | exact ih0 _ _ _ _ _ _ _ _
      | exact ih1 _ _ _ _ _ _ _ _ _ _ _ _ _ _
      | exact LeO.none _
      | refine LeO.ite ?_ ?_
      | refine LeO.bind ?_ (fun _ => ?_)
theorem intrusionlaw06_AddressContains.mono : ∀ a0 a1 a2 a3 a4 a5 a6 k, LeO (intrusionlaw06_AddressContains.f k a0 a1 a2 a3 a4 a5 a6) (intrusionlaw06_AddressContains.f (k + 1) a0 a1 a2 a3 a4 a5 a6) := by
  intro a0 a1 a2 a3 a4 a5 a6 k
  obtain ⟨ih0, ih1⟩ := intrusionlaw06_AddressContains.mono_l k
  unfold intrusionlaw06_AddressContains.f
  repeat' first
      | (with_reducible exact ih0 _ _ _ _ _ _ _ _)
      | (with_reducible exact ih1 _ _ _ _ _ _ _ _ _ _ _ _ _ _)
      | (with_reducible exact LeO.refl _)
      | (with_reducible exact LeO.none _)
      | (with_reducible refine LeO.ite ?_ ?_)
      | (with_reducible refine LeO.bind ?_ (fun _ => ?_))
      | exact ih0 _ _ _ _ _ _ _ _
      | exact ih1 _ _ _ _ _ _ _ _ _ _ _ _ _ _
      | exact LeO.none _
      | refine LeO.ite ?_ ?_
      | refine LeO.bind ?_ (fun _ => ?_)
def intrusionlaw06_AddressContains.T11 : Bool × List (List Nat × List Nat) := (true, [([], []), ([], []), ([0, 1], [0, 1]), ([], []), ([3], [3]), ([], []), ([4, 5, 2], [4, 5]), ([6], [6]), ([7, 6], [7]), ([8], [8]), ([8], [8]), ([10, 8], [8, 10]), ([9, 11, 8, 8], [8, 9, 11]), ([12, 8], [8, 12]), ([8, 13], [8, 13]), ([2, 14], [2, 14]), ([15, 12, 0, 1, 2, 3, 4, 5, 6, 7, 8, 9, 10, 11, 12, 13, 14, 15], [15])])
def intrusionlaw06_AddressContains.B11 : List Nat := [0, 0, 3, 0, 8, 0, 63, 127, 255, 511, 511, 1535, 4095, 8191, 16383, 32767, 65535]
theorem intrusionlaw06_AddressContains.tab11 : rtab .any (opsOf Tryd.f6 11) = intrusionlaw06_AddressContains.T11 := by kernel_rfl
theorem intrusionlaw06_AddressContains.bits11 : waitsOk intrusionlaw06_AddressContains.T11.2 intrusionlaw06_AddressContains.B11 = true := by kernel_rfl
set_option maxHeartbeats 8000000 in
set_option maxRecDepth 100000 in
theorem intrusionlaw06_AddressContains.calls (k : Nat) (a0_0 : Bool) (a0_1 : Int) (a0_2 : Int) (a1_0 : Bool) (a1_1 : Int) (a1_2 : Int) (a2 : Int) (r : Bool) (w : World) (h : intrusionlaw06_AddressContains.f k a0_0 a0_1 a0_2 a1_0 a1_1 a1_2 a2 = some r) (hW_ : WOK w) :
 Calls Tryd.prog 6 #[.agg #[.bool a0_0, .int .u64 a0_1, .int .u64 a0_2], .agg #[.bool a1_0, .int .u64 a1_1, .int .u64 a1_2], .int .i64 a2] w fun e w' => e = .returned (.bool r) ∧ Below w.heap.size w w' := by
 have hu25 := Tryd.underlying25
 have hu30 := Tryd.underlying30
 have hu43 := Tryd.underlying43
 have HB := Aside0.mk (Below.refl w.heap.size w)
 unfold intrusionlaw06_AddressContains.f at h; have H := h
 clear h
 replace H := Option.bind_eq_some_iff.mp H
 obtain ⟨t377, A40, H⟩ := H
 try dsimp only at H
 have A4 := Aside0.mk A40
 clear A40
 by_cases c5 : t377 = true
 · subst c5
   rw [if_pos rfl] at H
   have HC6 := Aside0.mk H
   clear H
   go_enter Tryd.func6, Tryd.ntmps6
   go_upto_region 3 with (first | ((with_reducible refine gate_dst (N := 3) rfl ?_); refine zx 3 #[.bool a0_0, .int .u64 a0_1, .int .u64 a0_2] 25 ?_; intro gb375 hg w7 hbox hb; have BK375 := Aside0.mk (hbox); have GW375 := Aside0.mk ((by rw [hg]; exact (below_size (zB HB)) : w.heap.size ≤ gb375)); have GE375 := Aside0.mk ((by rw [hg]; exact (below_size (zB HB)) : w.heap.size ≤ gb375)); replace HB := Aside0.mk (below_step (zB HB) hb); clear hb hbox hg) | ((with_reducible refine gate_dst (N := 4) rfl ?_); refine zx 4 #[.bool a1_0, .int .u64 a1_1, .int .u64 a1_2] 25 ?_; intro gb376 hg w8 hbox hb; have BK376 := Aside0.mk (hbox); have GW376 := Aside0.mk ((by rw [hg]; exact (below_size (zB HB)) : w.heap.size ≤ gb376)); have GE376 := Aside0.mk ((by rw [hg]; exact (below_size (zB HB)) : w.heap.size ≤ gb376)); replace HB := Aside0.mk (below_step (zB HB) hb); have NB375_376 := Aside0.mk ((by rw [hg]; exact Nat.ne_of_lt (blk_lt (g := gb375) (o := .cells #[.bool a0_0, .int .u64 a0_1, .int .u64 a0_2] 25 (0, 0)) (zK BK375)) : gb375 ≠ gb376)); have NB376_375 := Aside0.mk ((by rw [hg]; exact Nat.ne_of_gt (blk_lt (g := gb375) (o := .cells #[.bool a0_0, .int .u64 a0_1, .int .u64 a0_2] 25 (0, 0)) (zK BK375)) : gb376 ≠ gb375)); replace BK375 := Aside0.mk (blk_below (g := gb375) (o := .cells #[.bool a0_0, .int .u64 a0_1, .int .u64 a0_2] 25 (0, 0)) (zK BK375) hb); clear hb hbox hg) | ((with_reducible refine gate_callee (f := 10) rfl ?_); refine goesL_ (some 10) rfl rfl Tryd.func10 (by kernel_rfl) rfl #[] rfl (by (try simp only [List.map_toArray, List.map_cons, List.map_nil]); first | done | rfl | (simp only [List.length_drop, List.length_take]; rfl)) ?_; (with_reducible refine (intrusionlaw06_lives.calls  true _ A4.out (WOK.below hW_ (zB HB))).mono ?_); rintro e w9 ⟨rfl, hb⟩; refine ⟨_, rfl, ?_⟩; replace BK375 := Aside0.mk (blk_below (g := gb375) (o := .cells #[.bool a0_0, .int .u64 a0_1, .int .u64 a0_2] 25 (0, 0)) (zK BK375) hb); replace BK376 := Aside0.mk (blk_below (g := gb376) (o := .cells #[.bool a1_0, .int .u64 a1_1, .int .u64 a1_2] 25 (0, 0)) (zK BK376) hb); replace HB := Aside0.mk (below_step (zB HB) hb); (try clear hb)))
   (try simp only [Act.put, List.setIfInBounds_toArray, List.set_cons_zero, List.set_cons_succ])
   go_cut [19] (fun v19 wc => ∃ (kq : Nat) (x19_5 : Bool), v19 = .bool x19_5 ∧ Aside0 (intrusionlaw06_AddressContains.j0 kq a2 x19_5 a0_0 a0_1 a0_2 a1_0 a1_1 a1_2 = some r) ∧ Aside0 (kq ≤ k) ∧ Aside0 (wc.heap[gb375]? = some (.cells #[.bool a0_0, .int .u64 a0_1, .int .u64 a0_2] 25 (0, 0))) ∧ Aside0 (wc.heap[gb376]? = some (.cells #[.bool a1_0, .int .u64 a1_1, .int .u64 a1_2] 25 (0, 0))) ∧ Aside0 (Below w.heap.size w wc))
   case first =>
    have H := HC6.out
    clear HC6
    replace H := Option.bind_eq_some_iff.mp H
    obtain ⟨t378, A100, H⟩ := H
    try dsimp only at H
    have A10 := Aside0.mk A100
    clear A100
    by_cases c11 : t378 = true
    · subst c11
      rw [if_pos rfl] at H
      replace H := Option.bind_eq_some_iff.mp H
      obtain ⟨t379, A120, H⟩ := H
      try dsimp only at H
      have A12 := Aside0.mk A120
      clear A120
      have H' := Aside0.mk H
      clear H
      have hnb13 := NB375_376.out
      have hnc13 := NB376_375.out
      obtain ⟨hcz14_0, hcz14_1, hcz14_2⟩ := zc3 BK375
      obtain ⟨hfz14_0, hfz14_1, hfz14_2⟩ := zf3 BK375
      go_wp2_with (first | ((with_reducible refine gate_callee (f := 25) rfl ?_); refine goesL_ (some 13) rfl rfl Tryd.func25 (by kernel_rfl) rfl #[.agg #[.bool a0_0, .int .u64 a0_1, .int .u64 a0_2]] rfl (by (try simp only [List.map_toArray, List.map_cons, List.map_nil]); first | done | rfl | (simp only [List.length_drop, List.length_take]; rfl)) ?_; (with_reducible refine (address_Valid.calls a0_0 a0_1 a0_2 true _ A10.out).mono ?_); rintro e w15 ⟨rfl, hb⟩; refine ⟨_, rfl, ?_⟩; replace BK375 := Aside0.mk (blk_below (g := gb375) (o := .cells #[.bool a0_0, .int .u64 a0_1, .int .u64 a0_2] 25 (0, 0)) (zK BK375) hb); replace BK376 := Aside0.mk (blk_below (g := gb376) (o := .cells #[.bool a1_0, .int .u64 a1_1, .int .u64 a1_2] 25 (0, 0)) (zK BK376) hb); replace HB := Aside0.mk (below_step (zB HB) hb); (try clear hb); obtain ⟨hcz16_0, hcz16_1, hcz16_2⟩ := zc3 BK376; obtain ⟨hfz16_0, hfz16_1, hfz16_2⟩ := zf3 BK376) | (go_at_call 25; (with_reducible refine (address_Valid.calls a1_0 a1_1 a1_2 t379 _ A12.out).mono ?_); rintro e w17 ⟨rfl, hb⟩; replace BK375 := Aside0.mk (blk_below (g := gb375) (o := .cells #[.bool a0_0, .int .u64 a0_1, .int .u64 a0_2] 25 (0, 0)) (zK BK375) hb); replace BK376 := Aside0.mk (blk_below (g := gb376) (o := .cells #[.bool a1_0, .int .u64 a1_1, .int .u64 a1_2] 25 (0, 0)) (zK BK376) hb); replace HB := Aside0.mk (below_step (zB HB) hb); (try clear hb)))
      go_meet
      case rel => exact ⟨_, (!t379), (by first | rfl | (simp; done) | (simp [*]; done)), H', ⟨by first | omega | exact Nat.le_refl _⟩, ⟨zK BK375⟩, ⟨zK BK376⟩, ⟨zB HB⟩⟩
    · replace c11 := Bool.eq_false_iff.mpr c11
      subst c11
      rw [if_neg zF] at H
      have H' := Aside0.mk H
      clear H
      have hnb18 := NB375_376.out
      have hnc18 := NB376_375.out
      obtain ⟨hcz19_0, hcz19_1, hcz19_2⟩ := zc3 BK375
      obtain ⟨hfz19_0, hfz19_1, hfz19_2⟩ := zf3 BK375
      go_wp2_with (first | ((with_reducible refine gate_callee (f := 25) rfl ?_); refine goesL_ (some 13) rfl rfl Tryd.func25 (by kernel_rfl) rfl #[.agg #[.bool a0_0, .int .u64 a0_1, .int .u64 a0_2]] rfl (by (try simp only [List.map_toArray, List.map_cons, List.map_nil]); first | done | rfl | (simp only [List.length_drop, List.length_take]; rfl)) ?_; (with_reducible refine (address_Valid.calls a0_0 a0_1 a0_2 false _ A10.out).mono ?_); rintro e w20 ⟨rfl, hb⟩; refine ⟨_, rfl, ?_⟩; replace BK375 := Aside0.mk (blk_below (g := gb375) (o := .cells #[.bool a0_0, .int .u64 a0_1, .int .u64 a0_2] 25 (0, 0)) (zK BK375) hb); replace BK376 := Aside0.mk (blk_below (g := gb376) (o := .cells #[.bool a1_0, .int .u64 a1_1, .int .u64 a1_2] 25 (0, 0)) (zK BK376) hb); replace HB := Aside0.mk (below_step (zB HB) hb); (try clear hb)))
      go_meet
      case rel => exact ⟨_, (true), (by first | rfl | (simp; done) | (simp [*]; done)), H', ⟨by first | omega | exact Nat.le_refl _⟩, ⟨zK BK375⟩, ⟨zK BK376⟩, ⟨zB HB⟩⟩
   case rest =>
    clear HC6
    try clear c1
    try clear c2
    try clear p2
    try clear c5
    try clear c6
    try clear c10
    try clear c11
    try clear c13
    try clear c18
    try clear hcz14_0
    try clear hcz14_1
    try clear hcz14_2
    try clear hcz16_0
    try clear hcz16_1
    try clear hcz16_2
    try clear hcz19_0
    try clear hcz19_1
    try clear hcz19_2
    try clear hfz14_0
    try clear hfz14_1
    try clear hfz14_2
    try clear hfz16_0
    try clear hfz16_1
    try clear hfz16_2
    try clear hfz19_0
    try clear hfz19_1
    try clear hfz19_2
    obtain ⟨kq, x19_5, rfl, HA, HJ5, BK375, BK376, HB⟩ := hcut
    cases kq with
    | zero => exact absurd HA.out (by simp [intrusionlaw06_AddressContains.j0])
    | succ kj5 =>
     have H := HA.out
     clear HA
     simp only [intrusionlaw06_AddressContains.j0] at H
     by_cases c21 : x19_5 = true
     · subst c21
       rw [if_pos rfl] at H
       obtain rfl := Option.some.inj H
       go_wp2
       go_ret
       exact ⟨by first | rfl | (simp [errW_none, errW_some] <;> rfl) | (simp [*, errW_none, errW_some] <;> rfl), by repeat (first | (with_reducible first | exact HB.out | apply below_alloc | apply pw_below_drewN | apply below_drew1 | refine below_set ?_ GE375.out | refine below_set ?_ GE376.out) | exact HB.out)⟩
     · replace c21 := Bool.eq_false_iff.mpr c21
       subst c21
       rw [if_neg zF] at H
       replace H := Option.bind_eq_some_iff.mp H
       obtain ⟨⟨t380, t381, t382, t383, t384⟩, A220, H⟩ := H
       try dsimp only at H
       have A22 := Aside0.mk A220
       clear A220
       by_cases c23 : t384 = 0
       · rw [if_pos c23] at H
         have c23b0 : (t384 == 0) = true := beq_iff_eq.mpr c23
         have c23b1 : (t384 != 0) = false := bne_eq_false_iff_eq.mpr c23
         clear c23
         replace H := Option.bind_eq_some_iff.mp H
         obtain ⟨⟨t386, t387, t388, t389, t390, t391⟩, A240, H⟩ := H
         try dsimp only at H
         have A24 := Aside0.mk A240
         clear A240
         have HC25 := Aside0.mk H
         clear H
         have hnb26 := NB375_376.out
         have hnc26 := NB376_375.out
         obtain ⟨hcz27_0, hcz27_1, hcz27_2⟩ := zc3 BK375
         obtain ⟨hfz27_0, hfz27_1, hfz27_2⟩ := zf3 BK375
         go_upto_region 9 with (first | ((with_reducible refine gate_callee (f := 26) rfl ?_); refine goesL_ (some 23) rfl rfl Tryd.func26 (by kernel_rfl) rfl #[.agg #[.bool a0_0, .int .u64 a0_1, .int .u64 a0_2], .int .i64 a2] rfl (by (try simp only [List.map_toArray, List.map_cons, List.map_nil]); first | done | rfl | (simp only [List.length_drop, List.length_take]; rfl)) ?_; (with_reducible refine (address_MakePrefix.calls a0_0 a0_1 a0_2 a2 t380 t381 t382 t383 t384 _ A22.out).mono ?_); rintro e w28 ⟨rfl, hb⟩; refine ⟨_, rfl, ?_⟩; replace BK375 := Aside0.mk (blk_below (g := gb375) (o := .cells #[.bool a0_0, .int .u64 a0_1, .int .u64 a0_2] 25 (0, 0)) (zK BK375) hb); replace BK376 := Aside0.mk (blk_below (g := gb376) (o := .cells #[.bool a1_0, .int .u64 a1_1, .int .u64 a1_2] 25 (0, 0)) (zK BK376) hb); replace HB := Aside0.mk (below_step (zB HB) hb); (try clear hb)) | ((with_reducible refine gate_dst (N := 7) rfl ?_); refine zx 7 #[.bool false, .int .u64 0, .int .u64 0, .int .i64 0] 30 ?_; intro gb385 hg w29 hbox hb; have BK385 := Aside0.mk (hbox); have GW385 := Aside0.mk ((by rw [hg]; exact (below_size (zB HB)) : w.heap.size ≤ gb385)); have GE385 := Aside0.mk ((by rw [hg]; exact (below_size (zB HB)) : w.heap.size ≤ gb385)); replace HB := Aside0.mk (below_step (zB HB) hb); have NB375_385 := Aside0.mk ((by rw [hg]; exact Nat.ne_of_lt (blk_lt (g := gb375) (o := .cells #[.bool a0_0, .int .u64 a0_1, .int .u64 a0_2] 25 (0, 0)) (zK BK375)) : gb375 ≠ gb385)); have NB385_375 := Aside0.mk ((by rw [hg]; exact Nat.ne_of_gt (blk_lt (g := gb375) (o := .cells #[.bool a0_0, .int .u64 a0_1, .int .u64 a0_2] 25 (0, 0)) (zK BK375)) : gb385 ≠ gb375)); replace BK375 := Aside0.mk (blk_below (g := gb375) (o := .cells #[.bool a0_0, .int .u64 a0_1, .int .u64 a0_2] 25 (0, 0)) (zK BK375) hb); have NB376_385 := Aside0.mk ((by rw [hg]; exact Nat.ne_of_lt (blk_lt (g := gb376) (o := .cells #[.bool a1_0, .int .u64 a1_1, .int .u64 a1_2] 25 (0, 0)) (zK BK376)) : gb376 ≠ gb385)); have NB385_376 := Aside0.mk ((by rw [hg]; exact Nat.ne_of_gt (blk_lt (g := gb376) (o := .cells #[.bool a1_0, .int .u64 a1_1, .int .u64 a1_2] 25 (0, 0)) (zK BK376)) : gb385 ≠ gb376)); replace BK376 := Aside0.mk (blk_below (g := gb376) (o := .cells #[.bool a1_0, .int .u64 a1_1, .int .u64 a1_2] 25 (0, 0)) (zK BK376) hb); clear hb hbox hg; have hnb30 := NB385_375.out; have hnc30 := NB375_385.out; have hnb31 := NB385_376.out; have hnc31 := NB376_385.out; obtain ⟨hcz32_0, hcz32_1, hcz32_2, hcz32_3⟩ := zc4 BK385; obtain ⟨hfz32_0, hfz32_1, hfz32_2, hfz32_3⟩ := zf4 BK385) | ((with_reducible refine gate_callee (f := 27) rfl ?_); refine goesL_ (some 29) rfl rfl Tryd.func27 (by kernel_rfl) rfl #[.agg #[.bool t380, .int .u64 t381, .int .u64 t382, .int .i64 t383]] rfl (by (try simp only [List.map_toArray, List.map_cons, List.map_nil]); first | done | rfl | (simp only [List.length_drop, List.length_take]; rfl)) ?_; (with_reducible refine (address_Bounds.calls t380 t381 t382 t383 t386 t387 t388 t389 t390 t391 _ A24.out).mono ?_); rintro e w33 ⟨rfl, hb⟩; refine ⟨_, rfl, ?_⟩; replace BK375 := Aside0.mk (blk_below (g := gb375) (o := .cells #[.bool a0_0, .int .u64 a0_1, .int .u64 a0_2] 25 (0, 0)) (by refine zL ?_; refine blk_far ?_ NB375_385.out _; refine zL ?_; refine blk_far ?_ NB375_385.out _; refine zL ?_; refine blk_far ?_ NB375_385.out _; refine zL ?_; refine blk_far ?_ NB375_385.out _; refine zL ?_; exact BK375.out) hb); replace BK376 := Aside0.mk (blk_below (g := gb376) (o := .cells #[.bool a1_0, .int .u64 a1_1, .int .u64 a1_2] 25 (0, 0)) (by refine zL ?_; refine blk_far ?_ NB376_385.out _; refine zL ?_; refine blk_far ?_ NB376_385.out _; refine zL ?_; refine blk_far ?_ NB376_385.out _; refine zL ?_; refine blk_far ?_ NB376_385.out _; refine zL ?_; exact BK376.out) hb); replace BK385 := Aside0.mk (blk_below (g := gb385) (o := .cells #[.bool t380, .int .u64 t381, .int .u64 t382, .int .i64 t383] 30 (0, 0)) (by refine zL ?_; refine blk_put (cs := #[.bool t380, .int .u64 t381, .int .u64 t382, .int .i64 0]) ?_ 3 _ rfl; refine zL ?_; refine blk_put (cs := #[.bool t380, .int .u64 t381, .int .u64 0, .int .i64 0]) ?_ 2 _ rfl; refine zL ?_; refine blk_put (cs := #[.bool t380, .int .u64 0, .int .u64 0, .int .i64 0]) ?_ 1 _ rfl; refine zL ?_; refine blk_put (cs := #[.bool false, .int .u64 0, .int .u64 0, .int .i64 0]) ?_ 0 _ rfl; refine zL ?_; exact BK385.out) hb); replace HB := Aside0.mk (below_step (zB HB) hb); (try clear hb)) | ((with_reducible refine gate_dst (N := 9) rfl ?_); refine zx 9 #[.bool false, .int .u64 0, .int .u64 0, .bool false, .int .u64 0, .int .u64 0] 43 ?_; intro gb392 hg w34 hbox hb; have BK392 := Aside0.mk (hbox); have GW392 := Aside0.mk ((by rw [hg]; exact (below_size (zB HB)) : w.heap.size ≤ gb392)); have GE392 := Aside0.mk ((by rw [hg]; exact (below_size (zB HB)) : w.heap.size ≤ gb392)); replace HB := Aside0.mk (below_step (zB HB) hb); have NB375_392 := Aside0.mk ((by rw [hg]; exact Nat.ne_of_lt (blk_lt (g := gb375) (o := .cells #[.bool a0_0, .int .u64 a0_1, .int .u64 a0_2] 25 (0, 0)) (zK BK375)) : gb375 ≠ gb392)); have NB392_375 := Aside0.mk ((by rw [hg]; exact Nat.ne_of_gt (blk_lt (g := gb375) (o := .cells #[.bool a0_0, .int .u64 a0_1, .int .u64 a0_2] 25 (0, 0)) (zK BK375)) : gb392 ≠ gb375)); replace BK375 := Aside0.mk (blk_below (g := gb375) (o := .cells #[.bool a0_0, .int .u64 a0_1, .int .u64 a0_2] 25 (0, 0)) (zK BK375) hb); have NB376_392 := Aside0.mk ((by rw [hg]; exact Nat.ne_of_lt (blk_lt (g := gb376) (o := .cells #[.bool a1_0, .int .u64 a1_1, .int .u64 a1_2] 25 (0, 0)) (zK BK376)) : gb376 ≠ gb392)); have NB392_376 := Aside0.mk ((by rw [hg]; exact Nat.ne_of_gt (blk_lt (g := gb376) (o := .cells #[.bool a1_0, .int .u64 a1_1, .int .u64 a1_2] 25 (0, 0)) (zK BK376)) : gb392 ≠ gb376)); replace BK376 := Aside0.mk (blk_below (g := gb376) (o := .cells #[.bool a1_0, .int .u64 a1_1, .int .u64 a1_2] 25 (0, 0)) (zK BK376) hb); have NB385_392 := Aside0.mk ((by rw [hg]; exact Nat.ne_of_lt (blk_lt (g := gb385) (o := .cells #[.bool t380, .int .u64 t381, .int .u64 t382, .int .i64 t383] 30 (0, 0)) (zK BK385)) : gb385 ≠ gb392)); have NB392_385 := Aside0.mk ((by rw [hg]; exact Nat.ne_of_gt (blk_lt (g := gb385) (o := .cells #[.bool t380, .int .u64 t381, .int .u64 t382, .int .i64 t383] 30 (0, 0)) (zK BK385)) : gb392 ≠ gb385)); replace BK385 := Aside0.mk (blk_below (g := gb385) (o := .cells #[.bool t380, .int .u64 t381, .int .u64 t382, .int .i64 t383] 30 (0, 0)) (zK BK385) hb); clear hb hbox hg; have hnb35 := NB392_375.out; have hnc35 := NB375_392.out; have hnb36 := NB392_376.out; have hnc36 := NB376_392.out; have hnb37 := NB392_385.out; have hnc37 := NB385_392.out; obtain ⟨hcz38_0, hcz38_1, hcz38_2, hcz38_3, hcz38_4, hcz38_5⟩ := zc6 BK392; obtain ⟨hfz38_0, hfz38_1, hfz38_2, hfz38_3, hfz38_4, hfz38_5⟩ := zf6 BK392))
         (try simp only [Act.put, List.setIfInBounds_toArray, List.set_cons_zero, List.set_cons_succ])
         go_cut [47] (fun v47 wc => ∃ (kq : Nat) (x47_24 : Bool), v47 = .bool x47_24 ∧ Aside0 (intrusionlaw06_AddressContains.j1 kq x47_24 a1_0 a1_1 a1_2 t380 t381 t382 t383 t386 t387 t388 t389 t390 t391 = some r) ∧ Aside0 (kq ≤ kj5) ∧ Aside0 (wc.heap[gb375]? = some (.cells #[.bool a0_0, .int .u64 a0_1, .int .u64 a0_2] 25 (0, 0))) ∧ Aside0 (wc.heap[gb376]? = some (.cells #[.bool a1_0, .int .u64 a1_1, .int .u64 a1_2] 25 (0, 0))) ∧ Aside0 (wc.heap[gb385]? = some (.cells #[.bool t380, .int .u64 t381, .int .u64 t382, .int .i64 t383] 30 (0, 0))) ∧ Aside0 (wc.heap[gb392]? = some (.cells #[.bool t386, .int .u64 t387, .int .u64 t388, .bool t389, .int .u64 t390, .int .u64 t391] 43 (0, 0))) ∧ Aside0 (Below w.heap.size w wc))
         case first =>
          have H := HC25.out
          clear HC25
          replace H := Option.bind_eq_some_iff.mp H
          obtain ⟨t393, A390, H⟩ := H
          try dsimp only at H
          have A39 := Aside0.mk A390
          clear A390
          by_cases c40 : t393 = true
          · subst c40
            rw [if_pos rfl] at H
            replace H := Option.bind_eq_some_iff.mp H
            obtain ⟨t394, A410, H⟩ := H
            try dsimp only at H
            have A41 := Aside0.mk A410
            clear A410
            by_cases c42 : t394 = true
            · subst c42
              rw [if_pos rfl] at H
              replace H := Option.bind_eq_some_iff.mp H
              obtain ⟨t395, A430, H⟩ := H
              try dsimp only at H
              have A43 := Aside0.mk A430
              clear A430
              have H' := Aside0.mk H
              clear H
              have hnb44 := NB385_375.out
              have hnc44 := NB375_385.out
              have hnb45 := NB385_376.out
              have hnc45 := NB376_385.out
              have hnb46 := NB385_392.out
              have hnc46 := NB392_385.out
              obtain ⟨hcz47_0, hcz47_1, hcz47_2, hcz47_3⟩ := zc4 BK385
              obtain ⟨hfz47_0, hfz47_1, hfz47_2, hfz47_3⟩ := zf4 BK385
              have hnb48 := NB375_376.out
              have hnc48 := NB376_375.out
              have hnb49 := NB375_392.out
              have hnc49 := NB392_375.out
              obtain ⟨hcz50_0, hcz50_1, hcz50_2⟩ := zc3 BK375
              obtain ⟨hfz50_0, hfz50_1, hfz50_2⟩ := zf3 BK375
              go_wp2_with (first | ((with_reducible refine gate_callee (f := 23) rfl ?_); refine goesL_ (some 32) rfl rfl Tryd.func23 (by kernel_rfl) rfl #[.agg #[.bool t380, .int .u64 t381, .int .u64 t382, .int .i64 t383], .agg #[.bool a0_0, .int .u64 a0_1, .int .u64 a0_2]] rfl (by (try simp only [List.map_toArray, List.map_cons, List.map_nil]); first | done | rfl | (simp only [List.length_drop, List.length_take]; rfl)) ?_; (with_reducible refine (address_Contains.calls t380 t381 t382 t383 a0_0 a0_1 a0_2 true _ A39.out).mono ?_); rintro e w51 ⟨rfl, hb⟩; refine ⟨_, rfl, ?_⟩; replace BK375 := Aside0.mk (blk_below (g := gb375) (o := .cells #[.bool a0_0, .int .u64 a0_1, .int .u64 a0_2] 25 (0, 0)) (by refine zL ?_; refine blk_far ?_ NB375_392.out _; refine zL ?_; refine blk_far ?_ NB375_392.out _; refine zL ?_; refine blk_far ?_ NB375_392.out _; refine zL ?_; refine blk_far ?_ NB375_392.out _; refine zL ?_; refine blk_far ?_ NB375_392.out _; refine zL ?_; refine blk_far ?_ NB375_392.out _; refine zL ?_; exact BK375.out) hb); replace BK376 := Aside0.mk (blk_below (g := gb376) (o := .cells #[.bool a1_0, .int .u64 a1_1, .int .u64 a1_2] 25 (0, 0)) (by refine zL ?_; refine blk_far ?_ NB376_392.out _; refine zL ?_; refine blk_far ?_ NB376_392.out _; refine zL ?_; refine blk_far ?_ NB376_392.out _; refine zL ?_; refine blk_far ?_ NB376_392.out _; refine zL ?_; refine blk_far ?_ NB376_392.out _; refine zL ?_; refine blk_far ?_ NB376_392.out _; refine zL ?_; exact BK376.out) hb); replace BK385 := Aside0.mk (blk_below (g := gb385) (o := .cells #[.bool t380, .int .u64 t381, .int .u64 t382, .int .i64 t383] 30 (0, 0)) (by refine zL ?_; refine blk_far ?_ NB385_392.out _; refine zL ?_; refine blk_far ?_ NB385_392.out _; refine zL ?_; refine blk_far ?_ NB385_392.out _; refine zL ?_; refine blk_far ?_ NB385_392.out _; refine zL ?_; refine blk_far ?_ NB385_392.out _; refine zL ?_; refine blk_far ?_ NB385_392.out _; refine zL ?_; exact BK385.out) hb); replace BK392 := Aside0.mk (blk_below (g := gb392) (o := .cells #[.bool t386, .int .u64 t387, .int .u64 t388, .bool t389, .int .u64 t390, .int .u64 t391] 43 (0, 0)) (by refine zL ?_; refine blk_put (cs := #[.bool t386, .int .u64 t387, .int .u64 t388, .bool t389, .int .u64 t390, .int .u64 0]) ?_ 5 _ rfl; refine zL ?_; refine blk_put (cs := #[.bool t386, .int .u64 t387, .int .u64 t388, .bool t389, .int .u64 0, .int .u64 0]) ?_ 4 _ rfl; refine zL ?_; refine blk_put (cs := #[.bool t386, .int .u64 t387, .int .u64 t388, .bool false, .int .u64 0, .int .u64 0]) ?_ 3 _ rfl; refine zL ?_; refine blk_put (cs := #[.bool t386, .int .u64 t387, .int .u64 0, .bool false, .int .u64 0, .int .u64 0]) ?_ 2 _ rfl; refine zL ?_; refine blk_put (cs := #[.bool t386, .int .u64 0, .int .u64 0, .bool false, .int .u64 0, .int .u64 0]) ?_ 1 _ rfl; refine zL ?_; refine blk_put (cs := #[.bool false, .int .u64 0, .int .u64 0, .bool false, .int .u64 0, .int .u64 0]) ?_ 0 _ rfl; refine zL ?_; exact BK392.out) hb); replace HB := Aside0.mk (below_step (zB HB) hb); (try clear hb); obtain ⟨hcz52_0, hcz52_1, hcz52_2, hcz52_3⟩ := zc4 BK385; obtain ⟨hfz52_0, hfz52_1, hfz52_2, hfz52_3⟩ := zf4 BK385; have hnb53 := NB392_376.out; have hnc53 := NB376_392.out; obtain ⟨hcz54_0, hcz54_1, hcz54_2, hcz54_3, hcz54_4, hcz54_5⟩ := zc6 BK392; obtain ⟨hfz54_0, hfz54_1, hfz54_2, hfz54_3, hfz54_4, hfz54_5⟩ := zf6 BK392) | (go_at_call 23; (with_reducible refine (address_Contains.calls t380 t381 t382 t383 t386 t387 t388 true _ A41.out).mono ?_); rintro e w55 ⟨rfl, hb⟩; replace BK375 := Aside0.mk (blk_below (g := gb375) (o := .cells #[.bool a0_0, .int .u64 a0_1, .int .u64 a0_2] 25 (0, 0)) (zK BK375) hb); replace BK376 := Aside0.mk (blk_below (g := gb376) (o := .cells #[.bool a1_0, .int .u64 a1_1, .int .u64 a1_2] 25 (0, 0)) (zK BK376) hb); replace BK385 := Aside0.mk (blk_below (g := gb385) (o := .cells #[.bool t380, .int .u64 t381, .int .u64 t382, .int .i64 t383] 30 (0, 0)) (zK BK385) hb); replace BK392 := Aside0.mk (blk_below (g := gb392) (o := .cells #[.bool t386, .int .u64 t387, .int .u64 t388, .bool t389, .int .u64 t390, .int .u64 t391] 43 (0, 0)) (zK BK392) hb); replace HB := Aside0.mk (below_step (zB HB) hb); (try clear hb); obtain ⟨hcz56_0, hcz56_1, hcz56_2, hcz56_3⟩ := zc4 BK385; obtain ⟨hfz56_0, hfz56_1, hfz56_2, hfz56_3⟩ := zf4 BK385; obtain ⟨hcz57_0, hcz57_1, hcz57_2, hcz57_3, hcz57_4, hcz57_5⟩ := zc6 BK392; obtain ⟨hfz57_0, hfz57_1, hfz57_2, hfz57_3, hfz57_4, hfz57_5⟩ := zf6 BK392) | (go_at_call 23; (with_reducible refine (address_Contains.calls t380 t381 t382 t383 t389 t390 t391 t395 _ A43.out).mono ?_); rintro e w58 ⟨rfl, hb⟩; replace BK375 := Aside0.mk (blk_below (g := gb375) (o := .cells #[.bool a0_0, .int .u64 a0_1, .int .u64 a0_2] 25 (0, 0)) (zK BK375) hb); replace BK376 := Aside0.mk (blk_below (g := gb376) (o := .cells #[.bool a1_0, .int .u64 a1_1, .int .u64 a1_2] 25 (0, 0)) (zK BK376) hb); replace BK385 := Aside0.mk (blk_below (g := gb385) (o := .cells #[.bool t380, .int .u64 t381, .int .u64 t382, .int .i64 t383] 30 (0, 0)) (zK BK385) hb); replace BK392 := Aside0.mk (blk_below (g := gb392) (o := .cells #[.bool t386, .int .u64 t387, .int .u64 t388, .bool t389, .int .u64 t390, .int .u64 t391] 43 (0, 0)) (zK BK392) hb); replace HB := Aside0.mk (below_step (zB HB) hb); (try clear hb)))
              go_meet
              case rel => exact ⟨_, (!t395), (by first | rfl | (simp; done) | (simp [*]; done)), H', ⟨by have := HJ5.out; first | omega | exact Nat.le_refl _⟩, ⟨zK BK375⟩, ⟨zK BK376⟩, ⟨zK BK385⟩, ⟨zK BK392⟩, ⟨zB HB⟩⟩
            · replace c42 := Bool.eq_false_iff.mpr c42
              subst c42
              rw [if_neg zF] at H
              have H' := Aside0.mk H
              clear H
              have hnb59 := NB385_375.out
              have hnc59 := NB375_385.out
              have hnb60 := NB385_376.out
              have hnc60 := NB376_385.out
              have hnb61 := NB385_392.out
              have hnc61 := NB392_385.out
              obtain ⟨hcz62_0, hcz62_1, hcz62_2, hcz62_3⟩ := zc4 BK385
              obtain ⟨hfz62_0, hfz62_1, hfz62_2, hfz62_3⟩ := zf4 BK385
              have hnb63 := NB375_376.out
              have hnc63 := NB376_375.out
              have hnb64 := NB375_392.out
              have hnc64 := NB392_375.out
              obtain ⟨hcz65_0, hcz65_1, hcz65_2⟩ := zc3 BK375
              obtain ⟨hfz65_0, hfz65_1, hfz65_2⟩ := zf3 BK375
              go_wp2_with (first | ((with_reducible refine gate_callee (f := 23) rfl ?_); refine goesL_ (some 32) rfl rfl Tryd.func23 (by kernel_rfl) rfl #[.agg #[.bool t380, .int .u64 t381, .int .u64 t382, .int .i64 t383], .agg #[.bool a0_0, .int .u64 a0_1, .int .u64 a0_2]] rfl (by (try simp only [List.map_toArray, List.map_cons, List.map_nil]); first | done | rfl | (simp only [List.length_drop, List.length_take]; rfl)) ?_; (with_reducible refine (address_Contains.calls t380 t381 t382 t383 a0_0 a0_1 a0_2 true _ A39.out).mono ?_); rintro e w66 ⟨rfl, hb⟩; refine ⟨_, rfl, ?_⟩; replace BK375 := Aside0.mk (blk_below (g := gb375) (o := .cells #[.bool a0_0, .int .u64 a0_1, .int .u64 a0_2] 25 (0, 0)) (by refine zL ?_; refine blk_far ?_ NB375_392.out _; refine zL ?_; refine blk_far ?_ NB375_392.out _; refine zL ?_; refine blk_far ?_ NB375_392.out _; refine zL ?_; refine blk_far ?_ NB375_392.out _; refine zL ?_; refine blk_far ?_ NB375_392.out _; refine zL ?_; refine blk_far ?_ NB375_392.out _; refine zL ?_; exact BK375.out) hb); replace BK376 := Aside0.mk (blk_below (g := gb376) (o := .cells #[.bool a1_0, .int .u64 a1_1, .int .u64 a1_2] 25 (0, 0)) (by refine zL ?_; refine blk_far ?_ NB376_392.out _; refine zL ?_; refine blk_far ?_ NB376_392.out _; refine zL ?_; refine blk_far ?_ NB376_392.out _; refine zL ?_; refine blk_far ?_ NB376_392.out _; refine zL ?_; refine blk_far ?_ NB376_392.out _; refine zL ?_; refine blk_far ?_ NB376_392.out _; refine zL ?_; exact BK376.out) hb); replace BK385 := Aside0.mk (blk_below (g := gb385) (o := .cells #[.bool t380, .int .u64 t381, .int .u64 t382, .int .i64 t383] 30 (0, 0)) (by refine zL ?_; refine blk_far ?_ NB385_392.out _; refine zL ?_; refine blk_far ?_ NB385_392.out _; refine zL ?_; refine blk_far ?_ NB385_392.out _; refine zL ?_; refine blk_far ?_ NB385_392.out _; refine zL ?_; refine blk_far ?_ NB385_392.out _; refine zL ?_; refine blk_far ?_ NB385_392.out _; refine zL ?_; exact BK385.out) hb); replace BK392 := Aside0.mk (blk_below (g := gb392) (o := .cells #[.bool t386, .int .u64 t387, .int .u64 t388, .bool t389, .int .u64 t390, .int .u64 t391] 43 (0, 0)) (by refine zL ?_; refine blk_put (cs := #[.bool t386, .int .u64 t387, .int .u64 t388, .bool t389, .int .u64 t390, .int .u64 0]) ?_ 5 _ rfl; refine zL ?_; refine blk_put (cs := #[.bool t386, .int .u64 t387, .int .u64 t388, .bool t389, .int .u64 0, .int .u64 0]) ?_ 4 _ rfl; refine zL ?_; refine blk_put (cs := #[.bool t386, .int .u64 t387, .int .u64 t388, .bool false, .int .u64 0, .int .u64 0]) ?_ 3 _ rfl; refine zL ?_; refine blk_put (cs := #[.bool t386, .int .u64 t387, .int .u64 0, .bool false, .int .u64 0, .int .u64 0]) ?_ 2 _ rfl; refine zL ?_; refine blk_put (cs := #[.bool t386, .int .u64 0, .int .u64 0, .bool false, .int .u64 0, .int .u64 0]) ?_ 1 _ rfl; refine zL ?_; refine blk_put (cs := #[.bool false, .int .u64 0, .int .u64 0, .bool false, .int .u64 0, .int .u64 0]) ?_ 0 _ rfl; refine zL ?_; exact BK392.out) hb); replace HB := Aside0.mk (below_step (zB HB) hb); (try clear hb); obtain ⟨hcz67_0, hcz67_1, hcz67_2, hcz67_3⟩ := zc4 BK385; obtain ⟨hfz67_0, hfz67_1, hfz67_2, hfz67_3⟩ := zf4 BK385; have hnb68 := NB392_376.out; have hnc68 := NB376_392.out; obtain ⟨hcz69_0, hcz69_1, hcz69_2, hcz69_3, hcz69_4, hcz69_5⟩ := zc6 BK392; obtain ⟨hfz69_0, hfz69_1, hfz69_2, hfz69_3, hfz69_4, hfz69_5⟩ := zf6 BK392) | (go_at_call 23; (with_reducible refine (address_Contains.calls t380 t381 t382 t383 t386 t387 t388 false _ A41.out).mono ?_); rintro e w70 ⟨rfl, hb⟩; replace BK375 := Aside0.mk (blk_below (g := gb375) (o := .cells #[.bool a0_0, .int .u64 a0_1, .int .u64 a0_2] 25 (0, 0)) (zK BK375) hb); replace BK376 := Aside0.mk (blk_below (g := gb376) (o := .cells #[.bool a1_0, .int .u64 a1_1, .int .u64 a1_2] 25 (0, 0)) (zK BK376) hb); replace BK385 := Aside0.mk (blk_below (g := gb385) (o := .cells #[.bool t380, .int .u64 t381, .int .u64 t382, .int .i64 t383] 30 (0, 0)) (zK BK385) hb); replace BK392 := Aside0.mk (blk_below (g := gb392) (o := .cells #[.bool t386, .int .u64 t387, .int .u64 t388, .bool t389, .int .u64 t390, .int .u64 t391] 43 (0, 0)) (zK BK392) hb); replace HB := Aside0.mk (below_step (zB HB) hb); (try clear hb)))
              go_meet
              case rel => exact ⟨_, (true), (by first | rfl | (simp; done) | (simp [*]; done)), H', ⟨by have := HJ5.out; first | omega | exact Nat.le_refl _⟩, ⟨zK BK375⟩, ⟨zK BK376⟩, ⟨zK BK385⟩, ⟨zK BK392⟩, ⟨zB HB⟩⟩
          · replace c40 := Bool.eq_false_iff.mpr c40
            subst c40
            rw [if_neg zF] at H
            have H' := Aside0.mk H
            clear H
            have hnb71 := NB385_375.out
            have hnc71 := NB375_385.out
            have hnb72 := NB385_376.out
            have hnc72 := NB376_385.out
            have hnb73 := NB385_392.out
            have hnc73 := NB392_385.out
            obtain ⟨hcz74_0, hcz74_1, hcz74_2, hcz74_3⟩ := zc4 BK385
            obtain ⟨hfz74_0, hfz74_1, hfz74_2, hfz74_3⟩ := zf4 BK385
            have hnb75 := NB375_376.out
            have hnc75 := NB376_375.out
            have hnb76 := NB375_392.out
            have hnc76 := NB392_375.out
            obtain ⟨hcz77_0, hcz77_1, hcz77_2⟩ := zc3 BK375
            obtain ⟨hfz77_0, hfz77_1, hfz77_2⟩ := zf3 BK375
            go_wp2_with (first | ((with_reducible refine gate_callee (f := 23) rfl ?_); refine goesL_ (some 32) rfl rfl Tryd.func23 (by kernel_rfl) rfl #[.agg #[.bool t380, .int .u64 t381, .int .u64 t382, .int .i64 t383], .agg #[.bool a0_0, .int .u64 a0_1, .int .u64 a0_2]] rfl (by (try simp only [List.map_toArray, List.map_cons, List.map_nil]); first | done | rfl | (simp only [List.length_drop, List.length_take]; rfl)) ?_; (with_reducible refine (address_Contains.calls t380 t381 t382 t383 a0_0 a0_1 a0_2 false _ A39.out).mono ?_); rintro e w78 ⟨rfl, hb⟩; refine ⟨_, rfl, ?_⟩; replace BK375 := Aside0.mk (blk_below (g := gb375) (o := .cells #[.bool a0_0, .int .u64 a0_1, .int .u64 a0_2] 25 (0, 0)) (by refine zL ?_; refine blk_far ?_ NB375_392.out _; refine zL ?_; refine blk_far ?_ NB375_392.out _; refine zL ?_; refine blk_far ?_ NB375_392.out _; refine zL ?_; refine blk_far ?_ NB375_392.out _; refine zL ?_; refine blk_far ?_ NB375_392.out _; refine zL ?_; refine blk_far ?_ NB375_392.out _; refine zL ?_; exact BK375.out) hb); replace BK376 := Aside0.mk (blk_below (g := gb376) (o := .cells #[.bool a1_0, .int .u64 a1_1, .int .u64 a1_2] 25 (0, 0)) (by refine zL ?_; refine blk_far ?_ NB376_392.out _; refine zL ?_; refine blk_far ?_ NB376_392.out _; refine zL ?_; refine blk_far ?_ NB376_392.out _; refine zL ?_; refine blk_far ?_ NB376_392.out _; refine zL ?_; refine blk_far ?_ NB376_392.out _; refine zL ?_; refine blk_far ?_ NB376_392.out _; refine zL ?_; exact BK376.out) hb); replace BK385 := Aside0.mk (blk_below (g := gb385) (o := .cells #[.bool t380, .int .u64 t381, .int .u64 t382, .int .i64 t383] 30 (0, 0)) (by refine zL ?_; refine blk_far ?_ NB385_392.out _; refine zL ?_; refine blk_far ?_ NB385_392.out _; refine zL ?_; refine blk_far ?_ NB385_392.out _; refine zL ?_; refine blk_far ?_ NB385_392.out _; refine zL ?_; refine blk_far ?_ NB385_392.out _; refine zL ?_; refine blk_far ?_ NB385_392.out _; refine zL ?_; exact BK385.out) hb); replace BK392 := Aside0.mk (blk_below (g := gb392) (o := .cells #[.bool t386, .int .u64 t387, .int .u64 t388, .bool t389, .int .u64 t390, .int .u64 t391] 43 (0, 0)) (by refine zL ?_; refine blk_put (cs := #[.bool t386, .int .u64 t387, .int .u64 t388, .bool t389, .int .u64 t390, .int .u64 0]) ?_ 5 _ rfl; refine zL ?_; refine blk_put (cs := #[.bool t386, .int .u64 t387, .int .u64 t388, .bool t389, .int .u64 0, .int .u64 0]) ?_ 4 _ rfl; refine zL ?_; refine blk_put (cs := #[.bool t386, .int .u64 t387, .int .u64 t388, .bool false, .int .u64 0, .int .u64 0]) ?_ 3 _ rfl; refine zL ?_; refine blk_put (cs := #[.bool t386, .int .u64 t387, .int .u64 0, .bool false, .int .u64 0, .int .u64 0]) ?_ 2 _ rfl; refine zL ?_; refine blk_put (cs := #[.bool t386, .int .u64 0, .int .u64 0, .bool false, .int .u64 0, .int .u64 0]) ?_ 1 _ rfl; refine zL ?_; refine blk_put (cs := #[.bool false, .int .u64 0, .int .u64 0, .bool false, .int .u64 0, .int .u64 0]) ?_ 0 _ rfl; refine zL ?_; exact BK392.out) hb); replace HB := Aside0.mk (below_step (zB HB) hb); (try clear hb)))
            go_meet
            case rel => exact ⟨_, (true), (by first | rfl | (simp; done) | (simp [*]; done)), H', ⟨by have := HJ5.out; first | omega | exact Nat.le_refl _⟩, ⟨zK BK375⟩, ⟨zK BK376⟩, ⟨zK BK385⟩, ⟨zK BK392⟩, ⟨zB HB⟩⟩
         case rest =>
          clear HC25
          try clear c1
          try clear c2
          try clear p2
          try clear c3
          try clear c4
          try clear c5
          try clear c6
          try clear c7
          try clear c10
          try clear c11
          try clear c13
          try clear c18
          try clear c21
          try clear c23
          try clear c23b0
          try clear c23b1
          try clear c25
          try clear c26
          try clear c27
          try clear c30
          try clear c31
          try clear c35
          try clear c36
          try clear c37
          try clear c40
          try clear c42
          try clear c44
          try clear c45
          try clear c46
          try clear c48
          try clear c49
          try clear c53
          try clear c59
          try clear c60
          try clear c61
          try clear c63
          try clear c64
          try clear c68
          try clear c71
          try clear c72
          try clear c73
          try clear c75
          try clear c76
          try clear hcz14_0
          try clear hcz14_1
          try clear hcz14_2
          try clear hcz16_0
          try clear hcz16_1
          try clear hcz16_2
          try clear hcz19_0
          try clear hcz19_1
          try clear hcz19_2
          try clear hcz27_0
          try clear hcz27_1
          try clear hcz27_2
          try clear hcz32_0
          try clear hcz32_1
          try clear hcz32_2
          try clear hcz32_3
          try clear hcz38_0
          try clear hcz38_1
          try clear hcz38_2
          try clear hcz38_3
          try clear hcz38_4
          try clear hcz38_5
          try clear hcz47_0
          try clear hcz47_1
          try clear hcz47_2
          try clear hcz47_3
          try clear hcz50_0
          try clear hcz50_1
          try clear hcz50_2
          try clear hcz52_0
          try clear hcz52_1
          try clear hcz52_2
          try clear hcz52_3
          try clear hcz54_0
          try clear hcz54_1
          try clear hcz54_2
          try clear hcz54_3
          try clear hcz54_4
          try clear hcz54_5
          try clear hcz56_0
          try clear hcz56_1
          try clear hcz56_2
          try clear hcz56_3
          try clear hcz57_0
          try clear hcz57_1
          try clear hcz57_2
          try clear hcz57_3
          try clear hcz57_4
          try clear hcz57_5
          try clear hcz62_0
          try clear hcz62_1
          try clear hcz62_2
          try clear hcz62_3
          try clear hcz65_0
          try clear hcz65_1
          try clear hcz65_2
          try clear hcz67_0
          try clear hcz67_1
          try clear hcz67_2
          try clear hcz67_3
          try clear hcz69_0
          try clear hcz69_1
          try clear hcz69_2
          try clear hcz69_3
          try clear hcz69_4
          try clear hcz69_5
          try clear hcz74_0
          try clear hcz74_1
          try clear hcz74_2
          try clear hcz74_3
          try clear hcz77_0
          try clear hcz77_1
          try clear hcz77_2
          try clear hfz14_0
          try clear hfz14_1
          try clear hfz14_2
          try clear hfz16_0
          try clear hfz16_1
          try clear hfz16_2
          try clear hfz19_0
          try clear hfz19_1
          try clear hfz19_2
          try clear hfz27_0
          try clear hfz27_1
          try clear hfz27_2
          try clear hfz32_0
          try clear hfz32_1
          try clear hfz32_2
          try clear hfz32_3
          try clear hfz38_0
          try clear hfz38_1
          try clear hfz38_2
          try clear hfz38_3
          try clear hfz38_4
          try clear hfz38_5
          try clear hfz47_0
          try clear hfz47_1
          try clear hfz47_2
          try clear hfz47_3
          try clear hfz50_0
          try clear hfz50_1
          try clear hfz50_2
          try clear hfz52_0
          try clear hfz52_1
          try clear hfz52_2
          try clear hfz52_3
          try clear hfz54_0
          try clear hfz54_1
          try clear hfz54_2
          try clear hfz54_3
          try clear hfz54_4
          try clear hfz54_5
          try clear hfz56_0
          try clear hfz56_1
          try clear hfz56_2
          try clear hfz56_3
          try clear hfz57_0
          try clear hfz57_1
          try clear hfz57_2
          try clear hfz57_3
          try clear hfz57_4
          try clear hfz57_5
          try clear hfz62_0
          try clear hfz62_1
          try clear hfz62_2
          try clear hfz62_3
          try clear hfz65_0
          try clear hfz65_1
          try clear hfz65_2
          try clear hfz67_0
          try clear hfz67_1
          try clear hfz67_2
          try clear hfz67_3
          try clear hfz69_0
          try clear hfz69_1
          try clear hfz69_2
          try clear hfz69_3
          try clear hfz69_4
          try clear hfz69_5
          try clear hfz74_0
          try clear hfz74_1
          try clear hfz74_2
          try clear hfz74_3
          try clear hfz77_0
          try clear hfz77_1
          try clear hfz77_2
          try clear p2
          obtain ⟨kq, x47_24, rfl, HA, HJ24, BK375, BK376, BK385, BK392, HB⟩ := hcut
          cases kq with
          | zero => exact absurd HA.out (by simp [intrusionlaw06_AddressContains.j1])
          | succ kj24 =>
           have H := HA.out
           clear HA
           simp only [intrusionlaw06_AddressContains.j1] at H
           by_cases c79 : x47_24 = true
           · subst c79
             rw [if_pos rfl] at H
             obtain rfl := Option.some.inj H
             go_wp2
             go_ret
             exact ⟨by first | rfl | (simp [errW_none, errW_some] <;> rfl) | (simp [*, errW_none, errW_some] <;> rfl), by repeat (first | (with_reducible first | exact HB.out | apply below_alloc | apply pw_below_drewN | apply below_drew1 | refine below_set ?_ GE375.out | refine below_set ?_ GE376.out | refine below_set ?_ GE385.out | refine below_set ?_ GE392.out) | exact HB.out)⟩
           · replace c79 := Bool.eq_false_iff.mpr c79
             subst c79
             rw [if_neg zF] at H
             replace H := Option.bind_eq_some_iff.mp H
             obtain ⟨t396, A800, H⟩ := H
             try dsimp only at H
             have A80 := Aside0.mk A800
             clear A800
             replace H := Option.bind_eq_some_iff.mp H
             obtain ⟨t397, A810, H⟩ := H
             try dsimp only at H
             have A81 := Aside0.mk A810
             clear A810
             by_cases c82 : t397 ≤ 0
             · rw [if_pos c82] at H
               have c82b0 : decide (t397 ≤ 0) = true := decide_eq_true c82
               clear c82
               replace H := Option.bind_eq_some_iff.mp H
               obtain ⟨t398, A830, H⟩ := H
               try dsimp only at H
               have A83 := Aside0.mk A830
               clear A830
               obtain rfl := Option.some.inj H
               try go_wp2
               replace BK375 := Aside0.mk (blk_drew BK375.out)
               replace BK376 := Aside0.mk (blk_drew BK376.out)
               replace BK385 := Aside0.mk (blk_drew BK385.out)
               replace BK392 := Aside0.mk (blk_drew BK392.out)
               replace HB := Aside0.mk (below_drew1 HB.out)
               refine start_ (n := 17) (S := fun w' => w'.cell? ⟨gb385, 0, none⟩ = some (.bool t380) ∧ w'.cell? ⟨gb385, 1, none⟩ = some (.int .u64 t381) ∧ w'.cell? ⟨gb385, 2, none⟩ = some (.int .u64 t382) ∧ w'.cell? ⟨gb385, 3, none⟩ = some (.int .i64 t383) ∧ w'.cell? ⟨gb376, 0, none⟩ = some (.bool a1_0) ∧ w'.cell? ⟨gb376, 1, none⟩ = some (.int .u64 a1_1) ∧ w'.cell? ⟨gb376, 2, none⟩ = some (.int .u64 a1_2) ∧ w'.cell? ⟨gb392, 0, none⟩ = some (.bool t386) ∧ w'.cell? ⟨gb392, 1, none⟩ = some (.int .u64 t387) ∧ w'.cell? ⟨gb392, 2, none⟩ = some (.int .u64 t388) ∧ w'.cell? ⟨gb392, 3, none⟩ = some (.bool t389) ∧ w'.cell? ⟨gb392, 4, none⟩ = some (.int .u64 t390) ∧ w'.cell? ⟨gb392, 5, none⟩ = some (.int .u64 t391)) (ds := []) #[false, false, false, false, false, false, false, false, false, false, false, false, false, false, false, false, false] (by kernel_rfl) rfl rfl ⟨zc BK385 0, zc BK385 1, zc BK385 2, zc BK385 3, zc BK376 0, zc BK376 1, zc BK376 2, zc BK392 0, zc BK392 1, zc BK392 2, zc BK392 3, zc BK392 4, zc BK392 5⟩ (fun hHeld => ?_); refine with_tabW intrusionlaw06_AddressContains.tab11 intrusionlaw06_AddressContains.bits11 (fun HT_ HW_ => ?_)
               generalize wc.drew = w84 at BK375 BK376 BK385 BK392 HB hHeld ⊢
               refine zp 3 51 HT_ ?_; refine zt 0 48 HT_ HW_ hHeld ?_; refine zt 1 49 HT_ HW_ hHeld ?_; refine zt 4 52 HT_ HW_ hHeld ?_; refine zt 5 53 HT_ HW_ hHeld ?_; refine zo 2 50 HT_ (fun K hK => ?_)
               refine zg Tryd.func23 #[.agg #[.bool t380, .int .u64 t381, .int .u64 t382, .int .i64 t383], .agg #[.bool a1_0, .int .u64 a1_1, .int .u64 a1_2]] ?_
               with_reducible refine (address_Contains.calls t380 t381 t382 t383 a1_0 a1_1 a1_2 t396 _ A80.out).mono ?_
               rintro e w85 ⟨rfl, hb⟩
               refine ⟨_, rfl, ?_⟩
               replace BK375 := Aside0.mk (blk_below (g := gb375) (o := .cells #[.bool a0_0, .int .u64 a0_1, .int .u64 a0_2] 25 (0, 0)) (zK BK375) hb)
               replace BK376 := Aside0.mk (blk_below (g := gb376) (o := .cells #[.bool a1_0, .int .u64 a1_1, .int .u64 a1_2] 25 (0, 0)) (zK BK376) hb)
               replace BK385 := Aside0.mk (blk_below (g := gb385) (o := .cells #[.bool t380, .int .u64 t381, .int .u64 t382, .int .i64 t383] 30 (0, 0)) (zK BK385) hb)
               replace BK392 := Aside0.mk (blk_below (g := gb392) (o := .cells #[.bool t386, .int .u64 t387, .int .u64 t388, .bool t389, .int .u64 t390, .int .u64 t391] 43 (0, 0)) (zK BK392) hb)
               replace HB := Aside0.mk (below_step (zB HB) hb)
               (try clear hb)
               refine hK.out _ _ ⟨zc BK385 0, zc BK385 1, zc BK385 2, zc BK385 3, zc BK376 0, zc BK376 1, zc BK376 2, zc BK392 0, zc BK392 1, zc BK392 2, zc BK392 3, zc BK392 4, zc BK392 5⟩ (fun hHeld => ?_)
               clear hK K
               refine zn 50 ?_; refine zo 6 54 HT_ (fun K hK => ?_)
               refine zg Tryd.func18 #[.agg #[.bool t386, .int .u64 t387, .int .u64 t388], .agg #[.bool a1_0, .int .u64 a1_1, .int .u64 a1_2]] ?_
               with_reducible refine (address_Compare.calls t386 t387 t388 a1_0 a1_1 a1_2 t397 _ A81.out).mono ?_
               rintro e w86 ⟨rfl, hb⟩
               refine ⟨_, rfl, ?_⟩
               replace BK375 := Aside0.mk (blk_below (g := gb375) (o := .cells #[.bool a0_0, .int .u64 a0_1, .int .u64 a0_2] 25 (0, 0)) (zK BK375) hb)
               replace BK376 := Aside0.mk (blk_below (g := gb376) (o := .cells #[.bool a1_0, .int .u64 a1_1, .int .u64 a1_2] 25 (0, 0)) (zK BK376) hb)
               replace BK385 := Aside0.mk (blk_below (g := gb385) (o := .cells #[.bool t380, .int .u64 t381, .int .u64 t382, .int .i64 t383] 30 (0, 0)) (zK BK385) hb)
               replace BK392 := Aside0.mk (blk_below (g := gb392) (o := .cells #[.bool t386, .int .u64 t387, .int .u64 t388, .bool t389, .int .u64 t390, .int .u64 t391] 43 (0, 0)) (zK BK392) hb)
               replace HB := Aside0.mk (below_step (zB HB) hb)
               (try clear hb)
               refine hK.out _ _ ⟨zc BK385 0, zc BK385 1, zc BK385 2, zc BK385 3, zc BK376 0, zc BK376 1, zc BK376 2, zc BK392 0, zc BK392 1, zc BK392 2, zc BK392 3, zc BK392 4, zc BK392 5⟩ (fun hHeld => ?_)
               clear hK K
               refine zn 54 ?_; refine zp 7 55 HT_ ?_; refine zp 8 56 HT_ ?_; refine zp 10 58 HT_ ?_; refine zt 9 57 HT_ HW_ hHeld ?_; refine zt 11 59 HT_ HW_ hHeld ?_; refine zo 12 60 HT_ (fun K hK => ?_)
               refine zg Tryd.func18 #[.agg #[.bool a1_0, .int .u64 a1_1, .int .u64 a1_2], .agg #[.bool t389, .int .u64 t390, .int .u64 t391]] ?_
               with_reducible refine (address_Compare.calls a1_0 a1_1 a1_2 t389 t390 t391 t398 _ A83.out).mono ?_
               rintro e w87 ⟨rfl, hb⟩
               refine ⟨_, rfl, ?_⟩
               replace BK375 := Aside0.mk (blk_below (g := gb375) (o := .cells #[.bool a0_0, .int .u64 a0_1, .int .u64 a0_2] 25 (0, 0)) (zK BK375) hb)
               replace BK376 := Aside0.mk (blk_below (g := gb376) (o := .cells #[.bool a1_0, .int .u64 a1_1, .int .u64 a1_2] 25 (0, 0)) (zK BK376) hb)
               replace BK385 := Aside0.mk (blk_below (g := gb385) (o := .cells #[.bool t380, .int .u64 t381, .int .u64 t382, .int .i64 t383] 30 (0, 0)) (zK BK385) hb)
               replace BK392 := Aside0.mk (blk_below (g := gb392) (o := .cells #[.bool t386, .int .u64 t387, .int .u64 t388, .bool t389, .int .u64 t390, .int .u64 t391] 43 (0, 0)) (zK BK392) hb)
               replace HB := Aside0.mk (below_step (zB HB) hb)
               (try clear hb)
               refine hK.out _ _ ⟨zc BK385 0, zc BK385 1, zc BK385 2, zc BK385 3, zc BK376 0, zc BK376 1, zc BK376 2, zc BK392 0, zc BK392 1, zc BK392 2, zc BK392 3, zc BK392 4, zc BK392 5⟩ (fun hHeld => ?_)
               clear hK K
               refine zn 60 ?_; refine zp 13 61 HT_ ?_; refine zp 14 62 HT_ ?_; refine zp 15 63 HT_ ?_; refine zp 16 6 HT_ ?_; refine zd HT_ ?_
               try go_wp2
               go_ret
               exact ⟨by first | rfl | (simp [errW_none, errW_some] <;> rfl) | (simp [*, errW_none, errW_some] <;> rfl), by repeat (first | (with_reducible first | exact HB.out | apply below_alloc | apply pw_below_drewN | apply below_drew1 | refine below_set ?_ GE375.out | refine below_set ?_ GE376.out | refine below_set ?_ GE385.out | refine below_set ?_ GE392.out) | exact HB.out)⟩
             · rw [if_neg c82] at H
               have c82b0 : decide (t397 ≤ 0) = false := decide_eq_false c82
               clear c82
               obtain rfl := Option.some.inj H
               try go_wp2
               replace BK375 := Aside0.mk (blk_drew BK375.out)
               replace BK376 := Aside0.mk (blk_drew BK376.out)
               replace BK385 := Aside0.mk (blk_drew BK385.out)
               replace BK392 := Aside0.mk (blk_drew BK392.out)
               replace HB := Aside0.mk (below_drew1 HB.out)
               refine start_ (n := 17) (S := fun w' => w'.cell? ⟨gb385, 0, none⟩ = some (.bool t380) ∧ w'.cell? ⟨gb385, 1, none⟩ = some (.int .u64 t381) ∧ w'.cell? ⟨gb385, 2, none⟩ = some (.int .u64 t382) ∧ w'.cell? ⟨gb385, 3, none⟩ = some (.int .i64 t383) ∧ w'.cell? ⟨gb376, 0, none⟩ = some (.bool a1_0) ∧ w'.cell? ⟨gb376, 1, none⟩ = some (.int .u64 a1_1) ∧ w'.cell? ⟨gb376, 2, none⟩ = some (.int .u64 a1_2) ∧ w'.cell? ⟨gb392, 0, none⟩ = some (.bool t386) ∧ w'.cell? ⟨gb392, 1, none⟩ = some (.int .u64 t387) ∧ w'.cell? ⟨gb392, 2, none⟩ = some (.int .u64 t388) ∧ w'.cell? ⟨gb392, 3, none⟩ = some (.bool t389) ∧ w'.cell? ⟨gb392, 4, none⟩ = some (.int .u64 t390) ∧ w'.cell? ⟨gb392, 5, none⟩ = some (.int .u64 t391)) (ds := []) #[false, false, false, false, false, false, false, false, false, false, false, false, false, false, false, false, false] (by kernel_rfl) rfl rfl ⟨zc BK385 0, zc BK385 1, zc BK385 2, zc BK385 3, zc BK376 0, zc BK376 1, zc BK376 2, zc BK392 0, zc BK392 1, zc BK392 2, zc BK392 3, zc BK392 4, zc BK392 5⟩ (fun hHeld => ?_); refine with_tabW intrusionlaw06_AddressContains.tab11 intrusionlaw06_AddressContains.bits11 (fun HT_ HW_ => ?_)
               generalize wc.drew = w88 at BK375 BK376 BK385 BK392 HB hHeld ⊢
               refine zp 3 51 HT_ ?_; refine zt 0 48 HT_ HW_ hHeld ?_; refine zt 1 49 HT_ HW_ hHeld ?_; refine zt 4 52 HT_ HW_ hHeld ?_; refine zt 5 53 HT_ HW_ hHeld ?_; refine zo 2 50 HT_ (fun K hK => ?_)
               refine zg Tryd.func23 #[.agg #[.bool t380, .int .u64 t381, .int .u64 t382, .int .i64 t383], .agg #[.bool a1_0, .int .u64 a1_1, .int .u64 a1_2]] ?_
               with_reducible refine (address_Contains.calls t380 t381 t382 t383 a1_0 a1_1 a1_2 t396 _ A80.out).mono ?_
               rintro e w89 ⟨rfl, hb⟩
               refine ⟨_, rfl, ?_⟩
               replace BK375 := Aside0.mk (blk_below (g := gb375) (o := .cells #[.bool a0_0, .int .u64 a0_1, .int .u64 a0_2] 25 (0, 0)) (zK BK375) hb)
               replace BK376 := Aside0.mk (blk_below (g := gb376) (o := .cells #[.bool a1_0, .int .u64 a1_1, .int .u64 a1_2] 25 (0, 0)) (zK BK376) hb)
               replace BK385 := Aside0.mk (blk_below (g := gb385) (o := .cells #[.bool t380, .int .u64 t381, .int .u64 t382, .int .i64 t383] 30 (0, 0)) (zK BK385) hb)
               replace BK392 := Aside0.mk (blk_below (g := gb392) (o := .cells #[.bool t386, .int .u64 t387, .int .u64 t388, .bool t389, .int .u64 t390, .int .u64 t391] 43 (0, 0)) (zK BK392) hb)
               replace HB := Aside0.mk (below_step (zB HB) hb)
               (try clear hb)
               refine hK.out _ _ ⟨zc BK385 0, zc BK385 1, zc BK385 2, zc BK385 3, zc BK376 0, zc BK376 1, zc BK376 2, zc BK392 0, zc BK392 1, zc BK392 2, zc BK392 3, zc BK392 4, zc BK392 5⟩ (fun hHeld => ?_)
               clear hK K
               refine zn 50 ?_; refine zo 6 54 HT_ (fun K hK => ?_)
               refine zg Tryd.func18 #[.agg #[.bool t386, .int .u64 t387, .int .u64 t388], .agg #[.bool a1_0, .int .u64 a1_1, .int .u64 a1_2]] ?_
               with_reducible refine (address_Compare.calls t386 t387 t388 a1_0 a1_1 a1_2 t397 _ A81.out).mono ?_
               rintro e w90 ⟨rfl, hb⟩
               refine ⟨_, rfl, ?_⟩
               replace BK375 := Aside0.mk (blk_below (g := gb375) (o := .cells #[.bool a0_0, .int .u64 a0_1, .int .u64 a0_2] 25 (0, 0)) (zK BK375) hb)
               replace BK376 := Aside0.mk (blk_below (g := gb376) (o := .cells #[.bool a1_0, .int .u64 a1_1, .int .u64 a1_2] 25 (0, 0)) (zK BK376) hb)
               replace BK385 := Aside0.mk (blk_below (g := gb385) (o := .cells #[.bool t380, .int .u64 t381, .int .u64 t382, .int .i64 t383] 30 (0, 0)) (zK BK385) hb)
               replace BK392 := Aside0.mk (blk_below (g := gb392) (o := .cells #[.bool t386, .int .u64 t387, .int .u64 t388, .bool t389, .int .u64 t390, .int .u64 t391] 43 (0, 0)) (zK BK392) hb)
               replace HB := Aside0.mk (below_step (zB HB) hb)
               (try clear hb)
               refine hK.out _ _ ⟨zc BK385 0, zc BK385 1, zc BK385 2, zc BK385 3, zc BK376 0, zc BK376 1, zc BK376 2, zc BK392 0, zc BK392 1, zc BK392 2, zc BK392 3, zc BK392 4, zc BK392 5⟩ (fun hHeld => ?_)
               clear hK K
               refine zn 54 ?_; refine zp 7 55 HT_ ?_; refine zp 8 56 HT_ ?_; refine zu 9 57 HT_ ?_; refine zu 10 58 HT_ ?_; refine zu 11 59 HT_ ?_; refine zu 12 60 HT_ ?_; refine zu 13 61 HT_ ?_; refine zp 14 62 HT_ ?_; refine zp 15 63 HT_ ?_; refine zp 16 6 HT_ ?_; refine zd HT_ ?_
               try go_wp2
               go_ret
               exact ⟨by first | rfl | (simp [errW_none, errW_some] <;> rfl) | (simp [*, errW_none, errW_some] <;> rfl), by repeat (first | (with_reducible first | exact HB.out | apply below_alloc | apply pw_below_drewN | apply below_drew1 | refine below_set ?_ GE375.out | refine below_set ?_ GE376.out | refine below_set ?_ GE385.out | refine below_set ?_ GE392.out) | exact HB.out)⟩
       · rw [if_neg c23] at H
         have c23b0 : (t384 == 0) = false := beq_eq_false_iff_ne.mpr c23
         have c23b1 : (t384 != 0) = true := bne_iff_ne.mpr c23
         obtain rfl := Option.some.inj H
         have hnb91 := NB375_376.out
         have hnc91 := NB376_375.out
         obtain ⟨hcz92_0, hcz92_1, hcz92_2⟩ := zc3 BK375
         obtain ⟨hfz92_0, hfz92_1, hfz92_2⟩ := zf3 BK375
         go_wp2_with (first | ((with_reducible refine gate_callee (f := 26) rfl ?_); refine goesL_ (some 23) rfl rfl Tryd.func26 (by kernel_rfl) rfl #[.agg #[.bool a0_0, .int .u64 a0_1, .int .u64 a0_2], .int .i64 a2] rfl (by (try simp only [List.map_toArray, List.map_cons, List.map_nil]); first | done | rfl | (simp only [List.length_drop, List.length_take]; rfl)) ?_; (with_reducible refine (address_MakePrefix.calls a0_0 a0_1 a0_2 a2 t380 t381 t382 t383 t384 _ A22.out).mono ?_); rintro e w93 ⟨rfl, hb⟩; refine ⟨_, rfl, ?_⟩; replace BK375 := Aside0.mk (blk_below (g := gb375) (o := .cells #[.bool a0_0, .int .u64 a0_1, .int .u64 a0_2] 25 (0, 0)) (zK BK375) hb); replace BK376 := Aside0.mk (blk_below (g := gb376) (o := .cells #[.bool a1_0, .int .u64 a1_1, .int .u64 a1_2] 25 (0, 0)) (zK BK376) hb); replace HB := Aside0.mk (below_step (zB HB) hb); (try clear hb)) | ((with_reducible refine gate_dst (N := 7) rfl ?_); refine zx 7 #[.bool false, .int .u64 0, .int .u64 0, .int .i64 0] 30 ?_; intro gb385 hg w94 hbox hb; have BK385 := Aside0.mk (hbox); have GW385 := Aside0.mk ((by rw [hg]; exact (below_size (zB HB)) : w.heap.size ≤ gb385)); have GE385 := Aside0.mk ((by rw [hg]; exact (below_size (zB HB)) : w.heap.size ≤ gb385)); replace HB := Aside0.mk (below_step (zB HB) hb); have NB375_385 := Aside0.mk ((by rw [hg]; exact Nat.ne_of_lt (blk_lt (g := gb375) (o := .cells #[.bool a0_0, .int .u64 a0_1, .int .u64 a0_2] 25 (0, 0)) (zK BK375)) : gb375 ≠ gb385)); have NB385_375 := Aside0.mk ((by rw [hg]; exact Nat.ne_of_gt (blk_lt (g := gb375) (o := .cells #[.bool a0_0, .int .u64 a0_1, .int .u64 a0_2] 25 (0, 0)) (zK BK375)) : gb385 ≠ gb375)); replace BK375 := Aside0.mk (blk_below (g := gb375) (o := .cells #[.bool a0_0, .int .u64 a0_1, .int .u64 a0_2] 25 (0, 0)) (zK BK375) hb); have NB376_385 := Aside0.mk ((by rw [hg]; exact Nat.ne_of_lt (blk_lt (g := gb376) (o := .cells #[.bool a1_0, .int .u64 a1_1, .int .u64 a1_2] 25 (0, 0)) (zK BK376)) : gb376 ≠ gb385)); have NB385_376 := Aside0.mk ((by rw [hg]; exact Nat.ne_of_gt (blk_lt (g := gb376) (o := .cells #[.bool a1_0, .int .u64 a1_1, .int .u64 a1_2] 25 (0, 0)) (zK BK376)) : gb385 ≠ gb376)); replace BK376 := Aside0.mk (blk_below (g := gb376) (o := .cells #[.bool a1_0, .int .u64 a1_1, .int .u64 a1_2] 25 (0, 0)) (zK BK376) hb); clear hb hbox hg; have hnb95 := NB385_375.out; have hnc95 := NB375_385.out; have hnb96 := NB385_376.out; have hnc96 := NB376_385.out; obtain ⟨hcz97_0, hcz97_1, hcz97_2, hcz97_3⟩ := zc4 BK385; obtain ⟨hfz97_0, hfz97_1, hfz97_2, hfz97_3⟩ := zf4 BK385))
         go_ret
         exact ⟨by first | rfl | (simp [errW_none, errW_some] <;> rfl) | (simp [*, errW_none, errW_some] <;> rfl), by repeat (first | (with_reducible first | exact HB.out | apply below_alloc | apply pw_below_drewN | apply below_drew1 | refine below_set ?_ GE375.out | refine below_set ?_ GE376.out | refine below_set ?_ GE385.out) | exact HB.out)⟩
 · replace c5 := Bool.eq_false_iff.mpr c5
   subst c5
   rw [if_neg zF] at H
   obtain rfl := Option.some.inj H
   go_enter Tryd.func6, Tryd.ntmps6
   go_wp2_with (first | ((with_reducible refine gate_dst (N := 3) rfl ?_); refine zx 3 #[.bool a0_0, .int .u64 a0_1, .int .u64 a0_2] 25 ?_; intro gb375 hg w98 hbox hb; have BK375 := Aside0.mk (hbox); have GW375 := Aside0.mk ((by rw [hg]; exact (below_size (zB HB)) : w.heap.size ≤ gb375)); have GE375 := Aside0.mk ((by rw [hg]; exact (below_size (zB HB)) : w.heap.size ≤ gb375)); replace HB := Aside0.mk (below_step (zB HB) hb); clear hb hbox hg) | ((with_reducible refine gate_dst (N := 4) rfl ?_); refine zx 4 #[.bool a1_0, .int .u64 a1_1, .int .u64 a1_2] 25 ?_; intro gb376 hg w99 hbox hb; have BK376 := Aside0.mk (hbox); have GW376 := Aside0.mk ((by rw [hg]; exact (below_size (zB HB)) : w.heap.size ≤ gb376)); have GE376 := Aside0.mk ((by rw [hg]; exact (below_size (zB HB)) : w.heap.size ≤ gb376)); replace HB := Aside0.mk (below_step (zB HB) hb); have NB375_376 := Aside0.mk ((by rw [hg]; exact Nat.ne_of_lt (blk_lt (g := gb375) (o := .cells #[.bool a0_0, .int .u64 a0_1, .int .u64 a0_2] 25 (0, 0)) (zK BK375)) : gb375 ≠ gb376)); have NB376_375 := Aside0.mk ((by rw [hg]; exact Nat.ne_of_gt (blk_lt (g := gb375) (o := .cells #[.bool a0_0, .int .u64 a0_1, .int .u64 a0_2] 25 (0, 0)) (zK BK375)) : gb376 ≠ gb375)); replace BK375 := Aside0.mk (blk_below (g := gb375) (o := .cells #[.bool a0_0, .int .u64 a0_1, .int .u64 a0_2] 25 (0, 0)) (zK BK375) hb); clear hb hbox hg) | ((with_reducible refine gate_callee (f := 10) rfl ?_); refine goesL_ (some 10) rfl rfl Tryd.func10 (by kernel_rfl) rfl #[] rfl (by (try simp only [List.map_toArray, List.map_cons, List.map_nil]); first | done | rfl | (simp only [List.length_drop, List.length_take]; rfl)) ?_; (with_reducible refine (intrusionlaw06_lives.calls  false _ A4.out (WOK.below hW_ (zB HB))).mono ?_); rintro e w100 ⟨rfl, hb⟩; refine ⟨_, rfl, ?_⟩; replace BK375 := Aside0.mk (blk_below (g := gb375) (o := .cells #[.bool a0_0, .int .u64 a0_1, .int .u64 a0_2] 25 (0, 0)) (zK BK375) hb); replace BK376 := Aside0.mk (blk_below (g := gb376) (o := .cells #[.bool a1_0, .int .u64 a1_1, .int .u64 a1_2] 25 (0, 0)) (zK BK376) hb); replace HB := Aside0.mk (below_step (zB HB) hb); (try clear hb)))
   go_ret
   exact ⟨by first | rfl | (simp [errW_none, errW_some] <;> rfl) | (simp [*, errW_none, errW_some] <;> rfl), by repeat (first | (with_reducible first | exact HB.out | apply below_alloc | apply pw_below_drewN | apply below_drew1 | refine below_set ?_ GE375.out | refine below_set ?_ GE376.out) | exact HB.out)⟩
end Go.Proofs.YtlgfinnldhjgeaaDoor.Q
end

section
set_option linter.unusedVariables false
namespace Go.Proofs.YtlgfinnldhjgeaaDoor.Read
open Go.RowKit Go.Deep Go.WideShapes Go.Proofs.YtlgfinnldhjgeaaDoorW.PrintWords
def Reads {α : Type} (P : Program) (W : World) (d : Kd α) (Q : α → Prop) (t : TypeId) : Prop :=
  ∀ (H : Type) (enc : TypeId × Value → H) (fuel : Nat) (cs : List Value) (x : DataW H × List MemPlace), DataW.trod enc P W 0 (fun _ => true) true fuel t cs = some x → ∃ y, d.K W y cs ∧ Q y
section
variable {P : Program} {W : World}
theorem reads_int {k : IntKind} {t : TypeId} (ht : P.underlying t = some (.int k)) : Reads P W (Kd.int k) (fun n => (Lit.int k n).wf = true) t := by
  intro H enc fuel cs x h
  obtain ⟨n, rfl, _, hw⟩ := DataW.trod_int ht h
  exact ⟨n, rfl, hw⟩
theorem reads_bool {t : TypeId} (ht : P.underlying t = some .bool) : Reads P W Kd.bool (fun _ => True) t := by
  intro H enc fuel cs x h
  obtain ⟨n, rfl, _⟩ := DataW.trod_bool ht h
  exact ⟨n, rfl, trivial⟩
theorem pair_mk {α β : Type} {a : Kd α} {b : Kd β} {x : α} {y : β} {cs : List Value} (s : Nat) (h0 : a.K W x (cs.take s)) (h1 : b.K W y (cs.drop s)) : (Kd.pair a b).K W (x, y) cs :=
  ⟨cs.take s, cs.drop s, (List.take_append_drop s cs).symm, h0, h1⟩
theorem field_at {α : Type} {d : Kd α} {Q : α → Prop} {fs : Array Field} {H : Type} {enc : TypeId × Value → H} {n : Nat} {cs : List Value} {xs : List (DataW H × List MemPlace)} (hl : xs.length = fs.size)
    (hf : ∀ (i : Nat) (f : Field), fs[i]? = some f → DataW.trod enc P W 0 (fun _ => true) true n f.type ((cs.drop f.offset).take (P.cellsOf f.type)) = xs[i]?)
    (i : Nat) {f : Field} (hi : fs[i]? = some f) {t off sz : Nat} (ht : f.type = t) (ho : f.offset = off) (hc : P.cellsOf t = sz) (hr : Reads P W d Q t) : ∃ y, d.K W y ((cs.drop off).take sz) ∧ Q y := by
  subst ht ho hc
  have h := hf i f hi
  have hlt : i < xs.length := by rw [hl]; exact (Array.getElem?_eq_some_iff.1 hi).1
  rw [List.getElem?_eq_getElem hlt] at h
  exact hr H enc n _ _ h
end
end Go.Proofs.YtlgfinnldhjgeaaDoor.Read
end

section
set_option linter.unusedVariables false
namespace Go.Proofs.YtlgfinnldhjgeaaDoor.Q
open Go.RowKit Go.Proofs.YtlgfinnldhjgeaaDoorW.PrintWords Go.Proofs.YtlgfinnldhjgeaaDoor.Read
def q25 (x : S25) : Prop := True ∧ (Lit.int .u64 x.f1).wf = true ∧ (Lit.int .u64 x.f2).wf = true
theorem reads_k25 (W : World) : Reads Tryd.prog W k25 q25 25 := by
  intro H enc fuel cs x h
  obtain ⟨xs, n, rfl, _, hcl, hxl, hf⟩ := DataW.trod_struct Tryd.underlying25 h
  have hc : cs.length = 3 := hcl.trans (by kernel_rfl)
  obtain ⟨y0, h0, g0⟩ := field_at hxl hf 0 rfl (t := 4) (off := 0) (sz := 1) rfl rfl (by kernel_rfl) (reads_bool Tryd.underlying4)
  obtain ⟨y1, h1, g1⟩ := field_at hxl hf 1 rfl (t := 23) (off := 1) (sz := 1) rfl rfl (by kernel_rfl) (reads_int Tryd.underlying23)
  obtain ⟨y2, h2, g2⟩ := field_at hxl hf 2 rfl (t := 23) (off := 2) (sz := 1) rfl rfl (by kernel_rfl) (reads_int Tryd.underlying23)
  refine ⟨⟨y0, y1, y2⟩, ?_, ⟨g0, g1, g2⟩⟩
  rw [show (cs.drop 0).take 1 = (cs.drop 0).take 1 from rfl] at h0
  rw [show (cs.drop 1).take 1 = (cs.drop 1).take 1 from rfl] at h1
  rw [show (cs.drop 2).take 1 = (cs.drop 2) from List.take_of_length_le (by rw [List.length_drop, hc]; decide)] at h2
  skip
  simp only [show 2 = 1 + 1 from rfl, ← List.drop_drop] at h2
  have e0 : cs.drop 0 = cs := rfl
  rw [e0] at h0
  exact pair_mk (a := Kd.bool) 1 h0 (pair_mk (a := (Kd.int .u64)) 1 h1 (h2))
end Go.Proofs.YtlgfinnldhjgeaaDoor.Q
end

section
set_option linter.unusedVariables false
set_option linter.unusedSimpArgs false
namespace Go.Proofs.YtlgfinnldhjgeaaDoor.Q
open Go.RowKit Go.Sort Go.Lib Go.Proofs.YtlgfinnldhjgeaaDoorW.PrintWords Go.Proofs.YtlgfinnldhjgeaaDoorW.PrintLast Go.Proofs.YtlgfinnldhjgeaaDoorW.PrintMore
def intrusionref06_Compare.f (a0_0 : Bool) (a0_1 : Int) (a0_2 : Int) (a1_0 : Bool) (a1_1 : Int) (a1_2 : Int) : Option (Int) := some (cmpA ⟨a0_0, a0_1, a0_2⟩ ⟨a1_0, a1_1, a1_2⟩)
end Go.Proofs.YtlgfinnldhjgeaaDoor.Q
end

section
set_option linter.unusedVariables false
set_option linter.unusedSimpArgs false
namespace Go.Proofs.YtlgfinnldhjgeaaDoor.Q
open Go.RowKit Go.Proofs.YtlgfinnldhjgeaaDoorW.PrintWords Go.Proofs.YtlgfinnldhjgeaaDoorW.PrintLast Go.Proofs.YtlgfinnldhjgeaaDoorW.PrintMore
def address_Previous.f (a0_0 : Bool) (a0_1 : Int) (a0_2 : Int) : Option (Bool × Int × Int × Bool) := if (a0_1 == 0 && (a0_2 == 0)) = true then (some (false, 0, 0, false)) else some (a0_0, (if a0_2 = 0 then IntKind.u64.wrap (a0_1 - 1) else a0_1), IntKind.u64.wrap (a0_2 - 1), true)
end Go.Proofs.YtlgfinnldhjgeaaDoor.Q
end

section
namespace Go.Proofs.YtlgfinnldhjgeaaDoor.Q
open Go.RowKit Go.Proofs.YtlgfinnldhjgeaaDoorW.PrintWords Go.Proofs.YtlgfinnldhjgeaaDoorW.PrintLast Go.Proofs.YtlgfinnldhjgeaaDoorW.PrintMore
attribute [local go_sem] max2_int min2_int max_two min_two max_three min_three max_four min_four
set_option linter.unusedVariables false
set_option linter.unusedSimpArgs false
def intrusionref06_Valid.f (a0_0 : Bool) (a0_1 : Int) (a0_2 : Int) : Option (Bool) := if a0_0 = true then (some true) else (if a0_1 = 0 then (some (decide (a0_2 < 4294967296))) else (some false))
end Go.Proofs.YtlgfinnldhjgeaaDoor.Q
end

section
namespace Go.Proofs.YtlgfinnldhjgeaaDoor.Q
open Go.RowKit Go.Proofs.YtlgfinnldhjgeaaDoorW.PrintWords Go.Proofs.YtlgfinnldhjgeaaDoorW.PrintLast Go.Proofs.YtlgfinnldhjgeaaDoorW.PrintMore
attribute [local go_sem] max2_int min2_int max_two min_two max_three min_three max_four min_four
set_option linter.unusedVariables false
set_option linter.unusedSimpArgs false
def intrusionref06_Next.j0 : Nat → Bool → Bool → Int → Int → Option (Bool × Int × Int × Bool)
  | 0, _, _, _, _ => none
  | k + 1, x14, x294000, x294001, x294002 => if x14 = true then (if x294000 = true then (if x294002 = 0 then (if (IntKind.u64.wrap (x294001 + 1)) = 0 then (some (false, 0, 0, false)) else (some (x294000, IntKind.u64.wrap (x294001 + 1), x294002, true))) else (some (x294000, IntKind.u64.wrap (x294001 + 1), x294002, true))) else (if x294002 = 4294967296 then (some (false, 0, 0, false)) else (some (x294000, IntKind.u64.wrap (x294001 + 1), x294002, true)))) else (if x294000 = true then (if x294002 = 0 then (if x294001 = 0 then (some (false, 0, 0, false)) else (some (x294000, x294001, x294002, true))) else (some (x294000, x294001, x294002, true))) else (if x294002 = 4294967296 then (some (false, 0, 0, false)) else (some (x294000, x294001, x294002, true))))
def intrusionref06_Next.f (k : Nat) (a0_0 : Bool) (a0_1 : Int) (a0_2 : Int) : Option (Bool × Int × Int × Bool) := if a0_0 = true then (intrusionref06_Next.j0 k ((IntKind.u64.wrap (a0_2 + 1)) == 0) a0_0 a0_1 (IntKind.u64.wrap (a0_2 + 1))) else (intrusionref06_Next.j0 k false a0_0 a0_1 (IntKind.u64.wrap (a0_2 + 1)))
theorem intrusionref06_Next.mono_l : ∀ k, (∀ y0 y1 y2 y3, LeO (intrusionref06_Next.j0 k y0 y1 y2 y3) (intrusionref06_Next.j0 (k + 1) y0 y1 y2 y3))
  | 0 => fun _ _ _ _ r h => by simp [intrusionref06_Next.j0] at h
  | k + 1 => by
    have ih0 := intrusionref06_Next.mono_l k
    · intro y0 y1 y2 y3
      unfold intrusionref06_Next.j0
      repeat' first
      | (with_reducible exact ih0 _ _ _ _)
      | (with_reducible exact LeO.refl _)
      | (with_reducible exact LeO.none _)
      | (with_reducible refine LeO.ite ?_ ?_)
      | (with_reducible refine LeO.bind ?_ (fun _ => ?_))
      | exact ih0 _ _ _ _
      | exact LeO.none _
      | refine LeO.ite ?_ ?_
      | refine LeO.bind ?_ (fun _ => ?_)
theorem intrusionref06_Next.mono : ∀ a0 a1 a2 k, LeO (intrusionref06_Next.f k a0 a1 a2) (intrusionref06_Next.f (k + 1) a0 a1 a2) := by
  intro a0 a1 a2 k
  have ih0 := intrusionref06_Next.mono_l k
  unfold intrusionref06_Next.f
  repeat' first
      | (with_reducible exact ih0 _ _ _ _)
      | (with_reducible exact LeO.refl _)
      | (with_reducible exact LeO.none _)
      | (with_reducible refine LeO.ite ?_ ?_)
      | (with_reducible refine LeO.bind ?_ (fun _ => ?_))
      | exact ih0 _ _ _ _
      | exact LeO.none _
      | refine LeO.ite ?_ ?_
      | refine LeO.bind ?_ (fun _ => ?_)
end Go.Proofs.YtlgfinnldhjgeaaDoor.Q
end

section
namespace Go.Proofs.YtlgfinnldhjgeaaDoor.Q
open Go.RowKit Go.Proofs.YtlgfinnldhjgeaaDoorW.PrintWords Go.Proofs.YtlgfinnldhjgeaaDoorW.PrintLast Go.Proofs.YtlgfinnldhjgeaaDoorW.PrintMore
attribute [local go_sem] max2_int min2_int max_two min_two max_three min_three max_four min_four
set_option linter.unusedVariables false
set_option linter.unusedSimpArgs false
def intrusionref06_Previous.j0 : Nat → Bool → Bool → Int → Int → Option (Bool × Int × Int × Bool)
  | 0, _, _, _, _ => none
  | k + 1, x11, x296000, x296001, x296002 => if x11 = true then (some (false, 0, 0, false)) else (if x296002 = 0 then (some (x296000, IntKind.u64.wrap (x296001 - 1), IntKind.u64.wrap (x296002 - 1), true)) else (some (x296000, x296001, IntKind.u64.wrap (x296002 - 1), true)))
def intrusionref06_Previous.f (k : Nat) (a0_0 : Bool) (a0_1 : Int) (a0_2 : Int) : Option (Bool × Int × Int × Bool) := if a0_2 = 0 then (intrusionref06_Previous.j0 k (a0_1 == 0) a0_0 a0_1 a0_2) else (intrusionref06_Previous.j0 k false a0_0 a0_1 a0_2)
theorem intrusionref06_Previous.mono_l : ∀ k, (∀ y0 y1 y2 y3, LeO (intrusionref06_Previous.j0 k y0 y1 y2 y3) (intrusionref06_Previous.j0 (k + 1) y0 y1 y2 y3))
  | 0 => fun _ _ _ _ r h => by simp [intrusionref06_Previous.j0] at h
  | k + 1 => by
    have ih0 := intrusionref06_Previous.mono_l k
    · intro y0 y1 y2 y3
      unfold intrusionref06_Previous.j0
      repeat' first
      | (with_reducible exact ih0 _ _ _ _)
      | (with_reducible exact LeO.refl _)
      | (with_reducible exact LeO.none _)
      | (with_reducible refine LeO.ite ?_ ?_)
      | (with_reducible refine LeO.bind ?_ (fun _ => ?_))
      | exact ih0 _ _ _ _
      | exact LeO.none _
      | refine LeO.ite ?_ ?_
      | refine LeO.bind ?_ (fun _ => ?_)
theorem intrusionref06_Previous.mono : ∀ a0 a1 a2 k, LeO (intrusionref06_Previous.f k a0 a1 a2) (intrusionref06_Previous.f (k + 1) a0 a1 a2) := by
  intro a0 a1 a2 k
  have ih0 := intrusionref06_Previous.mono_l k
  unfold intrusionref06_Previous.f
  repeat' first
      | (with_reducible exact ih0 _ _ _ _)
      | (with_reducible exact LeO.refl _)
      | (with_reducible exact LeO.none _)
      | (with_reducible refine LeO.ite ?_ ?_)
      | (with_reducible refine LeO.bind ?_ (fun _ => ?_))
      | exact ih0 _ _ _ _
      | exact LeO.none _
      | refine LeO.ite ?_ ?_
      | refine LeO.bind ?_ (fun _ => ?_)
end Go.Proofs.YtlgfinnldhjgeaaDoor.Q
end

section
set_option linter.unusedVariables false
set_option linter.unusedSimpArgs false
namespace Go.Proofs.YtlgfinnldhjgeaaDoor.Q
open Go.RowKit Go.Proofs.YtlgfinnldhjgeaaDoorW.PrintWords Go.Proofs.YtlgfinnldhjgeaaDoorW.PrintLast Go.Proofs.YtlgfinnldhjgeaaDoorW.PrintMore
abbrev Ad := S25
def AW (a : Ad) : Prop := 0 ≤ a.f1 ∧ a.f1 < 18446744073709551616 ∧ 0 ≤ a.f2 ∧ a.f2 < 18446744073709551616
def av (a : Ad) : Int := (if a.f0 = true then 680564733841876926926749214863536422912 else 0) + a.f1 * 18446744073709551616 + a.f2
def AF (a : Ad) : Prop := AW a ∧ (a.f0 = true ∨ (a.f1 = 0 ∧ a.f2 ≤ 4294967295))
theorem wf_u64 {n : Int} (h : (Lit.int .u64 n).wf = true) : 0 ≤ n ∧ n < 18446744073709551616 := by
  simp only [Lit.wf, Bool.and_eq_true, decide_eq_true_eq] at h
  have e1 : IntKind.u64.min = 0 := by decide
  have e2 : IntKind.u64.max = 18446744073709551615 := by decide
  rw [e1, e2] at h
  omega
theorem aw_of {a : Ad} (h : q25 a) : AW a := by
  obtain ⟨_, h1, h2⟩ := h
  have := wf_u64 h1
  have := wf_u64 h2
  exact ⟨by omega, by omega, by omega, by omega⟩
theorem av_inj {a b : Ad} (ha : AW a) (hb : AW b) (h : av a = av b) : a = b := by
  obtain ⟨a0, a1, a2⟩ := a
  obtain ⟨b0, b1, b2⟩ := b
  unfold AW at ha hb
  unfold av at h
  cases a0 <;> cases b0 <;> simp at h ha hb ⊢ <;> omega
theorem av_eq {a b : Ad} (ha : AW a) (hb : AW b) : a = b ↔ av a = av b := ⟨fun h => by rw [h], av_inj ha hb⟩
theorem cmpA_tri (a b : Ad) : cmpA a b = 0 ∨ cmpA a b = -1 ∨ cmpA a b = 1 := by
  unfold cmpA
  repeat' split
  all_goals simp
theorem cmpA_zero {a b : Ad} : cmpA a b = 0 ↔ a = b := by
  obtain ⟨a0, a1, a2⟩ := a
  obtain ⟨b0, b1, b2⟩ := b
  unfold cmpA
  simp only [Ad, S25.mk.injEq]
  by_cases h0 : a0 = b0
  · by_cases h1 : a1 = b1
    · by_cases h2 : a2 = b2
      · simp [h0, h1, h2]
      · simp only [h0, h1, h2, if_true, if_false]
        split <;> simp
    · simp only [h0, h1, if_true, if_false]
      split <;> simp
  · simp only [h0, if_false]
    split <;> simp
theorem cmp_lt' {a b : Ad} (ha : AW a) (hb : AW b) : cmpA a b < 0 ↔ av a < av b := by
  obtain ⟨a0, a1, a2⟩ := a
  obtain ⟨b0, b1, b2⟩ := b
  unfold AW at ha hb
  unfold cmpA av
  cases a0 <;> cases b0 <;> simp at ha hb ⊢
  · by_cases h1 : a1 = b1
    · by_cases h2 : a2 = b2
      · simp [h1, h2]
      · by_cases h3 : a2 < b2 <;> simp [h1, h2, h3]
    · by_cases h3 : a1 < b1
      · simp [h1, h3]; omega
      · simp [h1, h3]; omega
  · omega
  · omega
  · by_cases h1 : a1 = b1
    · by_cases h2 : a2 = b2
      · simp [h1, h2]
      · by_cases h3 : a2 < b2 <;> simp [h1, h2, h3]
    · by_cases h3 : a1 < b1
      · simp [h1, h3]; omega
      · simp [h1, h3]; omega
theorem cmp_le' {a b : Ad} (ha : AW a) (hb : AW b) : cmpA a b ≤ 0 ↔ av a ≤ av b := by
  have h1 := cmp_lt' ha hb
  have h2 := @cmpA_zero a b
  rw [av_eq ha hb] at h2
  rcases cmpA_tri a b with h | h | h <;> omega
def fineB (a : Ad) : Bool := a.f0 || (decide (a.f1 = 0) && decide (a.f2 ≤ 4294967295))
theorem fine_eq (a : Ad) : address_Valid.f a.f0 a.f1 a.f2 = some (fineB a) := by
  unfold address_Valid.f fineB
  cases a.f0
  · by_cases h : a.f1 = 0 <;> simp [h]
  · simp
theorem fine_iff {a : Ad} (ha : AW a) : fineB a = true ↔ AF a := by
  unfold fineB AF
  simp only [Bool.or_eq_true, Bool.and_eq_true, decide_eq_true_eq]
  exact ⟨fun h => ⟨ha, h⟩, fun h => h.2⟩
theorem AF.num {a : Ad} (h : AF a) : (a.f0 = false ∧ 0 ≤ av a ∧ av a ≤ 4294967295) ∨ (a.f0 = true ∧ 680564733841876926926749214863536422912 ≤ av a ∧ av a < 1020847100762815390390123822295304634368) := by
  obtain ⟨⟨h1, h2, h3, h4⟩, h5⟩ := h
  obtain ⟨a0, a1, a2⟩ := a
  unfold av
  cases a0 <;> simp at h1 h2 h3 h4 h5 ⊢ <;> omega
theorem cmp_f (a b : Ad) : address_Compare.f a.f0 a.f1 a.f2 b.f0 b.f1 b.f2 = some (cmpA a b) := rfl
theorem u64_id {n : Int} (h0 : 0 ≤ n) (h1 : n < 18446744073709551616) : IntKind.u64.wrap n = n := IntWalk.u64_in n ⟨h0, by omega⟩
instance decAd : DecidableEq Ad := fun a b => decidable_of_iff (a.f0 = b.f0 ∧ a.f1 = b.f1 ∧ a.f2 = b.f2) ⟨fun h => by cases a; cases b; simp at h; simp [h], fun h => by rw [h]; exact ⟨rfl, rfl, rfl⟩⟩
end Go.Proofs.YtlgfinnldhjgeaaDoor.Q
end

section
namespace Go.Proofs.YtlgfinnldhjgeaaDoor.Q
open Go.RowKit Go.Proofs.YtlgfinnldhjgeaaDoorW.PrintWords Go.Proofs.YtlgfinnldhjgeaaDoorW.PrintLast Go.Proofs.YtlgfinnldhjgeaaDoorW.PrintMore
attribute [local go_sem] max2_int min2_int max_two min_two max_three min_three max_four min_four
set_option linter.unusedVariables false
set_option linter.unusedSimpArgs false
def intrusionref06_Width.f (a0_0 : Bool) (a0_1 : Int) (a0_2 : Int) : Option (Int) := if a0_0 = true then (some 128) else (some 32)
end Go.Proofs.YtlgfinnldhjgeaaDoor.Q
end

section
namespace Go.Proofs.YtlgfinnldhjgeaaDoor.Q
open Go.RowKit Go.Proofs.YtlgfinnldhjgeaaDoorW.PrintWords Go.Proofs.YtlgfinnldhjgeaaDoorW.PrintLast Go.Proofs.YtlgfinnldhjgeaaDoorW.PrintMore
attribute [local go_sem] max2_int min2_int max_two min_two max_three min_three max_four min_four
set_option linter.unusedVariables false
set_option linter.unusedSimpArgs false
def intrusionref06_Bit.f (a0_0 : Bool) (a0_1 : Int) (a0_2 : Int) (a1 : Int) : Option (Bool) := if a0_0 = true then (if a1 < 64 then (if 0 ≤ (IntKind.u64.wrap (wrap64 (63 - a1))) then (some ((Go.bits .and .u64 (shr .u64 a0_1 (IntKind.u64.wrap (wrap64 (63 - a1)))) 1) == 1)) else (none)) else (if 0 ≤ (IntKind.u64.wrap (wrap64 (127 - a1))) then (some ((Go.bits .and .u64 (shr .u64 a0_2 (IntKind.u64.wrap (wrap64 (127 - a1)))) 1) == 1)) else (none))) else (if 0 ≤ (IntKind.u64.wrap (wrap64 (31 - a1))) then (some ((Go.bits .and .u64 (shr .u64 a0_2 (IntKind.u64.wrap (wrap64 (31 - a1)))) 1) == 1)) else (none))
end Go.Proofs.YtlgfinnldhjgeaaDoor.Q
end

section
namespace Go.Proofs.YtlgfinnldhjgeaaDoor.Q
open Go.RowKit Go.Proofs.YtlgfinnldhjgeaaDoorW.PrintWords Go.Proofs.YtlgfinnldhjgeaaDoorW.PrintLast Go.Proofs.YtlgfinnldhjgeaaDoorW.PrintMore
attribute [local go_sem] max2_int min2_int max_two min_two max_three min_three max_four min_four
set_option linter.unusedVariables false
set_option linter.unusedSimpArgs false
def intrusionref06_with.l0 : Nat → Bool → Int → Bool → Int → Int → Option (Bool × Int × Int)
  | 0, _, _, _, _, _ => none
  | k + 1, x2, x7, x244000, x244001, x244002 => (intrusionref06_Width.f x244000 x244001 x244002).bind fun t245 => (if x7 < t245 then ((intrusionref06_Bit.f x244000 x244001 x244002 x7).bind fun t246 => (if (t246 == x2) = true then (intrusionref06_with.l0 k x2 (wrap64 (x7 + 1)) x244000 x244001 x244002) else (if x244000 = true then (if x7 < 64 then (if 0 ≤ (IntKind.u64.wrap (wrap64 (63 - x7))) then (intrusionref06_with.l0 k x2 (wrap64 (x7 + 1)) x244000 (Go.bits .xor .u64 x244001 (shl .u64 1 (IntKind.u64.wrap (wrap64 (63 - x7))))) x244002) else (none)) else (if 0 ≤ (IntKind.u64.wrap (wrap64 (127 - x7))) then (intrusionref06_with.l0 k x2 (wrap64 (x7 + 1)) x244000 x244001 (Go.bits .xor .u64 x244002 (shl .u64 1 (IntKind.u64.wrap (wrap64 (127 - x7)))))) else (none))) else (if 0 ≤ (IntKind.u64.wrap (wrap64 (31 - x7))) then (intrusionref06_with.l0 k x2 (wrap64 (x7 + 1)) x244000 x244001 (Go.bits .xor .u64 x244002 (shl .u64 1 (IntKind.u64.wrap (wrap64 (31 - x7)))))) else (none))))) else (some (x244000, x244001, x244002)))
def intrusionref06_with.f (k : Nat) (a0_0 : Bool) (a0_1 : Int) (a0_2 : Int) (a1 : Int) (a2 : Bool) : Option (Bool × Int × Int) := intrusionref06_with.l0 k a2 a1 a0_0 a0_1 a0_2
theorem intrusionref06_with.mono_l : ∀ k, (∀ y0 y1 y2 y3 y4, LeO (intrusionref06_with.l0 k y0 y1 y2 y3 y4) (intrusionref06_with.l0 (k + 1) y0 y1 y2 y3 y4))
  | 0 => fun _ _ _ _ _ r h => by simp [intrusionref06_with.l0] at h
  | k + 1 => by
    have ih0 := intrusionref06_with.mono_l k
    · intro y0 y1 y2 y3 y4
      unfold intrusionref06_with.l0
      repeat' first
      | (with_reducible exact ih0 _ _ _ _ _)
      | (with_reducible exact LeO.refl _)
      | (with_reducible exact LeO.none _)
      | (with_reducible refine LeO.ite ?_ ?_)
      | (with_reducible refine LeO.bind ?_ (fun _ => ?_))
      | exact ih0 _ _ _ _ _
      | exact LeO.none _
      | refine LeO.ite ?_ ?_
      | refine LeO.bind ?_ (fun _ => ?_)
theorem intrusionref06_with.mono : ∀ a0 a1 a2 a3 a4 k, LeO (intrusionref06_with.f k a0 a1 a2 a3 a4) (intrusionref06_with.f (k + 1) a0 a1 a2 a3 a4) := by
  intro a0 a1 a2 a3 a4 k
  have ih0 := intrusionref06_with.mono_l k
  unfold intrusionref06_with.f
  repeat' first
      | (with_reducible exact ih0 _ _ _ _ _)
      | (with_reducible exact LeO.refl _)
      | (with_reducible exact LeO.none _)
      | (with_reducible refine LeO.ite ?_ ?_)
      | (with_reducible refine LeO.bind ?_ (fun _ => ?_))
      | exact ih0 _ _ _ _ _
      | exact LeO.none _
      | refine LeO.ite ?_ ?_
      | refine LeO.bind ?_ (fun _ => ?_)
end Go.Proofs.YtlgfinnldhjgeaaDoor.Q
end

section
namespace Go.Proofs.YtlgfinnldhjgeaaDoor.Q
open Go.RowKit Go.Proofs.YtlgfinnldhjgeaaDoorW.PrintWords Go.Proofs.YtlgfinnldhjgeaaDoorW.PrintLast Go.Proofs.YtlgfinnldhjgeaaDoorW.PrintMore
attribute [local go_sem] max2_int min2_int max_two min_two max_three min_three max_four min_four
set_option linter.unusedVariables false
set_option linter.unusedSimpArgs false
def intrusionref06_MakePrefix.f (k : Nat) (a0_0 : Bool) (a0_1 : Int) (a0_2 : Int) (a1 : Int) : Option (Bool × Int × Int × Int × Int) := if a1 < 0 then (some (false, 0, 0, 0, 4)) else ((intrusionref06_Width.f a0_0 a0_1 a0_2).bind fun t299 => (if a1 > t299 then (some (false, 0, 0, 0, 4)) else ((intrusionref06_with.f k a0_0 a0_1 a0_2 a1 false).bind fun bt300 => (some (bt300.1, bt300.2.1, bt300.2.2, a1, 0)))))
theorem intrusionref06_MakePrefix.mono : ∀ a0 a1 a2 a3 k, LeO (intrusionref06_MakePrefix.f k a0 a1 a2 a3) (intrusionref06_MakePrefix.f (k + 1) a0 a1 a2 a3) := by
  intro a0 a1 a2 a3 k
  unfold intrusionref06_MakePrefix.f
  repeat' first
      | (with_reducible exact intrusionref06_with.mono _ _ _ _ _ _)
      | (with_reducible exact LeO.refl _)
      | (with_reducible exact LeO.none _)
      | (with_reducible refine LeO.ite ?_ ?_)
      | (with_reducible refine LeO.bind ?_ (fun _ => ?_))
      | exact intrusionref06_with.mono _ _ _ _ _ _
      | exact LeO.none _
      | refine LeO.ite ?_ ?_
      | refine LeO.bind ?_ (fun _ => ?_)
end Go.Proofs.YtlgfinnldhjgeaaDoor.Q
end

section
namespace Go.Proofs.YtlgfinnldhjgeaaDoor.Q
open Go.RowKit Go.Proofs.YtlgfinnldhjgeaaDoorW.PrintWords Go.Proofs.YtlgfinnldhjgeaaDoorW.PrintLast Go.Proofs.YtlgfinnldhjgeaaDoorW.PrintMore
attribute [local go_sem] max2_int min2_int max_two min_two max_three min_three max_four min_four
set_option linter.unusedVariables false
set_option linter.unusedSimpArgs false
attribute [local go_sem high] eqA25
def intrusionref06_Contains.f (k : Nat) (a0_0 : Bool) (a0_1 : Int) (a0_2 : Int) (a0_3 : Int) (a1_0 : Bool) (a1_1 : Int) (a1_2 : Int) : Option (Bool) := if (a0_0 == a1_0) = true then ((intrusionref06_with.f k a1_0 a1_1 a1_2 a0_3 false).bind fun bt305 => (some (bt305.1 == a0_0 && (bt305.2.1 == a0_1 && (bt305.2.2 == a0_2))))) else (some false)
theorem intrusionref06_Contains.mono : ∀ a0 a1 a2 a3 a4 a5 a6 k, LeO (intrusionref06_Contains.f k a0 a1 a2 a3 a4 a5 a6) (intrusionref06_Contains.f (k + 1) a0 a1 a2 a3 a4 a5 a6) := by
  intro a0 a1 a2 a3 a4 a5 a6 k
  unfold intrusionref06_Contains.f
  repeat' first
      | (with_reducible exact intrusionref06_with.mono _ _ _ _ _ _)
      | (with_reducible exact LeO.refl _)
      | (with_reducible exact LeO.none _)
      | (with_reducible refine LeO.ite ?_ ?_)
      | (with_reducible refine LeO.bind ?_ (fun _ => ?_))
      | exact intrusionref06_with.mono _ _ _ _ _ _
      | exact LeO.none _
      | refine LeO.ite ?_ ?_
      | refine LeO.bind ?_ (fun _ => ?_)
end Go.Proofs.YtlgfinnldhjgeaaDoor.Q
end

section
namespace Go.Proofs.YtlgfinnldhjgeaaDoor.Q
open Go.RowKit Go.Proofs.YtlgfinnldhjgeaaDoorW.PrintWords Go.Proofs.YtlgfinnldhjgeaaDoorW.PrintLast Go.Proofs.YtlgfinnldhjgeaaDoorW.PrintMore
attribute [local go_sem] max2_int min2_int max_two min_two max_three min_three max_four min_four
set_option linter.unusedVariables false
set_option linter.unusedSimpArgs false
attribute [local go_sem high] eqA25
def intrusionref06_ValidPrefix.f (k : Nat) (a0_0 : Bool) (a0_1 : Int) (a0_2 : Int) (a0_3 : Int) : Option (Bool) := (intrusionref06_Valid.f a0_0 a0_1 a0_2).bind fun t248 => (if t248 = true then (if a0_3 ≥ 0 then ((intrusionref06_Width.f a0_0 a0_1 a0_2).bind fun t249 => (if a0_3 ≤ t249 then ((intrusionref06_with.f k a0_0 a0_1 a0_2 a0_3 false).bind fun bt250 => (some (bt250.1 == a0_0 && (bt250.2.1 == a0_1 && (bt250.2.2 == a0_2))))) else (some false))) else (some false)) else (some false))
theorem intrusionref06_ValidPrefix.mono : ∀ a0 a1 a2 a3 k, LeO (intrusionref06_ValidPrefix.f k a0 a1 a2 a3) (intrusionref06_ValidPrefix.f (k + 1) a0 a1 a2 a3) := by
  intro a0 a1 a2 a3 k
  unfold intrusionref06_ValidPrefix.f
  repeat' first
      | (with_reducible exact intrusionref06_with.mono _ _ _ _ _ _)
      | (with_reducible exact LeO.refl _)
      | (with_reducible exact LeO.none _)
      | (with_reducible refine LeO.ite ?_ ?_)
      | (with_reducible refine LeO.bind ?_ (fun _ => ?_))
      | exact intrusionref06_with.mono _ _ _ _ _ _
      | exact LeO.none _
      | refine LeO.ite ?_ ?_
      | refine LeO.bind ?_ (fun _ => ?_)
end Go.Proofs.YtlgfinnldhjgeaaDoor.Q
end

section
namespace Go.Proofs.YtlgfinnldhjgeaaDoor.Q
open Go.RowKit Go.Proofs.YtlgfinnldhjgeaaDoorW.PrintWords Go.Proofs.YtlgfinnldhjgeaaDoorW.PrintLast Go.Proofs.YtlgfinnldhjgeaaDoorW.PrintMore
attribute [local go_sem] max2_int min2_int max_two min_two max_three min_three max_four min_four
set_option linter.unusedVariables false
set_option linter.unusedSimpArgs false
def intrusionref06_Bounds.f (k : Nat) (a0_0 : Bool) (a0_1 : Int) (a0_2 : Int) (a0_3 : Int) : Option (Bool × Int × Int × Bool × Int × Int) := (intrusionref06_with.f k a0_0 a0_1 a0_2 a0_3 true).bind fun bt474 => (some (a0_0, a0_1, a0_2, bt474.1, bt474.2.1, bt474.2.2))
theorem intrusionref06_Bounds.mono : ∀ a0 a1 a2 a3 k, LeO (intrusionref06_Bounds.f k a0 a1 a2 a3) (intrusionref06_Bounds.f (k + 1) a0 a1 a2 a3) := by
  intro a0 a1 a2 a3 k
  unfold intrusionref06_Bounds.f
  repeat' first
      | (with_reducible exact intrusionref06_with.mono _ _ _ _ _ _)
      | (with_reducible exact LeO.refl _)
      | (with_reducible exact LeO.none _)
      | (with_reducible refine LeO.ite ?_ ?_)
      | (with_reducible refine LeO.bind ?_ (fun _ => ?_))
      | exact intrusionref06_with.mono _ _ _ _ _ _
      | exact LeO.none _
      | refine LeO.ite ?_ ?_
      | refine LeO.bind ?_ (fun _ => ?_)
end Go.Proofs.YtlgfinnldhjgeaaDoor.Q
end

section
set_option linter.unusedVariables false
set_option linter.unusedSimpArgs false
namespace Go.Proofs.YtlgfinnldhjgeaaDoor.Q
open Go.RowKit Go.Proofs.YtlgfinnldhjgeaaDoorW.PrintWords Go.Proofs.YtlgfinnldhjgeaaDoorW.PrintLast Go.Proofs.YtlgfinnldhjgeaaDoorW.PrintMore
theorem wid {x : Int} (h0 : -9223372036854775808 ≤ x) (h1 : x ≤ 9223372036854775807) : wrap64 x = x := by unfold wrap64; omega
def setN (n k : Nat) (b : Bool) : Nat := n - n % 2 ^ k + (if b then 2 ^ k - 1 else 0)
theorem ofInt_toNat (x : Nat) (h : x < 18446744073709551616) : (BitVec.ofInt 64 (x : Int)).toNat = x := by
  rw [BitVec.toNat_ofInt]
  simp
  omega
theorem pow_le64 (n : Nat) (hn : n ≤ 64) : 2 ^ n ≤ 18446744073709551616 := Nat.le_trans (Nat.pow_le_pow_right (by decide) hn) (by decide)
theorem bits_and (x n : Nat) (hx : x < 18446744073709551616) (hn : n ≤ 64) : Go.bits .and .u64 (x : Int) ((2 ^ n - 1 : Nat) : Int) = ((x % 2 ^ n : Nat) : Int) := by
  have hp := pow_le64 n hn
  have hpos : 0 < 2 ^ n := Nat.pow_pos (by decide)
  unfold Go.bits
  show IntKind.u64.wrap ((((BitVec.ofInt 64 (x : Int)) &&& (BitVec.ofInt 64 ((2 ^ n - 1 : Nat) : Int))).toNat : Nat) : Int) = _
  rw [BitVec.toNat_and, ofInt_toNat x hx, ofInt_toNat _ (by omega), Nat.and_two_pow_sub_one_eq_mod]
  have := Nat.mod_le x (2 ^ n)
  exact u64_id (by omega) (by omega)
theorem shl_one (n : Nat) (hn : n < 64) : IntKind.u64.wrap ((shl .u64 1 (n : Int)) - 1) = ((2 ^ n - 1 : Nat) : Int) := by
  have hp : 2 ^ n ≤ 9223372036854775808 := Nat.le_trans (Nat.pow_le_pow_right (by decide) (show n ≤ 63 by omega)) (by decide)
  have hpos : 0 < 2 ^ n := Nat.pow_pos (by decide)
  have e : shl .u64 1 (n : Int) = ((2 ^ n : Nat) : Int) := by
    unfold shl
    rw [show min (n : Int).toNat IntKind.u64.bits = n from by show min n 64 = n; omega]
    rw [Int.one_mul, show (2 : Int) ^ n = ((2 ^ n : Nat) : Int) from by simp]
    exact u64_id (by omega) (by omega)
  rw [e]
  rw [u64_id (by omega) (by omega)]
  omega
def hiM (k : Nat) : Int := ((2 ^ (k - 64) - 1 : Nat) : Int)
def loM (k : Nat) : Int := ((2 ^ (min k 64) - 1 : Nat) : Int)
def szA (f : Bool) : Nat := if f then 128 else 32
theorem low_eq (n : Int) (h : n ≤ 1000) : address_low.f n = some (((2 ^ (min n.toNat 64) - 1 : Nat)) : Int) := by
  unfold address_low.f
  by_cases h1 : n ≥ 64
  · rw [if_pos h1, show min n.toNat 64 = 64 from by omega]
    rfl
  · rw [if_neg h1]
    by_cases h2 : n ≤ 0
    · rw [if_pos h2, show min n.toNat 64 = 0 from by omega]
      rfl
    · rw [if_neg h2, if_pos (by omega), show min n.toNat 64 = n.toNat from by omega]
      have := shl_one n.toNat (by omega)
      rw [show ((n.toNat : Nat) : Int) = n from by omega] at this
      rw [this]
theorem size_eq (a : Ad) : address_size.f a.f0 a.f1 a.f2 = some ((szA a.f0 : Nat) : Int) := by
  unfold address_size.f szA
  cases a.f0 <;> rfl
theorem mask_eq (a : Ad) (b : Int) (k : Nat) (hk : (k : Int) = (szA a.f0 : Int) - b) (h0 : 0 ≤ b) (h1 : b ≤ szA a.f0) : address_mask.f a.f0 a.f1 a.f2 b = some (hiM k, loM k) := by
  have hs : szA a.f0 ≤ 128 := by unfold szA; split <;> omega
  unfold address_mask.f
  rw [size_eq]
  simp only [Option.bind_some]
  rw [wid (x := (szA a.f0 : Int) - b) (by omega) (by omega), ← hk, wid (x := (k : Int) - 64) (by omega) (by omega), low_eq _ (by omega), low_eq _ (by omega)]
  simp only [Option.bind_some]
  unfold hiM loM
  rw [show min ((k : Int) - 64).toNat 64 = k - 64 from by omega, show min ((k : Nat) : Int).toNat 64 = min k 64 from by omega]
theorem or_low (x n : Nat) : x ||| (2 ^ n - 1) = x - x % 2 ^ n + (2 ^ n - 1) := by
  have hp : 0 < 2 ^ n := Nat.pow_pos (by decide)
  have h1 : (x ||| (2 ^ n - 1)) / 2 ^ n = x / 2 ^ n := by
    rw [Nat.or_div_two_pow, Nat.div_eq_of_lt (show 2 ^ n - 1 < 2 ^ n by omega)]
    simp
  have h2 : (x ||| (2 ^ n - 1)) % 2 ^ n = 2 ^ n - 1 := by
    rw [Nat.or_mod_two_pow, Nat.mod_eq_of_lt (show 2 ^ n - 1 < 2 ^ n by omega)]
    have a1 : (x % 2 ^ n ||| (2 ^ n - 1)) < 2 ^ n := Nat.or_lt_two_pow (Nat.mod_lt _ hp) (by omega)
    have a2 : 2 ^ n - 1 ≤ (x % 2 ^ n ||| (2 ^ n - 1)) := Nat.right_le_or
    omega
  have d1 := Nat.div_add_mod (x ||| (2 ^ n - 1)) (2 ^ n)
  have d2 := Nat.div_add_mod x (2 ^ n)
  rw [h1, h2] at d1
  omega
theorem setN_le {n k m : Nat} (b : Bool) (hn : n < 2 ^ m) (hk : k ≤ m) : setN n k b < 2 ^ m := by
  have hp : 0 < 2 ^ k := Nat.pow_pos (by decide)
  have d2 := Nat.div_add_mod n (2 ^ k)
  have hl := Nat.mod_lt n hp
  have e : 2 ^ m = 2 ^ k * 2 ^ (m - k) := by rw [← Nat.pow_add, show k + (m - k) = m from by omega]
  have h1 : n / 2 ^ k < 2 ^ (m - k) := Nat.div_lt_of_lt_mul (by rw [← e]; exact hn)
  have h2 : 2 ^ k * (n / 2 ^ k + 1) ≤ 2 ^ k * 2 ^ (m - k) := Nat.mul_le_mul_left _ h1
  rw [Nat.mul_add, Nat.mul_one, ← e] at h2
  unfold setN
  split <;> omega
theorem bits_or (x n : Nat) (hx : x < 18446744073709551616) (hn : n ≤ 64) : Go.bits .or .u64 (x : Int) ((2 ^ n - 1 : Nat) : Int) = ((setN x n true : Nat) : Int) := by
  have hp := pow_le64 n hn
  have hpos : 0 < 2 ^ n := Nat.pow_pos (by decide)
  have hl := setN_le (m := 64) true hx hn
  unfold Go.bits
  show IntKind.u64.wrap ((((BitVec.ofInt 64 (x : Int)) ||| (BitVec.ofInt 64 ((2 ^ n - 1 : Nat) : Int))).toNat : Nat) : Int) = _
  rw [BitVec.toNat_or, ofInt_toNat x hx, ofInt_toNat _ (by omega), or_low]
  unfold setN at hl ⊢
  rw [if_pos rfl] at hl ⊢
  exact u64_id (by omega) (by omega)
theorem andNot_low (X M : BitVec 64) (n : Nat) (hn : n ≤ 64) (hM : M.toNat = 2 ^ n - 1) : (X &&& ~~~M).toNat = X.toNat - X.toNat % 2 ^ n := by
  have hpos : 0 < 2 ^ n := Nat.pow_pos (by decide)
  have hp := pow_le64 n hn
  have e : 18446744073709551616 = 2 ^ n * 2 ^ (64 - n) := by rw [← Nat.pow_add, show n + (64 - n) = 64 from by omega]
  have hq : 0 < 2 ^ (64 - n) := Nat.pow_pos (by decide)
  have hX := X.isLt
  rw [BitVec.toNat_and, BitVec.toNat_not, hM]
  have hC : 2 ^ 64 - 1 - (2 ^ n - 1) = 2 ^ n * (2 ^ (64 - n) - 1) := by
    rw [Nat.mul_sub, ← e, Nat.mul_one]
    omega
  rw [hC]
  generalize X.toNat = x at *
  have h1 : (x &&& (2 ^ n * (2 ^ (64 - n) - 1))) / 2 ^ n = x / 2 ^ n := by
    rw [Nat.and_div_two_pow, Nat.mul_div_cancel_left _ hpos, Nat.and_two_pow_sub_one_eq_mod]
    exact Nat.mod_eq_of_lt (Nat.div_lt_of_lt_mul (by rw [← e]; exact hX))
  have h2 : (x &&& (2 ^ n * (2 ^ (64 - n) - 1))) % 2 ^ n = 0 := by
    rw [Nat.and_mod_two_pow, Nat.mul_mod_right]
    simp
  have d1 := Nat.div_add_mod (x &&& (2 ^ n * (2 ^ (64 - n) - 1))) (2 ^ n)
  have d2 := Nat.div_add_mod x (2 ^ n)
  rw [h1, h2] at d1
  omega
theorem bits_andNot (x n : Nat) (hx : x < 18446744073709551616) (hn : n ≤ 64) : Go.bits .andNot .u64 (x : Int) ((2 ^ n - 1 : Nat) : Int) = ((setN x n false : Nat) : Int) := by
  have hp := pow_le64 n hn
  have hpos : 0 < 2 ^ n := Nat.pow_pos (by decide)
  unfold Go.bits
  show IntKind.u64.wrap ((((BitVec.ofInt 64 (x : Int)) &&& ~~~(BitVec.ofInt 64 ((2 ^ n - 1 : Nat) : Int))).toNat : Nat) : Int) = _
  rw [andNot_low _ _ n hn (ofInt_toNat _ (by omega)), ofInt_toNat x hx]
  unfold setN
  simp only [Bool.false_eq_true, if_false, Nat.add_zero]
  exact u64_id (by omega) (by omega)
def nv (a : Ad) : Nat := a.f1.toNat * 18446744073709551616 + a.f2.toNat
def mkN (f : Bool) (n : Nat) : Ad := ⟨f, ((n / 18446744073709551616 : Nat) : Int), ((n % 18446744073709551616 : Nat) : Int)⟩
theorem nv_mkN (f : Bool) (n : Nat) : nv (mkN f n) = n := by unfold nv mkN; simp only [Int.toNat_natCast]; omega
theorem mkN_f0 (f : Bool) (n : Nat) : (mkN f n).f0 = f := rfl
theorem av_nv {a : Ad} (h : AW a) : av a = (if a.f0 = true then 680564733841876926926749214863536422912 else 0) + (nv a : Int) := by
  obtain ⟨h1, h2, h3, h4⟩ := h
  unfold av nv
  omega
theorem mkN_aw (f : Bool) {n : Nat} (h : n < 340282366920938463463374607431768211456) : AW (mkN f n) := by
  unfold AW mkN
  exact ⟨by simp; omega, by simp; omega, by simp; omega, by simp; omega⟩
theorem szA_cases (f : Bool) : szA f = 128 ∧ f = true ∨ szA f = 32 ∧ f = false := by cases f <;> simp [szA]
theorem AF.nvlt {a : Ad} (h : AF a) : nv a < 2 ^ szA a.f0 := by
  obtain ⟨⟨h1, h2, h3, h4⟩, h5⟩ := h
  unfold nv
  rcases szA_cases a.f0 with ⟨e, e2⟩ | ⟨e, e2⟩ <;> rw [e]
  · rw [show (2 : Nat) ^ 128 = 340282366920938463463374607431768211456 from by decide]; omega
  · rw [show (2 : Nat) ^ 32 = 4294967296 from by decide]
    rcases h5 with h5 | h5
    · rw [e2] at h5; cases h5
    · omega
theorem mkN_af {f : Bool} {n : Nat} (h : n < 2 ^ szA f) : AF (mkN f n) := by
  rcases szA_cases f with ⟨e, e2⟩ | ⟨e, e2⟩ <;> rw [e] at h
  · rw [show (2 : Nat) ^ 128 = 340282366920938463463374607431768211456 from by decide] at h
    exact ⟨mkN_aw f h, .inl e2⟩
  · rw [show (2 : Nat) ^ 32 = 4294967296 from by decide] at h
    exact ⟨mkN_aw f (by omega), .inr ⟨by unfold mkN; simp; omega, by unfold mkN; simp; omega⟩⟩
def subA (a : Ad) (k : Nat) (b : Bool) : Ad := mkN a.f0 (setN (nv a) k b)
theorem subA_f0 (a : Ad) (k : Nat) (b : Bool) : (subA a k b).f0 = a.f0 := rfl
theorem subA_af {a : Ad} (h : AF a) {k : Nat} (hk : k ≤ szA a.f0) (b : Bool) : AF (subA a k b) := mkN_af (setN_le b h.nvlt hk)
theorem setN_parts (x y k : Nat) (hy : y < 18446744073709551616) (hk : k ≤ 128) (b : Bool) : setN (x * 18446744073709551616 + y) k b / 18446744073709551616 = setN x (k - 64) b ∧ setN (x * 18446744073709551616 + y) k b % 18446744073709551616 = setN y (min k 64) b := by
  by_cases h : k ≤ 64
  · rw [show k - 64 = 0 from by omega, show min k 64 = k from by omega]
    have e : 18446744073709551616 = 2 ^ k * 2 ^ (64 - k) := by rw [← Nat.pow_add, show k + (64 - k) = 64 from by omega]
    have hm : (x * 18446744073709551616 + y) % 2 ^ k = y % 2 ^ k := by
      rw [e, show x * (2 ^ k * 2 ^ (64 - k)) + y = 2 ^ k * (x * 2 ^ (64 - k)) + y from by rw [Nat.mul_left_comm], Nat.mul_add_mod]
    have hl := setN_le (m := 64) b hy h
    unfold setN at hl ⊢
    rw [hm]
    have hle := Nat.mod_le y (2 ^ k)
    have e0 : x % 2 ^ 0 = 0 := by rw [Nat.pow_zero]; omega
    rw [e0, Nat.pow_zero]
    generalize y % 2 ^ k = r at *
    generalize 2 ^ k = p at *
    rw [show (2 : Nat) ^ 64 = 18446744073709551616 from by decide] at hl
    cases b
    · simp only [Bool.false_eq_true, if_false] at hl ⊢
      omega
    · simp only [if_true] at hl ⊢
      omega
  · rw [show min k 64 = 64 from by omega]
    have e : 2 ^ k = 18446744073709551616 * 2 ^ (k - 64) := by rw [show 18446744073709551616 = 2 ^ 64 from by decide, ← Nat.pow_add, show 64 + (k - 64) = k from by omega]
    have hm : (x * 18446744073709551616 + y) % 2 ^ k = y + 18446744073709551616 * (x % 2 ^ (k - 64)) := by
      rw [e, Nat.mod_mul]
      rw [show (x * 18446744073709551616 + y) % 18446744073709551616 = y from by omega, show (x * 18446744073709551616 + y) / 18446744073709551616 = x from by omega]
    have hp : 0 < 2 ^ (k - 64) := Nat.pow_pos (by decide)
    unfold setN
    rw [hm, e, show y % 2 ^ 64 = y from Nat.mod_eq_of_lt hy]
    have hle := Nat.mod_le x (2 ^ (k - 64))
    generalize x % 2 ^ (k - 64) = r at *
    generalize 2 ^ (k - 64) = p at *
    rw [show (2 : Nat) ^ 64 = 18446744073709551616 from by decide]
    cases b
    · simp only [Bool.false_eq_true, if_false]
      omega
    · simp only [if_true]
      omega
theorem subA_eq {a : Ad} (h : AW a) {k : Nat} (hk : k ≤ 128) (b : Bool) : subA a k b = ⟨a.f0, ((setN a.f1.toNat (k - 64) b : Nat) : Int), ((setN a.f2.toNat (min k 64) b : Nat) : Int)⟩ := by
  obtain ⟨h1, h2, h3, h4⟩ := h
  have := setN_parts a.f1.toNat a.f2.toNat k (by omega) hk b
  unfold subA mkN nv
  rw [this.1, this.2]
theorem maskOff {a : Ad} (h : AW a) {k : Nat} (hk : k ≤ 128) : Go.bits .andNot .u64 a.f1 (hiM k) = (subA a k false).f1 ∧ Go.bits .andNot .u64 a.f2 (loM k) = (subA a k false).f2 := by
  rw [subA_eq h hk]
  obtain ⟨h1, h2, h3, h4⟩ := h
  have e1 := bits_andNot a.f1.toNat (k - 64) (by omega) (by omega)
  have e2 := bits_andNot a.f2.toNat (min k 64) (by omega) (by omega)
  rw [show ((a.f1.toNat : Nat) : Int) = a.f1 from by omega] at e1
  rw [show ((a.f2.toNat : Nat) : Int) = a.f2 from by omega] at e2
  exact ⟨e1, e2⟩
theorem maskOn {a : Ad} (h : AW a) {k : Nat} (hk : k ≤ 128) : Go.bits .or .u64 a.f1 (hiM k) = (subA a k true).f1 ∧ Go.bits .or .u64 a.f2 (loM k) = (subA a k true).f2 := by
  rw [subA_eq h hk]
  obtain ⟨h1, h2, h3, h4⟩ := h
  have e1 := bits_or a.f1.toNat (k - 64) (by omega) (by omega)
  have e2 := bits_or a.f2.toNat (min k 64) (by omega) (by omega)
  rw [show ((a.f1.toNat : Nat) : Int) = a.f1 from by omega] at e1
  rw [show ((a.f2.toNat : Nat) : Int) = a.f2 from by omega] at e2
  exact ⟨e1, e2⟩
end Go.Proofs.YtlgfinnldhjgeaaDoor.Q
end

section
set_option linter.unusedVariables false
set_option linter.unusedSimpArgs false
namespace Go.Proofs.YtlgfinnldhjgeaaDoor.Q
open Go.RowKit Go.Proofs.YtlgfinnldhjgeaaDoorW.PrintWords Go.Proofs.YtlgfinnldhjgeaaDoorW.PrintLast Go.Proofs.YtlgfinnldhjgeaaDoorW.PrintMore
theorem szA_le (f : Bool) : szA f ≤ 128 := by unfold szA; split <;> omega
def restN (a : Ad) (b : Int) : Nat := szA a.f0 - b.toNat
theorem mkp_eq {a : Ad} (h : AW a) {b : Int} (h0 : 0 ≤ b) (h1 : b ≤ szA a.f0) : address_MakePrefix.f a.f0 a.f1 a.f2 b = some (a.f0, (subA a (restN a b) false).f1, (subA a (restN a b) false).f2, b, 0) := by
  have hs := szA_le a.f0
  have := maskOff h (k := restN a b) (by unfold restN; omega)
  unfold address_MakePrefix.f
  rw [if_neg (by omega), size_eq]
  rw [Option.bind_some]
  rw [if_neg (by omega), mask_eq a b (restN a b) (by unfold restN; omega) h0 h1]
  rw [Option.bind_some]
  rw [this.1, this.2]
theorem mkp_out {a : Ad} {b : Int} (h : ¬ (0 ≤ b ∧ b ≤ szA a.f0)) : address_MakePrefix.f a.f0 a.f1 a.f2 b = some (false, 0, 0, 0, 4) := by
  unfold address_MakePrefix.f
  by_cases h0 : b < 0
  · rw [if_pos h0]
  · rw [if_neg h0, size_eq]
    rw [Option.bind_some]
    rw [if_pos (by omega)]
theorem con_far {p x : Ad} {b : Int} (h : p.f0 ≠ x.f0) : address_Contains.f p.f0 p.f1 p.f2 b x.f0 x.f1 x.f2 = some false := by
  unfold address_Contains.f
  rw [if_pos (bne_iff_ne.2 h)]
theorem con_eq {p x : Ad} (hp : AW p) (hx : AW x) {b : Int} (h : p.f0 = x.f0) (h0 : 0 ≤ b) (h1 : b ≤ szA p.f0) : address_Contains.f p.f0 p.f1 p.f2 b x.f0 x.f1 x.f2 = some (decide (subA x (restN p b) false = subA p (restN p b) false)) := by
  have hs := szA_le p.f0
  have hk : restN p b ≤ 128 := by unfold restN; omega
  have e1 := maskOff hp hk
  have e2 := maskOff hx hk
  unfold address_Contains.f
  rw [if_neg (by rw [h]; simp), mask_eq x b (restN p b) (by unfold restN; rw [← h]; omega) h0 (by rw [← h]; exact h1)]
  rw [Option.bind_some]
  rw [e1.1, e1.2, e2.1, e2.2]
  by_cases c : (subA x (restN p b) false).f1 = (subA p (restN p b) false).f1
  · rw [if_pos c]
    congr 1
    rw [Bool.eq_iff_iff, beq_iff_eq, decide_eq_true_eq]
    constructor
    · intro c2
      have : ∀ u v : Ad, u.f0 = v.f0 → u.f1 = v.f1 → u.f2 = v.f2 → u = v := fun u v g0 g1 g2 => by cases u; cases v; simp at g0 g1 g2; simp [g0, g1, g2]
      exact this _ _ (by rw [subA_f0, subA_f0, h]) c c2
    · intro e; rw [e]
  · rw [if_neg c]
    have : ¬ (subA x (restN p b) false = subA p (restN p b) false) := fun e => c (by rw [e])
    rw [decide_eq_false this]
theorem bounds_eq {p : Ad} (h : AW p) {b : Int} (h0 : 0 ≤ b) (h1 : b ≤ szA p.f0) : address_Bounds.f p.f0 p.f1 p.f2 b = some (p.f0, p.f1, p.f2, p.f0, (subA p (restN p b) true).f1, (subA p (restN p b) true).f2) := by
  have hs := szA_le p.f0
  have := maskOn h (k := restN p b) (by unfold restN; omega)
  unfold address_Bounds.f
  rw [mask_eq p b (restN p b) (by unfold restN; omega) h0 h1]
  rw [Option.bind_some]
  rw [this.1, this.2]
theorem setN_mono {n m k : Nat} : setN n k false = setN m k false ↔ n / 2 ^ k = m / 2 ^ k := by
  have d1 := Nat.div_add_mod n (2 ^ k)
  have d2 := Nat.div_add_mod m (2 ^ k)
  have hp : 0 < 2 ^ k := Nat.pow_pos (by decide)
  have g1 : setN n k false = 2 ^ k * (n / 2 ^ k) := by unfold setN; simp only [Bool.false_eq_true, if_false]; omega
  have g2 : setN m k false = 2 ^ k * (m / 2 ^ k) := by unfold setN; simp only [Bool.false_eq_true, if_false]; omega
  rw [g1, g2]
  exact ⟨fun h => Nat.eq_of_mul_eq_mul_left hp h, fun h => by rw [h]⟩
theorem setN_range {n m k : Nat} : setN n k false = setN m k false ↔ setN m k false ≤ n ∧ n ≤ setN m k true := by
  rw [setN_mono]
  have d1 := Nat.div_add_mod n (2 ^ k)
  have d2 := Nat.div_add_mod m (2 ^ k)
  have hp : 0 < 2 ^ k := Nat.pow_pos (by decide)
  have l1 := Nat.mod_lt n hp
  have g1 : setN m k false = 2 ^ k * (m / 2 ^ k) := by unfold setN; simp only [Bool.false_eq_true, if_false]; omega
  have g2 : setN m k true = 2 ^ k * (m / 2 ^ k) + (2 ^ k - 1) := by unfold setN; simp only [if_true]; omega
  rw [g1, g2]
  constructor
  · intro h
    rw [h] at d1
    omega
  · rintro ⟨h1, h2⟩
    have a1 : m / 2 ^ k ≤ n / 2 ^ k := (Nat.le_div_iff_mul_le hp).2 (by rw [Nat.mul_comm]; exact h1)
    have a2 : n / 2 ^ k < m / 2 ^ k + 1 := (Nat.div_lt_iff_lt_mul hp).2 (by rw [Nat.mul_comm, Nat.mul_add, Nat.mul_one]; omega)
    omega
theorem setN_idem (n k : Nat) (b c : Bool) : setN (setN n k b) k c = setN n k c := by
  have d1 := Nat.div_add_mod n (2 ^ k)
  have hp : 0 < 2 ^ k := Nat.pow_pos (by decide)
  have g : ∀ m d, setN m k d = 2 ^ k * (m / 2 ^ k) + (if d then 2 ^ k - 1 else 0) := fun m d => by
    have := Nat.div_add_mod m (2 ^ k)
    unfold setN
    omega
  rw [g _ c, g n c, g n b]
  congr 2
  cases b
  · simp only [Bool.false_eq_true, if_false, Nat.add_zero]
    exact Nat.mul_div_cancel_left _ hp
  · simp only [if_true]
    rw [Nat.mul_add_div hp, Nat.div_eq_of_lt (Nat.sub_lt hp (by decide)), Nat.add_zero]
theorem subA_idem {a : Ad} (k : Nat) (b c : Bool) : subA (subA a k b) k c = subA a k c := by
  unfold subA
  rw [nv_mkN, mkN_f0, setN_idem]
theorem mkN_inj {f : Bool} {n m : Nat} : mkN f n = mkN f m ↔ n = m := ⟨fun h => by rw [← nv_mkN f n, h, nv_mkN], fun h => by rw [h]⟩
end Go.Proofs.YtlgfinnldhjgeaaDoor.Q
end

section
set_option linter.unusedVariables false
set_option linter.unusedSimpArgs false
namespace Go.Proofs.YtlgfinnldhjgeaaDoor.Pure
open Go.RowKit Go.Proofs.YtlgfinnldhjgeaaDoor.Q Go.Proofs.YtlgfinnldhjgeaaDoorW.PrintWords Go.Proofs.YtlgfinnldhjgeaaDoorW.PrintLast
theorem contains_main {a c : Ad} (ha : AF a) (hc : AF c) {b : Int} (h0 : 0 ≤ b) (h1 : b ≤ szA a.f0) : intrusionlaw06_AddressContains.j0 2 b false a.f0 a.f1 a.f2 c.f0 c.f1 c.f2 = some true := by
  have hk : restN a b ≤ szA a.f0 := by unfold restN; omega
  have hp : AF (subA a (restN a b) false) := subA_af ha hk false
  have hq : AF (subA a (restN a b) true) := subA_af ha hk true
  obtain ⟨p, hpe⟩ : ∃ p, subA a (restN a b) false = p := ⟨_, rfl⟩
  obtain ⟨q, hqe⟩ : ∃ q, subA a (restN a b) true = q := ⟨_, rfl⟩
  rw [intrusionlaw06_AddressContains.j0, if_neg Bool.false_ne_true, mkp_eq ha.1 h0 h1, Option.bind_some]
  have hpf : a.f0 = p.f0 := by rw [← hpe]; rfl
  have hqf : p.f0 = q.f0 := by rw [← hpe, ← hqe]; rfl
  have hr : restN p b = restN a b := by unfold restN; rw [hpf]
  have hpp : subA p (restN a b) false = p := by rw [← hpe, subA_idem]
  have hpq : subA p (restN a b) true = q := by rw [← hpe, subA_idem, hqe]
  have hqp : subA q (restN a b) false = p := by rw [← hqe, subA_idem, hpe]
  dsimp only
  rw [if_pos rfl, hpe, hpf]
  rw [hpe] at hp
  rw [hqe] at hq
  have h1p : b ≤ szA p.f0 := by rw [← hpf]; exact h1
  rw [bounds_eq hp.1 h0 h1p, Option.bind_some]
  dsimp only
  rw [hr, hpq]
  have c1 := con_eq hp.1 ha.1 hpf.symm h0 h1p
  rw [hr, hpe, hpp, ← hpf, decide_eq_true rfl] at c1
  rw [← hpf, c1, Option.bind_some, if_pos rfl]
  have c2 := con_eq hp.1 hp.1 rfl h0 h1p
  rw [decide_eq_true rfl, ← hpf] at c2
  rw [c2, Option.bind_some, if_pos rfl]
  have c3 := con_eq hp.1 hq.1 hqf h0 h1p
  rw [hr, hqp, hpp, decide_eq_true rfl, ← hqf, ← hpf] at c3
  rw [c3, Option.bind_some, intrusionlaw06_AddressContains.j1, Bool.not_true, if_neg Bool.false_ne_true]
  have cc : address_Contains.f a.f0 p.f1 p.f2 b c.f0 c.f1 c.f2 = some (decide (av p ≤ av c ∧ av c ≤ av q)) := by
    by_cases hf : p.f0 = c.f0
    · rw [hpf, con_eq hp.1 hc.1 hf h0 h1p, hr, hpp]
      congr 1
      rw [decide_eq_decide, ← hpe, av_nv (hpe ▸ hp.1), av_nv hc.1, av_nv hq.1]
      have e1 : subA c (restN a b) false = subA a (restN a b) false ↔ setN (nv c) (restN a b) false = setN (nv a) (restN a b) false := by
        unfold subA
        rw [← hf, ← hpf]
        exact mkN_inj
      rw [e1, setN_range, ← hqe]
      unfold subA
      rw [nv_mkN, nv_mkN, mkN_f0, mkN_f0, ← hf, ← hpf]
      omega
    · rw [hpf, con_far hf]
      congr 1
      rw [eq_comm, decide_eq_false_iff_not]
      rcases hp.num with ⟨x1, x2, x3⟩ | ⟨x1, x2, x3⟩ <;> rcases hc.num with ⟨y1, y2, y3⟩ | ⟨y1, y2, y3⟩ <;> rcases hq.num with ⟨z1, z2, z3⟩ | ⟨z1, z2, z3⟩
      all_goals first | (exfalso; apply hf; rw [x1, y1]; done) | (exfalso; rw [x1, z1] at hqf; cases hqf; done) | omega
  rw [cc, Option.bind_some, hpf, cmp_f p c, Option.bind_some]
  by_cases d1 : cmpA p c ≤ 0
  · rw [if_pos d1, hqf, cmp_f c q, Option.bind_some]
    congr 1
    rw [beq_iff_eq, decide_eq_decide, cmp_le' hc.1 hq.1]
    have := (cmp_le' hp.1 hc.1).1 d1
    omega
  · rw [if_neg d1]
    have : ¬ (av p ≤ av c ∧ av c ≤ av q) := fun e => d1 ((cmp_le' hp.1 hc.1).2 e.1)
    rw [decide_eq_false this]
    rfl
theorem AddressContains : ∀ (x0 : Ad) (x1 : Ad) (a2 : Int), q25 x0 → q25 x1 → (Lit.int .i64 a2).wf = true → ∃ k, intrusionlaw06_AddressContains.f k x0.f0 x0.f1 x0.f2 x1.f0 x1.f1 x1.f2 a2 = some true := by
  intro a c b ha hc _
  refine ⟨2, ?_⟩
  unfold intrusionlaw06_AddressContains.f
  rw [fine_eq a, fine_eq c]
  have hJ : intrusionlaw06_AddressContains.j0 2 b true a.f0 a.f1 a.f2 c.f0 c.f1 c.f2 = some true := by rw [intrusionlaw06_AddressContains.j0, if_pos rfl]
  simp only [intrusionlaw06_lives.f, Option.bind_some, if_true]
  cases ea : fineB a
  · simpa using hJ
  · cases ec : fineB c
    · simpa using hJ
    · simp only [if_true, Bool.not_true]
      have fa := (fine_iff (aw_of ha)).1 ea
      have fc := (fine_iff (aw_of hc)).1 ec
      by_cases hb : 0 ≤ b ∧ b ≤ szA a.f0
      · exact contains_main fa fc hb.1 hb.2
      · rw [intrusionlaw06_AddressContains.j0, if_neg Bool.false_ne_true, mkp_out hb, Option.bind_some]
        exact if_neg (by decide)
end Go.Proofs.YtlgfinnldhjgeaaDoor.Pure
end

section
set_option linter.unusedVariables false
namespace Go.Proofs.YtlgfinnldhjgeaaDoor.Q
open Go.RowKit
theorem returns_laid {H : Type} {enc : TypeId × Value → H} {a : Assume} {C : Checked} {os : Os} {f : FuncId} {fn : Func} {s : ChangeSpec} {conds : List PathCond} {apart fresh handsOn again : Bool} {X : World → Array Value → Prop}
    (hX : ∀ (w w' : World) (args : Array Value), w.heap = w'.heap → X w args → X w' args)
    (own : ownKnob C.prog.godebug = none) (started : os.Started) (noInit : C.prog.inits.idxOf? f = none) (hfn : C.prog.funcs[f]? = some fn)
    (witness : ∃ (w : World) (tape : Tape) (i : Input), w.os = os ∧ (w.forCall tape i).Shaped C.prog ∧ i.vars = [] ∧ Input.okWide C.prog (w.forCall tape i) .any w.heap.size f i ∧
      ((s.pre enc C.prog fn conds apart (w.forCall tape i).memory i.args ∧ X (w.forCall tape i).memory i.args) ∧ sizedMet enc C.prog fn (OpenSpec.ofChange s) apart (w.forCall tape i).memory i.args) ∧ a.holds C.prog (lone (Frame.enter C.prog f i.args .normal) [] (w.forCall tape i)))
    (contract : ∀ (W : World) (base : Nat) (args : Array Value) (ds gs : List (DataW H)) (before : List MemPlace),
      (∀ (j : Nat) t v, fn.params[j]? = some t → args[j]? = some v → Value.okWide C.prog W .any base t v) →
      DataW.Whole enc C.prog fn.params.toList s.vars apart W args.toList ds gs before →
      conds.all (PathCond.test C.prog ⟨fn.params.toList, ds, s.plain.varTypes C.prog, gs⟩) = true →
      (DataW.weightsEach C.prog (fn.params.toList ++ s.plain.varTypes C.prog) (ds ++ gs)).all (· ≤ reachBytes) = true → X W args → W.ShapedOpen C.prog →
      a.holds C.prog (lone (Frame.enter C.prog f args .normal) [] W) →
      Calls C.prog f args W fun e W' => ∃ v, e = .returned v ∧ s.post enc C.prog fn apart fresh handsOn again W args v W') :
    ReturnsInHanded a C os f .any (fun w args => (s.pre enc C.prog fn conds apart w args ∧ X w args) ∧ sizedMet enc C.prog fn (OpenSpec.ofChange s) apart w args) (s.post enc C.prog fn apart fresh handsOn again) := by
  refine returnsInHanded_of_calls own started noInit witness ?_
  intro w tape i _ hsh _ hok hpre hholds
  obtain ⟨_, _, _, fn', hfn', _, _, _, _, hval⟩ := hok
  have e : fn' = fn := Option.some.inj (hfn'.symm.trans hfn)
  subst e
  obtain ⟨⟨⟨ds, gs, before, hw, hc⟩, hx⟩, hz⟩ := hpre
  have hw' := DataW.Whole.of_heap (w' := w.forCall tape i) (by rfl) hw
  refine (contract (w.forCall tape i) w.heap.size i.args ds gs before hval hw' hc (hz.weights hw) (hX _ _ _ (by rfl) hx) hsh hholds).mono fun e W' ⟨v, he, hp⟩ => ?_
  subst he
  exact ChangeSpec.post_blind hp
theorem laidVars_at {P : Program} {W : World} : ∀ {laid : List (String × DataW Unit)} {ps : List MemPlace}, DataW.LaidVars P W laid ps → ∀ (i : Nat) (n : String) (d : DataW Unit), laid[i]? = some (n, d) →
    ∃ g t cs fuel p, P.globalNamed n = some g ∧ (P.globals[g]?).map (·.type) = some t ∧ W.var? P n = some cs ∧ DataW.trod (fun _ => ()) P W 0 (fun _ => true) false fuel t cs.toList = some (d, p)
  | [], _, _, i, _, _, h => by simp at h
  | (m, c) :: r, ps, h, i, n, d, hi => by
    obtain ⟨g, t, cs, fuel, p, q, h1, h2, h3, h4, h5, _⟩ := h
    cases i with
    | zero =>
      simp only [List.getElem?_cons_zero, Option.some.injEq, Prod.mk.injEq] at hi
      obtain ⟨rfl, rfl⟩ := hi
      exact ⟨g, t, cs, fuel, p, h1, h2, h3, h4⟩
    | succ j => exact laidVars_at h5 j n d (by simpa using hi)
theorem tabIs_at {P : Program} {W : World} {laid : List (String × DataW Unit)} {name : String} {k : IntKind} {zs : List Int} {g : Nat} {t e : TypeId} {n : Nat} (i : Nat) (hi : laid[i]? = some (name, Lib.tabData k zs))
    (hg : P.globalNamed name = some g) (hty : (P.globals[g]?).map (·.type) = some t) (ht : P.underlying t = some (.array n e)) (he : P.underlying e = some (.int k)) (hce : P.cellsOf e = 1) (hct : P.cellsOf t = n)
    (h : laidMet P laid W) : Lib.TabIs P W name k zs := by
  obtain ⟨ps, h, _⟩ := h
  obtain ⟨g', t', cs, fuel, p, hg', ht', hvar, hd⟩ := laidVars_at h i _ _ hi
  obtain rfl := Option.some.inj (hg.symm.trans hg')
  obtain rfl := Option.some.inj (hty.symm.trans ht')
  unfold Lib.TabIs
  rw [hvar, ← Lib.cells_of_tab ht he hce hct hd]
def laidL : List (String × DataW Unit) := [("math/bits.deBruijn32tab", Rows.laid_math_bits_deBruijn32tab), ("math/bits.deBruijn64tab", Rows.laid_math_bits_deBruijn64tab), ("internal/strconv.uint64pow10", Rows.laid_internal_strconv_uint64pow10), ("unicode/utf8.acceptRanges", Rows.laid_unicode_utf8_acceptRanges), ("unicode/utf8.first", Rows.laid_unicode_utf8_first)]
theorem wok_of {W : World} (h : laidMetH Tryd.prog laidL W) (hs : W.ShapedOpen Tryd.prog) : WOK W := by
  rw [MakeChecks.laidMetH_plain _ _ _ (by kernel_rfl)] at h
  refine ⟨?_, ?_, ?_⟩
  · exact cell_of_shapedOpen_int (t := 3) (zero := #[.int .i64 0]) hs (by decide +kernel) (by kernel_rfl) (by kernel_rfl) (by kernel_rfl) (by kernel_rfl) Tryd.underlying3
  · exact tabIs_at (g := 1) (n := 20) 2 (by rfl) (by kernel_rfl) (t := 112) (by kernel_rfl) (by kernel_rfl) (e := 23) Tryd.underlying23 (by kernel_rfl) (by kernel_rfl) h
  · have hb : Lib.TabIs Tryd.prog W "math/bits.deBruijn64tab" .u8 (Lib.deBruijn64tab.map Int.ofNat) := tabIs_at (g := 3) (n := 64) 1 (by rfl) (by kernel_rfl) (t := 123) (by kernel_rfl) (by kernel_rfl) (e := 5) Tryd.underlying5 (by kernel_rfl) (by kernel_rfl) h
    intro j hj
    have h2 := hb.cell (g := 3) (by kernel_rfl) j (by rw [List.length_map]; exact hj)
    rw [h2, List.getD, List.getD, List.getElem?_map, List.getElem?_eq_getElem hj]
    rfl
set_option maxRecDepth 100000 in
theorem laid_world (os : Os) (args : Array Value) : laidMetH Tryd.prog laidL ((World.laidAll Tryd.prog os laidL).forCall (fun _ _ => 0) ⟨#[], args, []⟩).memory := by
  rw [MakeChecks.laidMetH_plain _ _ _ (by kernel_rfl)]
  exact laidMet_laidAll _ (by kernel_rfl) (by kernel_rfl)
end Go.Proofs.YtlgfinnldhjgeaaDoor.Q
end

section
namespace Go.Proofs.YtlgfinnldhjgeaaDoor.addressContains
open Go.ChangeShapes Go.WideShapes Go.ChangeAt Go.RowKit Go.Proofs.YtlgfinnldhjgeaaDoorW.PrintWords Go.Proofs.YtlgfinnldhjgeaaDoor.Read Go.Proofs.YtlgfinnldhjgeaaDoor.Q
open Go.ChangeMaps (open_string shut_string)
set_option linter.unusedVariables false
theorem own : ownKnob Tryd.prog.godebug = none := by kernel_rfl
theorem laidOut : laidOutB Tryd.prog = true := by kernel_rfl
set_option maxRecDepth 100000 in
theorem lifted (os : Os) (started : os.Started) (H : Type) (enc : TypeId × Value → H) :
    ReturnsInHanded {} Tryd.checked os 6 .any (fun w args => (Rows.addressContainsSpec.pre enc Tryd.prog Tryd.f6 Rows.addressContainsRow.domain false w args ∧ laidMetH Tryd.prog laidL w) ∧ sizedMet enc Tryd.prog Tryd.f6 (OpenSpec.ofChange Rows.addressContainsSpec) false w args) (Rows.addressContainsSpec.post enc Tryd.prog Tryd.f6 false true false false) := by
  refine returns_laid (C := Tryd.checked) (X := (fun w _ => laidMetH Tryd.prog laidL w)) (fun _ _ _ hh h => h.of_heap hh) own started (by kernel_rfl) Tryd.func6
    (ChangeSpec.witness_shaped (enc := enc) (C := Tryd.checked) (os := os) (X := (fun w _ => laidMetH Tryd.prog laidL w)) false (World.laidAll Tryd.prog os laidL) #[.agg #[.bool false, .int .u64 0, .int .u64 0], .agg #[.bool false, .int .u64 0, .int .u64 0], .int .i64 0] 8 (World.laidAll_os _ _ _)
      (World.shaped_of_ZipB (by kernel_rfl) (by kernel_rfl)) (by kernel_rfl) (by kernel_rfl) (by kernel_rfl) (laid_world os _)) ?_
  intro W base args ds gs before hval0 hW hcnd hsz0 hL hsh _
  have hWok := wok_of hL hsh
  have hsz : (DataW.weightsEach Tryd.prog (Tryd.f6.params.toList ++ Rows.addressContainsSpec.plain.varTypes Tryd.prog) (ds ++ gs)).all (· ≤ reachBytes) = true := hsz0
  have hval : ∀ (j : Nat) t v, Tryd.f6.params[j]? = some t → args[j]? = some v → Value.okWide Tryd.prog W .any base t v := hval0
  have hW' := hW
  obtain ⟨p, q, hA0, hV, rfl, hfz, hnd⟩ := hW
  have hA : DataW.TrodAll enc Tryd.prog W 0 (fun _ => true) true Tryd.f6.params.toList args.toList ds p := hA0
  rw [Tryd.params6] at hA hval hsz
  obtain ⟨v0, vs0, d0, ds0, p0, q0, hargs, rfl, rfl, h0, r0⟩ := trodAll_cons hA
  obtain ⟨v1, vs1, d1, ds1, p1, q1, rfl, rfl, rfl, h1, r1⟩ := trodAll_cons r0
  obtain ⟨v2, vs2, d2, ds2, p2, q2, rfl, rfl, rfl, h2, r2⟩ := trodAll_cons r1
  obtain ⟨rfl, rfl, rfl⟩ := trodAll_nil r2
  obtain rfl : args = #[v0, v1, v2] := by cases args; simp_all
  obtain ⟨rfl, rfl⟩ := trodVars_none hV
  obtain ⟨cs0, rfl, hz0⟩ := okWide_struct Tryd.underlying25 (hval 0 25 v0 rfl rfl)
  have k0_ := h0
  have lt0 : ∀ x ∈ p0, x.block < W.heap.size := by obtain ⟨m, hm⟩ := k0_; exact DataW.trod_lt m _ _ _ hm
  obtain ⟨fuel0, hf0⟩ := h0
  obtain ⟨x0, hK0, hq0⟩ := reads_k25 W H enc fuel0 _ _ hf0
  have hcs0 := k25_open hK0
  simp only [Value.cells] at hcs0
  obtain rfl : cs0 = #[.bool x0.f0, .int .u64 x0.f1, .int .u64 x0.f2] := by rw [← Array.toList_inj]; exact hcs0
  obtain ⟨cs1, rfl, hz1⟩ := okWide_struct Tryd.underlying25 (hval 1 25 v1 rfl rfl)
  have k1_ := h1
  have lt1 : ∀ x ∈ p1, x.block < W.heap.size := by obtain ⟨m, hm⟩ := k1_; exact DataW.trod_lt m _ _ _ hm
  obtain ⟨fuel1, hf1⟩ := h1
  obtain ⟨x1, hK1, hq1⟩ := reads_k25 W H enc fuel1 _ _ hf1
  have hcs1 := k25_open hK1
  simp only [Value.cells] at hcs1
  obtain rfl : cs1 = #[.bool x1.f0, .int .u64 x1.f1, .int .u64 x1.f2] := by rw [← Array.toList_inj]; exact hcs1
  obtain ⟨a2, rfl, rfl, rfl, w2⟩ := open_int Tryd.underlying3 (hval 2 3 v2 rfl rfl) h2
  clear hA0 hval0 hsz0 hsz
  obtain ⟨k, hk⟩ := Pure.AddressContains x0 x1 a2 hq0 hq1 w2
  refine (intrusionlaw06_AddressContains.calls k x0.f0 x0.f1 x0.f2 x1.f0 x1.f1 x1.f2 a2 true W  hk hWok).mono fun e W' he => ?_
  obtain ⟨rfl, bel⟩ := he
  exact ⟨_, rfl, _, _, _, [], _, [], hW', trodAll_mk1 (shut_bool Tryd.underlying4 _), (trodAll_cons_mk (Below.trod laidOut (by kernel_rfl) (of_decide_eq_true (by kernel_rfl)) k0_ bel lt0) (trodAll_cons_mk (Below.trod laidOut (by kernel_rfl) (of_decide_eq_true (by kernel_rfl)) k1_ bel lt1) (trodAll_cons_mk (shut_int Tryd.underlying3 w2) trodAll_mk0))), rfl, bel.frame _, fun h => by cases h⟩
theorem over : Rows.addressContainsRow.holds Tryd.pinned (OpenSpec.ofChange Rows.addressContainsSpec) :=
  OpenClaim.holds_of_wide 6 Tryd.f6 rfl rfl rfl rfl rfl rfl rfl ⟨rfl, rfl, rfl, rfl, rfl⟩ rfl rfl rfl rfl rfl (by kernel_rfl) Tryd.func6 (by kernel_rfl)
    (of_decide_eq_true (by kernel_rfl)) (by unfold Func.isWrapper; first | (rw [if_pos (by decide +kernel)]; kernel_rfl) | (rw [if_neg (by decide +kernel)]; exact ⟨rfl, rfl⟩))
    (fun os started H enc _ => lifted os started H enc)
theorem card : Rows.AddressContainsCardSaid :=
  Claim7.holds_tied_plain_at .later [] [.data, .data, .data, .data, .pinned] true (true, "a4caf97771cecc6370fff57cddc3aa8f525d50a87a13146298f7be9fbc5a6ea2") false over (fun _ h => by cases h) (by kernel_rfl) (fun _ h => by cases h) addressContains_row_tie rfl ⟨rfl, rfl⟩ (by kernel_rfl) rfl
    (fun f fn hf hfn => by
      obtain rfl : f = 6 := Option.some.inj ((show Tryd.prog.funcNamed "intrusion/intrusionlaw06.AddressContains" = some 6 by kernel_rfl).symm.trans hf) |>.symm
      obtain rfl : fn = Tryd.f6 := (Option.some.inj (Tryd.func6.symm.trans hfn)).symm
      exact ⟨by kernel_rfl, fun j t ht => by
        rw [Tryd.params6] at ht
        have hm : t ∈ [25, 25, 3] := by simpa using Array.mem_of_getElem? ht
        have hall : ([25, 25, 3].all fun u => !Tryd.prog.wantsStandIn u) = true := by kernel_rfl
        exact (show Tryd.prog.wantsStandIn t = false by simpa using List.all_eq_true.1 hall t hm)⟩)
    (by kernel_rfl)
#print axioms card
end Go.Proofs.YtlgfinnldhjgeaaDoor.addressContains
namespace Go.Proofs.YtlgfinnldhjgeaaDoor
theorem addressContains_holds : Rows.AddressContainsCardSaid := addressContains.card
end Go.Proofs.YtlgfinnldhjgeaaDoor
end
