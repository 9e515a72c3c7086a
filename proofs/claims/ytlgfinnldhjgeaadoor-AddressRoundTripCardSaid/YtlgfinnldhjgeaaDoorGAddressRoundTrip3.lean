/- The law AddressRoundTrip answers true for every input and leaves its arguments as they were. No condition. (Part 3 of 4: the kit's printed words and walks, hand-made contracts and plain laws, joined in build order, without what the theorem does not reach.) -/
import Derived.Shelf.SlSortCmp.InsertionK
import Derived.Lib.AppendIntMem
import Derived.Deep.Slices
import Derived.ChangeArms
import Derived.WideShapes
import Derived.DataElems
import Derived.IntWalk
import Derived.Test.YtlgfinnldhjgeaaDoorGAddressRoundTrip2
section
set_option linter.unusedVariables false
set_option linter.unusedSimpArgs false
namespace Go.Proofs.YtlgfinnldhjgeaaDoor.Q
open Go.RowKit Go.Proofs.YtlgfinnldhjgeaaDoorW.PrintWords Go.Proofs.YtlgfinnldhjgeaaDoorW.PrintLast Go.Proofs.YtlgfinnldhjgeaaDoorW.PrintMore
def hexD (n : Nat) : UInt8 := [48, 49, 50, 51, 52, 53, 54, 55, 56, 57, 97, 98, 99, 100, 101, 102].getD n 0
def hexL : Nat → Nat → List UInt8
  | 0, _ => []
  | k + 1, n => if n < 16 then [hexD n] else hexL k (n / 16) ++ [hexD (n % 16)]
theorem pow2_16 (w : World) : Calls Tryd.prog 100 #[.int .i64 16] w fun e w' => e = .returned (.bool true) ∧ Below w.heap.size w w' := by
  go_enter Tryd.func100, Tryd.ntmps100
  go_wp2
  go_ret
  exact ⟨rfl, by repeat (first | (with_reducible apply below_alloc) | (with_reducible apply pw_below_drewN) | (with_reducible apply below_drew1) | exact Below.refl _ _)⟩
theorem tz16 (w : World) (hW : WOK w) : Calls Tryd.prog 101 #[.int .u64 16] w fun e w' => e = .returned (.int .i64 4) ∧ Below w.heap.size w w' := by
  have h := Tryd.bits_TrailingZeros 16 (by decide) w (fun _ => hW.bit)
  rw [show Lib.ctz 64 16 = 4 from by decide] at h
  refine h.mono ?_
  rintro e w' ⟨rfl, rfl⟩
  exact ⟨rfl, Below.refl _ _⟩
theorem bits_and15 (x : Nat) (hx : x < 18446744073709551616) : Go.bits .and .u64 (x : Int) 15 = ((x % 16 : Nat) : Int) := by
  have e : ∀ y : Nat, y < 18446744073709551616 → (BitVec.ofInt 64 (y : Int)).toNat = y := fun y hy => by rw [BitVec.toNat_ofInt]; simp; omega
  unfold Go.bits
  show IntKind.u64.wrap ((((BitVec.ofInt 64 (x : Int)) &&& (BitVec.ofInt 64 ((15 : Nat) : Int))).toNat : Nat) : Int) = _
  rw [BitVec.toNat_and, e x hx, e 15 (by decide), show (15 : Nat) = 2 ^ 4 - 1 from rfl, Nat.and_two_pow_sub_one_eq_mod]
  exact IntWalk.u64_in _ ⟨by omega, by have := Nat.mod_lt x (show 0 < 2 ^ 4 by decide); omega⟩
structure HexAt (w0 : World) (g : Nat) (n0 : Nat) (wr : World) (i u : Nat) : Prop where
  arr : ∃ cs : Array Value, wr.heap[g]? = some (.cells cs 114 (0, 0)) ∧ cs.size = 65 ∧ ∃ ds : List UInt8, cs.toList.drop i = ds.map (fun d => Value.int .u8 d.toNat) ∧ ds.length = 65 - i ∧ hexL 4 n0 = hexL (i - 61) u ++ ds
  lo : 62 ≤ i
  hi : i ≤ 65
  small : u < 16 ^ (i - 61)
  bel : Below w0.heap.size w0 wr
theorem drop_set_self {l : List Value} {j : Nat} (hj : j < l.length) (v : Value) : (l.set j v).drop j = v :: l.drop (j + 1) := by
  rw [List.drop_eq_getElem_cons (by simpa using hj), List.getElem_set_self, List.drop_set_of_lt (by omega)]
theorem HexAt.put {w0 wr : World} {g n0 j n : Nat} (h : HexAt w0 g n0 wr (j + 1) n) (hn : 16 ≤ n) (hg : w0.heap.size ≤ g) (dv : UInt8) (hd : dv = hexD (n % 16)) : HexAt w0 g n0 (wr.setCell ⟨g, j, none⟩ (.int .u8 dv.toNat)) j (n / 16) := by
  obtain ⟨⟨cs, hx, hs, ds, hd1, hd2, hd3⟩, hlo, hhi, hsm, hbl⟩ := h
  have hj : 62 ≤ j := by
    rcases Nat.lt_or_ge j 62 with h | h
    · rw [show j + 1 - 61 = 1 from by omega] at hsm; omega
    · exact h
  have hk : j + 1 - 61 = (j - 61) + 1 := by omega
  rw [hk] at hsm hd3
  refine ⟨⟨_, blk_set hx j _, by simpa using hs, dv :: ds, ?_, by simp; omega, ?_⟩, hj, by omega, ?_, hbl.setCell hg _⟩
  · rw [Array.toList_setIfInBounds, drop_set_self (by simpa using by omega), hd1]
    rfl
  · rw [hd3, hexL, if_neg (by omega), hd, List.append_assoc]
    rfl
  · rw [Nat.pow_succ] at hsm
    exact Nat.div_lt_of_lt_mul (by rw [Nat.mul_comm]; exact hsm)
theorem HexAt.last {w0 wr : World} {g n0 j n : Nat} (h : HexAt w0 g n0 wr (j + 1) n) (hn : n < 16) (hg : w0.heap.size ≤ g) (dv : UInt8) (hd : dv = hexD n) :
    Below w0.heap.size w0 (wr.setCell ⟨g, j, none⟩ (.int .u8 dv.toNat)) ∧ ∃ cs : Array Value, (wr.setCell ⟨g, j, none⟩ (.int .u8 dv.toNat)).heap[g]? = some (.cells cs 114 (0, 0)) ∧ cs.size = 65 ∧ cs.toList.drop j = (hexL 4 n0).map (fun d => Value.int .u8 d.toNat) := by
  obtain ⟨⟨cs, hx, hs, ds, hd1, hd2, hd3⟩, hlo, hhi, hsm, hbl⟩ := h
  refine ⟨hbl.setCell hg _, _, blk_set hx j _, by simpa using hs, ?_⟩
  rw [Array.toList_setIfInBounds, drop_set_self (by simpa using by omega), hd1, hd3, show j + 1 - 61 = (j - 61) + 1 from by omega, hexL, if_pos hn, hd]
  rfl
theorem digit_ix : ∀ d : Nat, d < 16 → ∀ h, (⟨#[48, 49, 50, 51, 52, 53, 54, 55, 56, 57, 97, 98, 99, 100, 101, 102, 103, 104, 105, 106, 107, 108, 109, 110, 111, 112, 113, 114, 115, 116, 117, 118, 119, 120, 121, 122]⟩ : ByteArray)[d]'h = hexD d := by decide
theorem digit_at (n : Nat) (h : (Go.bits .and .u64 (n : Int) 15).toNat < (⟨#[48, 49, 50, 51, 52, 53, 54, 55, 56, 57, 97, 98, 99, 100, 101, 102, 103, 104, 105, 106, 107, 108, 109, 110, 111, 112, 113, 114, 115, 116, 117, 118, 119, 120, 121, 122]⟩ : ByteArray).size) (hb : Go.bits .and .u64 (n : Int) 15 = ((n % 16 : Nat) : Int)) :
    (⟨#[48, 49, 50, 51, 52, 53, 54, 55, 56, 57, 97, 98, 99, 100, 101, 102, 103, 104, 105, 106, 107, 108, 109, 110, 111, 112, 113, 114, 115, 116, 117, 118, 119, 120, 121, 122]⟩ : ByteArray)[(Go.bits .and .u64 (n : Int) 15).toNat]'h = hexD (n % 16) := by
  have e : (Go.bits .and .u64 (n : Int) 15).toNat = n % 16 := by rw [hb]; exact Int.toNat_natCast _
  have hlt : n % 16 < 16 := Nat.mod_lt _ (by decide)
  have key : ∀ m (hm : m < (⟨#[48, 49, 50, 51, 52, 53, 54, 55, 56, 57, 97, 98, 99, 100, 101, 102, 103, 104, 105, 106, 107, 108, 109, 110, 111, 112, 113, 114, 115, 116, 117, 118, 119, 120, 121, 122]⟩ : ByteArray).size), m = n % 16 → (⟨#[48, 49, 50, 51, 52, 53, 54, 55, 56, 57, 97, 98, 99, 100, 101, 102, 103, 104, 105, 106, 107, 108, 109, 110, 111, 112, 113, 114, 115, 116, 117, 118, 119, 120, 121, 122]⟩ : ByteArray)[m]'hm = hexD (n % 16) := fun m hm e2 => by subst e2; exact digit_ix _ hlt _
  exact key _ h e
theorem hex_slice (ga j : Nat) (hj : j < 65) (h0 : 0 < j) : ∀ W, (Instr.sliceAt 114 (.pointer (some ⟨ga, 0, none⟩)) (some (.int .i64 (j : Int))) none none).run Tryd.prog W = .ok (.slice (some ⟨ga, j, none⟩) (65 - j) (65 - j)) W := fun W => by
  have hal : Tryd.prog.arrayLen 114 = 65 := by kernel_rfl
  rw [run_sliceAt_array_l W 114 ⟨ga, 0, none⟩ (by kernel_rfl) .i64 (j : Int) (by omega) (by rw [hal]; omega), hal]
  go_simp
  omega
theorem hex_string {W : World} {ga j : Nat} {cs : Array Value} {l : List UInt8} (hx : W.heap[ga]? = some (.cells cs 114 (0, 0))) (hs : cs.size = 65) (hd : cs.toList.drop j = l.map (fun d => Value.int .u8 d.toNat)) (hj : j < 65) :
    (convert 75 9 (.slice (some ⟨ga, j, none⟩) (65 - j) (65 - j))).run Tryd.prog W = .ok (.string ⟨l.toArray⟩) W := by
  have hlen : l.length = 65 - j := by
    have := congrArg List.length hd
    simp only [List.length_drop, List.length_map, Array.length_toList] at this
    omega
  have hr : ReadsInt W .u8 (some ⟨ga, j, none⟩) (65 - j) (l.map (fun d => (d.toNat : Int))) := by
    refine ⟨by simp [hlen], by omega, fun _ => ⟨_, rfl, fun i hi => ?_⟩⟩
    have e : (⟨ga, j, none⟩ : Addr).add i = ⟨ga, j + i, none⟩ := by
      unfold Addr.add
      by_cases h0 : i = 0
      · rw [if_pos h0, h0]; rfl
      · rw [if_neg h0]
    rw [e]
    unfold World.cell?
    simp only [hx]
    have h2 := congrArg (fun q => q[i]?) hd
    simp only [List.getElem?_drop, List.getElem?_map] at h2
    rw [List.getElem?_eq_getElem (show i < l.length from by omega)] at h2
    simp only [Option.isSome_none, Bool.false_eq_true, if_false]
    rw [← Array.getElem?_toList, h2]
    simp [List.getElem?_eq_getElem (show i < l.length from by omega)]
  have := string_of_reads (P := Tryd.prog) (src := 75) (dst := 9) (e := 5) (c := 65 - j) (by kernel_rfl) (by kernel_rfl) (by kernel_rfl) hr
  have e : strOfNums (l.map (fun d => (d.toNat : Int))) = ⟨l.toArray⟩ := by
    have h2 : ∀ l : List UInt8, (l.map (fun d => (d.toNat : Int))).map (fun n => UInt8.ofNat n.toNat) = l := fun l => by
      induction l with
      | nil => rfl
      | cons a t ih => simp only [List.map_cons, ih, Int.toNat_natCast, UInt8.ofNat_toNat]
    unfold strOfNums
    rw [h2]
  rw [this, e]
set_option maxHeartbeats 4000000 in
set_option maxRecDepth 100000 in
theorem formatBits16 (u : Nat) (hu : u < 65536) (w : World) (hW : WOK w) : Calls Tryd.prog 87 #[.slice none 0 0, .int .u64 (u : Int), .int .i64 16, .bool false, .bool false] w fun e w' => e = .returned (.tuple #[.slice none 0 0, .string ⟨(hexL 4 u).toArray⟩]) ∧ Below w.heap.size w w' := by
  have HW := Aside0.mk hW
  clear hW
  go_enter Tryd.func87, Tryd.ntmps87
  go_wp2_with fail
  refine (pow2_16 _).mono ?_
  rintro e w2 ⟨rfl, hb⟩
  have hX := blk_below (heap_alloc_new w (.cells Tryd.zeroCells114 114)) hb
  have hB := (below_alloc (Below.refl w.heap.size w) (.cells Tryd.zeroCells114 114)).trans (hb.mono (by simp))
  have HX := Aside0.mk hX
  have HB := Aside0.mk hB
  have hG : w.heap.size ≤ w.heap.size := Nat.le_refl _
  revert HX hG
  clear hb hX hB
  generalize hga : w.heap.size = ga
  intro HX hG
  have HG : Aside0 (w.heap.size ≤ ga) := ⟨by omega⟩
  clear hG
  go_wp2_with fail
  refine (tz16 _ (HW.out.below (hga ▸ HB.out))).mono ?_
  rintro e w3 ⟨rfl, hb⟩
  have HX3 := Aside0.mk (blk_below HX.out hb)
  have HB3 := Aside0.mk (HB.out.trans (hb.mono (HB.out.size)))
  clear hb HX HB
  clear hga
  have H0 : Aside0 (HexAt w ga u w3 65 u) := ⟨⟨⟨_, HX3.out, by rfl, [], by rfl, rfl, by simp⟩, by omega, by omega, by simpa using hu, HB3.out⟩⟩
  clear HX3 HB3
  go_wp2_with fail
  go_loopg [1, 13] 65 (fun gg v1 v13 wr => ∃ (i n : Nat), i ≤ gg ∧ v1 = .int .u64 (n : Int) ∧ v13 = .int .i64 (i : Int) ∧ Aside0 (HexAt w ga u wr i n))
  case atStart => exact ⟨65, u, by omega, rfl, rfl, H0⟩
  case round =>
    obtain ⟨i, n, hig, rfl, rfl, HA⟩ := hrel
    clear H0
    by_cases hn : 16 ≤ n
    · have hn1 : ((n : Int) ≥ 16) = True := eq_true (by omega)
      have hn2 : decide ((n : Int) ≥ 16) = true := decide_eq_true (by omega)
      have hA := HA.out
      obtain ⟨⟨cs, hx, hs, ds, hd1, hd2, hd3⟩, hlo, hhi, hsm, hbl⟩ := hA
      have hi2 : 63 ≤ i := by
        rcases Nat.lt_or_ge i 63 with h | h
        · rw [show i - 61 = 1 from by omega] at hsm; omega
        · exact h
      obtain ⟨j, rfl⟩ : ∃ j, i = j + 1 := ⟨i - 1, by omega⟩
      have hw1 : wrap64 (j : Int) = (j : Int) := by unfold wrap64; omega
      have hw0 : ((j + 1 : Nat) : Int) - 1 = (j : Int) := by omega
      have hq0 : Go.bits .and .u64 (n : Int) 15 = ((n % 16 : Nat) : Int) := bits_and15 n (by
        have : 16 ^ (j + 1 - 61) ≤ 16 ^ 4 := Nat.pow_le_pow_right (by decide) (by omega)
        omega)
      have hq1 : (0 ≤ Go.bits .and .u64 (n : Int) 15 ∧ Go.bits .and .u64 (n : Int) 15 < 36) = True := eq_true (by rw [hq0]; omega)
      have hj1 : ((j : Int) < 65) = True := eq_true (by omega)
      have hc1 : ∃ old, wr.cell? ⟨ga, j, none⟩ = some old := by
        unfold World.cell?
        simp only [hx]
        exact ⟨_, Array.getElem?_eq_getElem (show j < cs.size from by omega)⟩
      obtain ⟨old, hc⟩ := hc1
      have hf : wr.frozen? ⟨ga, j, none⟩ = false := by
        unfold World.frozen?
        simp only [hx]
        simp
      clear hx hs hd1 hd2 hd3 hsm hbl
      have HQ0 := Aside0.mk hq0
      clear hq0
      go_wp2_with fail
      go_roundg j
      case measure => omega
      case rel => exact ⟨j, n / 16, Nat.le_refl _, by simp, rfl, ⟨HA.out.put hn HG.out _ (digit_at n _ HQ0.out)⟩⟩
    · have hA := HA.out
      obtain ⟨⟨cs, hx, hs, ds, hd1, hd2, hd3⟩, hlo, hhi, hsm, hbl⟩ := hA
      obtain ⟨j, rfl⟩ : ∃ j, i = j + 1 := ⟨i - 1, by omega⟩
      have hn1 : ((n : Int) ≥ 16) = False := eq_false (by omega)
      have hn2 : decide ((n : Int) ≥ 16) = false := decide_eq_false (by omega)
      have hw1 : wrap64 (j : Int) = (j : Int) := by unfold wrap64; omega
      have hw0 : ((j + 1 : Nat) : Int) - 1 = (j : Int) := by omega
      have hn36 : ((n : Int) < 36) = True := eq_true (by omega)
      have hj1 : ((j : Int) < 65) = True := eq_true (by omega)
      have hc1 : ∃ old, wr.cell? ⟨ga, j, none⟩ = some old := by
        unfold World.cell?
        simp only [hx]
        exact ⟨_, Array.getElem?_eq_getElem (show j < cs.size from by omega)⟩
      obtain ⟨old, hc⟩ := hc1
      have hf : wr.frozen? ⟨ga, j, none⟩ = false := by
        unfold World.frozen?
        simp only [hx]
        simp
      have HJ : Aside0 (62 ≤ j + 1 ∧ j + 1 ≤ 65) := ⟨hlo, hhi⟩
      clear hx hs hd1 hd2 hd3 hsm hbl
      go_upto_region 30 with (fail)
      have hD : ∀ h, (⟨#[48, 49, 50, 51, 52, 53, 54, 55, 56, 57, 97, 98, 99, 100, 101, 102, 103, 104, 105, 106, 107, 108, 109, 110, 111, 112, 113, 114, 115, 116, 117, 118, 119, 120, 121, 122]⟩ : ByteArray)[n]'h = hexD n := fun h => digit_ix n (by omega) h
      have hl := HA.out.last (by omega) HG.out (hexD n) rfl
      simp only [hD]
      obtain ⟨hb, cs, hx, hs, hd⟩ := hl
      have hj2 := HJ.out
      have hsl := hex_slice ga j (by omega) (by omega)
      have hst := hex_string hx hs hd (by omega)
      have HB := Aside0.mk hb
      clear hx hs hd hb hc hf HA hD
      generalize wr.setCell ⟨ga, j, none⟩ (.int .u8 (hexD n).toNat) = W at hst HB ⊢
      go_wp2_with fail
      exact bodyPost_ret (v := .tuple #[.slice none 0 0, .string ⟨(hexL 4 u).toArray⟩]) (by simp [results, Tryd.results87, go_sem]) rfl ⟨rfl, HB.out⟩
set_option maxHeartbeats 1000000 in
theorem formatUint16 (u : Nat) (hu : u < 65536) (w : World) (hW : WOK w) : Calls Tryd.prog 76 #[.int .u64 (u : Int), .int .i64 16] w fun e w' => e = .returned (.string ⟨(hexL 4 u).toArray⟩) ∧ Below w.heap.size w w' := by
  go_enter Tryd.func76, Tryd.ntmps76
  go_wp2_with fail
  refine (formatBits16 u hu _ (hW.below (by repeat (first | (with_reducible apply below_alloc) | (with_reducible apply pw_below_drewN) | (with_reducible apply below_drew1) | exact Below.refl _ _)))).mono ?_
  rintro e w2 ⟨rfl, hb⟩
  have HB := Aside0.mk hb
  clear hb
  go_wp2_with fail
  go_ret
  exact ⟨rfl, by first | exact HB.out | exact (below_alloc (Below.refl _ _) _).trans (HB.out.mono (by simp))⟩
set_option maxHeartbeats 1000000 in
theorem formatUint16p (u : Nat) (hu : u < 65536) (w : World) (hW : WOK w) : Calls Tryd.prog 58 #[.int .u64 (u : Int), .int .i64 16] w fun e w' => e = .returned (.string ⟨(hexL 4 u).toArray⟩) ∧ Below w.heap.size w w' := by
  go_enter Tryd.func58, Tryd.ntmps58
  go_wp2_with fail
  refine (formatUint16 u hu _ (hW.below (by repeat (first | (with_reducible apply below_alloc) | (with_reducible apply pw_below_drewN) | (with_reducible apply below_drew1) | exact Below.refl _ _)))).mono ?_
  rintro e w2 ⟨rfl, hb⟩
  have HB := Aside0.mk hb
  clear hb
  go_wp2_with fail
  go_ret
  exact ⟨rfl, by first | exact HB.out | exact (below_alloc (Below.refl _ _) _).trans (HB.out.mono (by simp))⟩
def strconv_FormatUint.f (i : Int) (base : Int) : Option ByteArray := if base = 16 then if 0 ≤ i ∧ i < 65536 then some ⟨(hexL 4 i.toNat).toArray⟩ else none else none
theorem strconv_FormatUint.calls (i base : Int) (r : ByteArray) (w : World) (h : strconv_FormatUint.f i base = some r) (hW : WOK w) :
    Calls Tryd.prog 58 #[.int .u64 i, .int .i64 base] w fun e w' => e = .returned (.string r) ∧ Below w.heap.size w w' := by
  unfold strconv_FormatUint.f at h
  split at h
  case isFalse => cases h
  rename_i hb
  subst hb
  split at h
  case isFalse => cases h
  rename_i hi
  injection h with h
  subst h
  have := formatUint16p i.toNat (by omega) w hW
  rw [show ((i.toNat : Nat) : Int) = i from by omega] at this
  exact this
end Go.Proofs.YtlgfinnldhjgeaaDoor.Q
end

section
set_option linter.unusedVariables false
set_option linter.unusedSimpArgs false
namespace Go.Proofs.YtlgfinnldhjgeaaDoor.Q
open Go.RowKit Go.Proofs.YtlgfinnldhjgeaaDoorW.PrintWords Go.Proofs.YtlgfinnldhjgeaaDoorW.PrintLast Go.Proofs.YtlgfinnldhjgeaaDoorW.PrintMore
theorem blk_apart {α : Type} {d : Kd α} {W w1 : World} {g base : Nat} {cs : Array Value} {t e : TypeId} {ok : Nat → Prop} {v : Value} {xs : List α} (hX : W.heap[g]? = some (.cells cs t (0, 0))) (ht : t ≠ e) (hR : d.R e W base ok v xs) (hg : W.grownBy w1 v.ownBlock) : w1.heap[g]? = some (.cells cs t (0, 0)) :=
  blk_grown hX hg (fun h => by
    obtain ⟨c, hc⟩ := Kd.R_typed hR g h.symm
    rw [hX] at hc
    injection hc with hc
    injection hc with _ hc
    exact ht hc)
def decB (n : Int) : ByteArray := ⟨(Lib.itoa n).toArray⟩
theorem itoa_b {x : Int} (h : 0 ≤ Go.bits .and .u64 x 255 ∧ Go.bits .and .u64 x 255 < 256) : strconv_Itoa.f (wrap64 (Go.bits .and .u64 x 255)) = some (decB (Go.bits .and .u64 x 255)) := by
  have e : wrap64 (Go.bits .and .u64 x 255) = Go.bits .and .u64 x 255 := by unfold wrap64; omega
  unfold strconv_Itoa.f decB
  rw [e, if_pos (by omega)]
theorem and255 (x : Int) : 0 ≤ Go.bits .and .u64 x 255 ∧ Go.bits .and .u64 x 255 < 256 := by
  unfold Go.bits
  have h1 : ((BitVec.ofInt 64 x) &&& (BitVec.ofInt 64 255)).toNat < 256 := by
    rw [BitVec.toNat_and, show (BitVec.ofInt 64 255).toNat = 2 ^ 8 - 1 from by decide, Nat.and_two_pow_sub_one_eq_mod]
    exact Nat.mod_lt _ (by decide)
  show 0 ≤ IntKind.u64.wrap _ ∧ IntKind.u64.wrap _ < 256
  rw [IntWalk.u64_in _ ⟨by show (0 : Int) ≤ (((BitVec.ofInt 64 x) &&& (BitVec.ofInt 64 255)).toNat : Int); omega, by show (((BitVec.ofInt 64 x) &&& (BitVec.ofInt 64 255)).toNat : Int) ≤ _; omega⟩]
  exact ⟨by show (0 : Int) ≤ (((BitVec.ofInt 64 x) &&& (BitVec.ofInt 64 255)).toNat : Int); omega, by show (((BitVec.ofInt 64 x) &&& (BitVec.ofInt 64 255)).toNat : Int) < 256; omega⟩
set_option maxHeartbeats 4000000 in
set_option maxRecDepth 100000 in
theorem format4 (hi lo : Int) (r : ByteArray) (w : World) (hr : strings_Join.f [decB (Go.bits .and .u64 (lo / 16777216) 255), decB (Go.bits .and .u64 (lo / 65536) 255), decB (Go.bits .and .u64 (lo / 256) 255), decB (Go.bits .and .u64 (lo) 255)] (⟨#[46]⟩ : ByteArray) = some r) (hW : WOK w) : Calls Tryd.prog 33 #[.agg #[.bool false, .int .u64 hi, .int .u64 lo]] w fun e w' => e = .returned (.string r) ∧ Below w.heap.size w w' := by
  have HW := Aside0.mk hW
  have HJ := Aside0.mk hr
  clear hW hr
  have HX : Aside0 ((w.alloc (.cells #[.bool false, .int .u64 hi, .int .u64 lo] 25)).heap[w.heap.size]? = some (.cells #[.bool false, .int .u64 hi, .int .u64 lo] 25 (0, 0))) := ⟨heap_alloc_new _ _⟩
  have HB : Aside0 (Below w.heap.size w (w.alloc (.cells #[.bool false, .int .u64 hi, .int .u64 lo] 25))) := ⟨below_alloc (Below.refl _ _) _⟩
  have HO : Aside0 (Kd.R Kd.string 9 (w.alloc (.cells #[.bool false, .int .u64 hi, .int .u64 lo] 25)) w.heap.size (fun _ => True) (.slice none 0 0) ([] : List ByteArray)) := ⟨Kd.R_nil _ _ _ _ _⟩
  go_enter Tryd.func33, Tryd.ntmps33
  go_upto_region 3 with (fail)
  obtain ⟨g, hg⟩ : ∃ g, w.heap.size = g := ⟨_, rfl⟩
  rw [hg] at HX
  simp only [hg]
  clear hg
  generalize w.alloc (.cells #[.bool false, .int .u64 hi, .int .u64 lo] 25) = W at HX HB HO ⊢
  go_upto_region 4 with (fail)
  refine wp_loop_rounds 5 ?_
  have hc : W.cell? ⟨g, 2, none⟩ = some (.int .u64 lo) := (blk_cell HX.out 2).trans rfl
  rw [rounds_succ]
  go_wp2_with fail
  clear hc
  refine (strconv_Itoa.calls _ _ _ (itoa_b (and255 _)) (HW.out.below HB.out)).mono ?_
  rintro e w2 ⟨rfl, hb⟩
  replace HX := Aside0.mk (blk_below HX.out hb)
  replace HO := Aside0.mk (Kd.R_below HO.out hb)
  replace HB := Aside0.mk (below_step HB.out hb)
  clear hb
  go_wp2_with (first | ((with_reducible refine gate_builtin (b := .append) (xs := #[.tmp 17, .tmp 27]) rfl ?_); at_builtin; refine Kd.R_append Kd.string (w0 := w) w.heap.size rfl (.tmp 17) (.tmp 27) 56 9 (.string ⟨#[]⟩) 16 rfl Tryd.underlying56 info9 rfl (by decide) (by omega) _ ([] : List ByteArray) (decB (Go.bits .and .u64 (lo / 16777216) 255)) [.string (decB (Go.bits .and .u64 (lo / 16777216) 255))] (fun _ => True) (fun _ => False) rfl rfl ?aP (fun _ hk => hk.elim) ?aF ?aO ?aB ?aS ?aL ?_; (case aP => exact rfl); (case aB => exact HB.out); (case aF => exact (fun _ _ => trivial)); (case aO => exact HO.out); (case aS => exact (below_size HB.out)); (case aL => simp); intro v0 W0 ho hb hg hat; replace HX := Aside0.mk (blk_apart HX.out (by decide) HO.out hg); replace HB := Aside0.mk hb; replace HO := Aside0.mk ho; clear ho hb hg hat))
  have hc : W0.cell? ⟨g, 2, none⟩ = some (.int .u64 lo) := (blk_cell HX.out 2).trans rfl
  rw [rounds_succ]
  go_wp2_with fail
  clear hc
  refine (strconv_Itoa.calls _ _ _ (itoa_b (and255 _)) (HW.out.below HB.out)).mono ?_
  rintro e w2 ⟨rfl, hb⟩
  replace HX := Aside0.mk (blk_below HX.out hb)
  replace HO := Aside0.mk (Kd.R_below HO.out hb)
  replace HB := Aside0.mk (below_step HB.out hb)
  clear hb
  go_wp2_with (first | ((with_reducible refine gate_builtin (b := .append) (xs := #[.tmp 17, .tmp 27]) rfl ?_); at_builtin; refine Kd.R_append Kd.string (w0 := w) w.heap.size rfl (.tmp 17) (.tmp 27) 56 9 (.string ⟨#[]⟩) 16 rfl Tryd.underlying56 info9 rfl (by decide) (by omega) _ [decB (Go.bits .and .u64 (lo / 16777216) 255)] (decB (Go.bits .and .u64 (lo / 65536) 255)) [.string (decB (Go.bits .and .u64 (lo / 65536) 255))] (fun _ => True) (fun _ => False) rfl rfl ?aP (fun _ hk => hk.elim) ?aF ?aO ?aB ?aS ?aL ?_; (case aP => exact rfl); (case aB => exact HB.out); (case aF => exact (fun _ _ => trivial)); (case aO => exact HO.out); (case aS => exact (below_size HB.out)); (case aL => simp); intro v1 W1 ho hb hg hat; replace HX := Aside0.mk (blk_apart HX.out (by decide) HO.out hg); replace HB := Aside0.mk hb; replace HO := Aside0.mk ho; clear ho hb hg hat))
  have hc : W1.cell? ⟨g, 2, none⟩ = some (.int .u64 lo) := (blk_cell HX.out 2).trans rfl
  rw [rounds_succ]
  go_wp2_with fail
  clear hc
  refine (strconv_Itoa.calls _ _ _ (itoa_b (and255 _)) (HW.out.below HB.out)).mono ?_
  rintro e w2 ⟨rfl, hb⟩
  replace HX := Aside0.mk (blk_below HX.out hb)
  replace HO := Aside0.mk (Kd.R_below HO.out hb)
  replace HB := Aside0.mk (below_step HB.out hb)
  clear hb
  go_wp2_with (first | ((with_reducible refine gate_builtin (b := .append) (xs := #[.tmp 17, .tmp 27]) rfl ?_); at_builtin; refine Kd.R_append Kd.string (w0 := w) w.heap.size rfl (.tmp 17) (.tmp 27) 56 9 (.string ⟨#[]⟩) 16 rfl Tryd.underlying56 info9 rfl (by decide) (by omega) _ [decB (Go.bits .and .u64 (lo / 16777216) 255), decB (Go.bits .and .u64 (lo / 65536) 255)] (decB (Go.bits .and .u64 (lo / 256) 255)) [.string (decB (Go.bits .and .u64 (lo / 256) 255))] (fun _ => True) (fun _ => False) rfl rfl ?aP (fun _ hk => hk.elim) ?aF ?aO ?aB ?aS ?aL ?_; (case aP => exact rfl); (case aB => exact HB.out); (case aF => exact (fun _ _ => trivial)); (case aO => exact HO.out); (case aS => exact (below_size HB.out)); (case aL => simp); intro v2 W2 ho hb hg hat; replace HX := Aside0.mk (blk_apart HX.out (by decide) HO.out hg); replace HB := Aside0.mk hb; replace HO := Aside0.mk ho; clear ho hb hg hat))
  have hc : W2.cell? ⟨g, 2, none⟩ = some (.int .u64 lo) := (blk_cell HX.out 2).trans rfl
  rw [rounds_succ]
  go_wp2_with fail
  clear hc
  refine (strconv_Itoa.calls _ _ _ (itoa_b (and255 _)) (HW.out.below HB.out)).mono ?_
  rintro e w2 ⟨rfl, hb⟩
  replace HX := Aside0.mk (blk_below HX.out hb)
  replace HO := Aside0.mk (Kd.R_below HO.out hb)
  replace HB := Aside0.mk (below_step HB.out hb)
  clear hb
  go_wp2_with (first | ((with_reducible refine gate_builtin (b := .append) (xs := #[.tmp 17, .tmp 27]) rfl ?_); at_builtin; refine Kd.R_append Kd.string (w0 := w) w.heap.size rfl (.tmp 17) (.tmp 27) 56 9 (.string ⟨#[]⟩) 16 rfl Tryd.underlying56 info9 rfl (by decide) (by omega) _ [decB (Go.bits .and .u64 (lo / 16777216) 255), decB (Go.bits .and .u64 (lo / 65536) 255), decB (Go.bits .and .u64 (lo / 256) 255)] (decB (Go.bits .and .u64 (lo) 255)) [.string (decB (Go.bits .and .u64 (lo) 255))] (fun _ => True) (fun _ => False) rfl rfl ?aP (fun _ hk => hk.elim) ?aF ?aO ?aB ?aS ?aL ?_; (case aP => exact rfl); (case aB => exact HB.out); (case aF => exact (fun _ _ => trivial)); (case aO => exact HO.out); (case aS => exact (below_size HB.out)); (case aL => simp); intro v3 W3 ho hb hg hat; replace HX := Aside0.mk (blk_apart HX.out (by decide) HO.out hg); replace HB := Aside0.mk hb; replace HO := Aside0.mk ho; clear ho hb hg hat))
  rw [rounds_succ]
  obtain ⟨A, c, e⟩ := Kd.R_slice HO.out
  subst e
  go_wp2_with fail
  refine (strings_Join.calls A c _ _ r _ (Kd.R_reads' HO.out).2.2 (Kd.R_reads' HO.out).2.1 HJ.out).mono ?_
  rintro e w2 ⟨rfl, hb⟩
  replace HB := Aside0.mk (below_step HB.out hb)
  clear hb
  go_wp2_with fail
  exact bodyPost_ret (v := .string r) (by simp [results, Tryd.results33, go_sem]) rfl ⟨rfl, HB.out⟩
theorem and65535 (x : Int) : 0 ≤ Go.bits .and .u64 x 65535 ∧ Go.bits .and .u64 x 65535 < 65536 := by
  unfold Go.bits
  have h1 : ((BitVec.ofInt 64 x) &&& (BitVec.ofInt 64 65535)).toNat < 65536 := by
    rw [BitVec.toNat_and, show (BitVec.ofInt 64 65535).toNat = 2 ^ 16 - 1 from by decide, Nat.and_two_pow_sub_one_eq_mod]
    exact Nat.mod_lt _ (by decide)
  show 0 ≤ IntKind.u64.wrap _ ∧ IntKind.u64.wrap _ < 65536
  rw [IntWalk.u64_in _ ⟨by show (0 : Int) ≤ (((BitVec.ofInt 64 x) &&& (BitVec.ofInt 64 65535)).toNat : Int); omega, by show (((BitVec.ofInt 64 x) &&& (BitVec.ofInt 64 65535)).toNat : Int) ≤ _; omega⟩]
  exact ⟨by show (0 : Int) ≤ (((BitVec.ofInt 64 x) &&& (BitVec.ofInt 64 65535)).toNat : Int); omega, by show (((BitVec.ofInt 64 x) &&& (BitVec.ofInt 64 65535)).toNat : Int) < 65536; omega⟩
def grpL (hi lo : Int) : List Int := [Go.bits .and .u64 (hi / 281474976710656) 65535, Go.bits .and .u64 (hi / 4294967296) 65535, Go.bits .and .u64 (hi / 65536) 65535, Go.bits .and .u64 (hi) 65535, Go.bits .and .u64 (lo / 281474976710656) 65535, Go.bits .and .u64 (lo / 4294967296) 65535, Go.bits .and .u64 (lo / 65536) 65535, Go.bits .and .u64 (lo) 65535]
def fmtT (l : List Int) (p q : Nat) : Nat → Nat → ByteArray → ByteArray
  | 0, _, o => o
  | d + 1, i, o => if i < 8 then (if i = p ∧ 1 < q - p then fmtT l p q d q (o ++ ⟨#[58, 58]⟩) else fmtT l p q d (i + 1) ((if o.toList ≠ [] ∧ Lib.hasSuffix o.data.toList [58] = false then o ++ ⟨#[58]⟩ else o) ++ ⟨(hexL 4 (l.getD i 0).toNat).toArray⟩)) else o
theorem runF_le (l : List Int) : ∀ (d i a b : Nat), a ≤ b → b ≤ 8 → i + d ≤ 8 → (runF l d i (a, b)).1 ≤ (runF l d i (a, b)).2 ∧ (runF l d i (a, b)).2 ≤ 8
  | 0, i, a, b, h1, h2, _ => ⟨h1, h2⟩
  | d + 1, i, a, b, h1, h2, h3 => by
    unfold runF
    split
    · have := zEnd_le l (8 - i) i
      exact runF_le l d (i + 1) _ _ this.1 (by omega) (by omega)
    · exact runF_le l d (i + 1) _ _ h1 h2 (by omega)
theorem runF_ok (l : List Int) : (runF l 8 0 (0, 0)).1 ≤ (runF l 8 0 (0, 0)).2 ∧ (runF l 8 0 (0, 0)).2 ≤ 8 := runF_le l 8 0 0 0 (by omega) (by omega) (by omega)
structure TxtI (l : List Int) (p q gg i : Nat) (o r : ByteArray) : Prop where
  m : 8 - i ≤ gg
  i8 : i ≤ 8
  res : fmtT l p q gg i o = r
  sz : o.size + 8 * gg ≤ 64
theorem TxtI.pos {l : List Int} {p q gg i : Nat} {o r : ByteArray} (h : TxtI l p q gg i o r) (hi : i < 8) : ∃ m, gg = m + 1 := ⟨gg - 1, by have := h.m; omega⟩
theorem TxtI.fin {l : List Int} {p q gg i : Nat} {o r : ByteArray} (h : TxtI l p q gg i o r) (hi : ¬ i < 8) : o = r := by
  have := h.res
  cases gg with
  | zero => exact this
  | succ d => rw [fmtT, if_neg hi] at this; exact this
theorem TxtI.gap {l : List Int} {p q d i : Nat} {o r : ByteArray} (h : TxtI l p q (d + 1) i o r) (hi : i < 8) (hp : i = p) (hq : 1 < q - p) (hq8 : q ≤ 8) : TxtI l p q d q (o ++ ⟨#[58, 58]⟩) r := by
  obtain ⟨h1, h2, h3, h4⟩ := h
  refine ⟨by omega, hq8, ?_, ?_⟩
  · rw [fmtT, if_pos hi, if_pos ⟨hp, hq⟩] at h3; exact h3
  · rw [ByteArray.size_append, show (⟨#[58, 58]⟩ : ByteArray).size = 2 from rfl]; omega
theorem hexL_len : ∀ (k n : Nat), (hexL k n).length ≤ k
  | 0, _ => Nat.le_refl _
  | k + 1, n => by
    unfold hexL
    split
    · simp
    · have := hexL_len k (n / 16); simp; omega
theorem hexL_size (k n : Nat) : (⟨(hexL k n).toArray⟩ : ByteArray).size ≤ k := by
  show (hexL k n).toArray.size ≤ k
  rw [List.size_toArray]
  exact hexL_len k n
theorem TxtI.hexA {l : List Int} {p q d i : Nat} {o r : ByteArray} {x : Int} (hx : l.getD i 0 = x) (h : TxtI l p q (d + 1) i o r) (hi : i < 8) (hp : ¬ (i = p ∧ 1 < q - p)) (hs : ¬ (o.toList ≠ [] ∧ Lib.hasSuffix o.data.toList [58] = false)) : TxtI l p q d (i + 1) (o ++ ⟨(hexL 4 x.toNat).toArray⟩) r := by
  subst hx
  obtain ⟨h1, h2, h3, h4⟩ := h
  refine ⟨by omega, by omega, ?_, ?_⟩
  · rw [fmtT, if_pos hi, if_neg hp, if_neg hs] at h3; exact h3
  · have := hexL_size 4 (l.getD i 0).toNat
    rw [ByteArray.size_append]; omega
theorem TxtI.hexB {l : List Int} {p q d i : Nat} {o r : ByteArray} {x : Int} (hx : l.getD i 0 = x) (h : TxtI l p q (d + 1) i o r) (hi : i < 8) (hp : ¬ (i = p ∧ 1 < q - p)) (hs : o.toList ≠ [] ∧ Lib.hasSuffix o.data.toList [58] = false) : TxtI l p q d (i + 1) (o ++ ⟨#[58]⟩ ++ ⟨(hexL 4 x.toNat).toArray⟩) r := by
  subst hx
  obtain ⟨h1, h2, h3, h4⟩ := h
  refine ⟨by omega, by omega, ?_, ?_⟩
  · rw [fmtT, if_pos hi, if_neg hp, if_pos hs] at h3; exact h3
  · have := hexL_size 4 (l.getD i 0).toNat
    rw [ByteArray.size_append, ByteArray.size_append, show (⟨#[58]⟩ : ByteArray).size = 1 from rfl]; omega
theorem hex_u {x : Int} (h : 0 ≤ x ∧ x < 65536) : strconv_FormatUint.f x 16 = some ⟨(hexL 4 x.toNat).toArray⟩ := by unfold strconv_FormatUint.f; rw [if_pos rfl, if_pos h]
theorem suf_u {o : ByteArray} (h : o.size ≤ 64) : strings_HasSuffix.f o ⟨#[58]⟩ = some (Lib.hasSuffix o.data.toList [58]) := by unfold strings_HasSuffix.f; rw [if_pos (by omega)]
theorem i_eq {i p : Nat} (h : i = p) : ((i : Int) == (p : Int)) = true := by simp [h]
theorem i_ne {i p : Nat} (h : ¬ i = p) : ((i : Int) == (p : Int)) = false := beq_eq_false_iff_ne.mpr (fun e => h (by omega))
theorem i_eqd {i p : Nat} (h : i = p) : decide ((i : Int) = (p : Int)) = true := by simp [h]
theorem i_ned {i p : Nat} (h : ¬ i = p) : decide ((i : Int) = (p : Int)) = false := decide_eq_false (fun e => h (by omega))
theorem q_gt {p q : Nat} (h : 1 < q - p) (h8 : q ≤ 8) : decide (wrap64 ((q : Int) - (p : Int)) > 1) = true := decide_eq_true (by unfold wrap64; omega)
theorem q_ngt {p q : Nat} (h : ¬ 1 < q - p) (h8 : p ≤ q ∧ q ≤ 8) : decide (wrap64 ((q : Int) - (p : Int)) > 1) = false := decide_eq_false (by unfold wrap64; omega)
theorem sz_2 {l : List Int} {p q d i : Nat} {o r : ByteArray} (h : TxtI l p q d i o r) : (9223372036854775807 < o.size + 2) = False := eq_false (by have := h.sz; omega)
theorem sz_1 {l : List Int} {p q d i : Nat} {o r : ByteArray} (h : TxtI l p q d i o r) : (9223372036854775807 < o.size + 1) = False := eq_false (by have := h.sz; omega)
theorem sz_h {l : List Int} {p q d i : Nat} {o t r : ByteArray} (h : TxtI l p q d i (o ++ t) r) : (9223372036854775807 < o.size + t.size) = False := eq_false (by have := h.sz; rw [ByteArray.size_append] at this; omega)
theorem q_next {p q : Nat} (h : 1 < q - p) (h8 : q ≤ 8) : wrap64 (wrap64 ((q : Int) - 1) + 1) = (q : Int) := by unfold wrap64; omega
theorem run_g (hi lo : Int) (w : World) : Calls Tryd.prog 56 #[.agg #[.int .u64 (Go.bits .and .u64 (hi / 281474976710656) 65535), .int .u64 (Go.bits .and .u64 (hi / 4294967296) 65535), .int .u64 (Go.bits .and .u64 (hi / 65536) 65535), .int .u64 (Go.bits .and .u64 (hi) 65535), .int .u64 (Go.bits .and .u64 (lo / 281474976710656) 65535), .int .u64 (Go.bits .and .u64 (lo / 4294967296) 65535), .int .u64 (Go.bits .and .u64 (lo / 65536) 65535), .int .u64 (Go.bits .and .u64 (lo) 65535)]] w fun e w' => e = .returned (.tuple #[.int .i64 ((runF (grpL hi lo) 8 0 (0, 0)).1 : Nat), .int .i64 ((runF (grpL hi lo) 8 0 (0, 0)).2 : Nat)]) ∧ Below w.heap.size w w' := address_run.calls _ _ _ _ _ _ _ _ w
def fmt6 (hi lo : Int) : ByteArray := fmtT (grpL hi lo) (runF (grpL hi lo) 8 0 (0, 0)).1 (runF (grpL hi lo) 8 0 (0, 0)).2 8 0 ⟨#[]⟩
def fmt.T13 : Bool × List (List Nat × List Nat) := (true, [([], []), ([], []), ([1], [1]), ([], []), ([3], [3]), ([], []), ([5], [5]), ([6], [6]), ([4, 7], [4, 7]), ([8], [8]), ([], []), ([10], [10]), ([], []), ([12], [12]), ([13], [13]), ([11, 14], [11, 14]), ([15], [15]), ([0, 0, 3, 4, 5, 6, 7, 8, 9], [0]), ([17, 9, 0, 3, 4, 5, 6, 7, 8, 9], [9, 17]), ([2, 0, 1, 2, 3, 4, 5, 6, 7, 8, 9, 10, 11, 12, 13, 14, 15, 16, 17, 18], [2]), ([19, 16, 18, 0, 1, 2, 3, 4, 5, 6, 7, 8, 9, 10, 11, 12, 13, 14, 15, 16, 17, 18], [16, 19])])
def fmt.B13 : List Nat := [0, 0, 2, 0, 8, 0, 32, 96, 248, 504, 0, 1024, 0, 4096, 12288, 31744, 64512, 1017, 132089, 524287, 1048575]
theorem fmt.tab13 : rtab .any (opsOf Tryd.f33 13) = fmt.T13 := by kernel_rfl
theorem fmt.bits13 : waitsOk fmt.T13.2 fmt.B13 = true := by kernel_rfl
set_option maxHeartbeats 4000000 in
set_option maxRecDepth 100000 in
theorem format6 (hi lo : Int) (w : World) (hW : WOK w) : Calls Tryd.prog 33 #[.agg #[.bool true, .int .u64 hi, .int .u64 lo]] w fun e w' => e = .returned (.string (fmt6 hi lo)) ∧ Below w.heap.size w w' := by
  have HW := Aside0.mk hW
  clear hW
  obtain ⟨r, hr⟩ : ∃ r, fmt6 hi lo = r := ⟨_, rfl⟩
  have HR := Aside0.mk hr
  rw [hr]
  clear hr
  have HX : Aside0 ((w.alloc (.cells #[.bool true, .int .u64 hi, .int .u64 lo] 25)).heap[w.heap.size]? = some (.cells #[.bool true, .int .u64 hi, .int .u64 lo] 25 (0, 0))) := ⟨heap_alloc_new _ _⟩
  have HB : Aside0 (Below w.heap.size w (w.alloc (.cells #[.bool true, .int .u64 hi, .int .u64 lo] 25))) := ⟨below_alloc (Below.refl _ _) _⟩
  go_enter Tryd.func33, Tryd.ntmps33
  go_upto_region 9 with (fail)
  obtain ⟨g, hg⟩ : ∃ g, w.heap.size = g := ⟨_, rfl⟩
  rw [hg] at HX
  simp only [hg]
  clear hg
  generalize w.alloc (.cells #[.bool true, .int .u64 hi, .int .u64 lo] 25) = W at HX HB ⊢
  have HY : Aside0 ((W.alloc (.cells #[.int .u64 0, .int .u64 0, .int .u64 0, .int .u64 0, .int .u64 0, .int .u64 0, .int .u64 0, .int .u64 0] 68)).heap[W.heap.size]? = some (.cells #[.int .u64 0, .int .u64 0, .int .u64 0, .int .u64 0, .int .u64 0, .int .u64 0, .int .u64 0, .int .u64 0] 68 (0, 0))) := ⟨heap_alloc_new _ _⟩
  have HL := Aside0.mk (blk_lt HX.out)
  replace HX := Aside0.mk (blk_alloc HX.out (.cells #[.int .u64 0, .int .u64 0, .int .u64 0, .int .u64 0, .int .u64 0, .int .u64 0, .int .u64 0, .int .u64 0] 68))
  have HG := Aside0.mk HB.out.size
  replace HB := Aside0.mk (below_alloc HB.out (.cells #[.int .u64 0, .int .u64 0, .int .u64 0, .int .u64 0, .int .u64 0, .int .u64 0, .int .u64 0, .int .u64 0] 68))
  go_upto_region 11 with (fail)
  obtain ⟨ga, hga⟩ : ∃ ga, W.heap.size = ga := ⟨_, rfl⟩
  rw [hga] at HY HG HL
  simp only [hga]
  clear hga
  have HN := Aside0.mk (Nat.ne_of_lt HL.out)
  clear HL
  generalize W.alloc (.cells #[.int .u64 0, .int .u64 0, .int .u64 0, .int .u64 0, .int .u64 0, .int .u64 0, .int .u64 0, .int .u64 0] 68) = W0 at HX HY HB ⊢
  refine wp_loop_rounds 5 ?_
  rw [rounds_succ]
  go_upto_region 13 with (fail)
  refine start_ (n := 21) (S := fun w' => w'.cell? ⟨g, 1, none⟩ = some (.int .u64 hi) ∧ w'.cell? ⟨g, 2, none⟩ = some (.int .u64 lo)) (ds := [20]) #[false, false, false, false, false, false, false, false, false, false, false, false, false, false, false, false, false, false, false, false, false] (by kernel_rfl) rfl rfl ⟨(blk_cell (blk_drew HX.out) 1).trans rfl, (blk_cell (blk_drew HX.out) 2).trans rfl⟩ (fun hHeld => ?_)
  refine with_tabW fmt.tab13 fmt.bits13 (fun HT_ HW_ => ?_)
  replace HX := Aside0.mk (blk_drew HX.out)
  replace HY := Aside0.mk (blk_drew HY.out)
  replace HB := Aside0.mk (below_drew1 HB.out)
  generalize W0.drew = V0 at HX HY HB hHeld ⊢
  refine zp 0 35 HT_ ?_; refine zp 1 36 HT_ ?_; refine zp (v := .int .i64 4) 2 37 HT_ ?_ (hy := fun _ => rfl); refine zp 3 38 HT_ ?_; refine zt 4 39 HT_ HW_ hHeld ?_; refine zp 5 40 HT_ ?_; refine zp (v := .int .i64 0) 6 41 HT_ ?_ (hy := fun _ => rfl); refine zp (v := .int .i64 48) 7 42 HT_ ?_ (hy := fun _ => rfl); refine zp 8 43 HT_ ?_; refine zp 9 44 HT_ ?_; refine zp 10 45 HT_ ?_; refine zt 11 46 HT_ HW_ hHeld ?_; refine zp 12 47 HT_ ?_; refine zp (v := .int .i64 0) 13 48 HT_ ?_ (hy := fun _ => rfl); refine zp (v := .int .i64 48) 14 49 HT_ ?_ (hy := fun _ => rfl); refine zp 15 50 HT_ ?_; refine zp 16 51 HT_ ?_; refine zp 17 52 HT_ ?_
  have hc : V0.cell? ⟨ga, 0, none⟩ = some (.int .u64 0) := (blk_cell HY.out 0).trans rfl
  have hf : V0.frozen? ⟨ga, 0, none⟩ = false := blk_frozen HY.out 0
  refine one_ (i := 18) (N := none) #[true, true, true, true, true, true, true, true, true, true, true, true, true, true, true, true, true, true, true, false, false] rfl rfl (one_of HT_.out (by kernel_rfl)) (by decide) (fun K hK => ?_)
  refine skip_ (w1 := V0.setCell ⟨ga, 0, none⟩ (.int .u64 (Go.bits .and .u64 (hi / 281474976710656) 65535))) (by rfl) rfl (by go_simp) ?_
  clear hc hf
  replace HX := Aside0.mk (blk_far HX.out (p := ⟨ga, 0, none⟩) HN.out (.int .u64 (Go.bits .and .u64 (hi / 281474976710656) 65535)))
  replace HY : Aside0 ((V0.setCell ⟨ga, 0, none⟩ (.int .u64 (Go.bits .and .u64 (hi / 281474976710656) 65535))).heap[ga]? = some (.cells #[.int .u64 (Go.bits .and .u64 (hi / 281474976710656) 65535), .int .u64 0, .int .u64 0, .int .u64 0, .int .u64 0, .int .u64 0, .int .u64 0, .int .u64 0] 68 (0, 0))) := ⟨blk_put (cs := #[.int .u64 0, .int .u64 0, .int .u64 0, .int .u64 0, .int .u64 0, .int .u64 0, .int .u64 0, .int .u64 0]) HY.out 0 _ rfl⟩
  replace HB := Aside0.mk (HB.out.setCell (p := ⟨ga, 0, none⟩) HG.out (.int .u64 (Go.bits .and .u64 (hi / 281474976710656) 65535)))
  generalize V0.setCell ⟨ga, 0, none⟩ (.int .u64 (Go.bits .and .u64 (hi / 281474976710656) 65535)) = U0 at HX HY HB ⊢
  refine hK.out _ _ ⟨(blk_cell HX.out 1).trans rfl, (blk_cell HX.out 2).trans rfl⟩ (fun _ => ?_)
  clear hK K
  refine zp 19 53 HT_ ?_
  have hc : U0.cell? ⟨ga, 4, none⟩ = some (.int .u64 0) := (blk_cell HY.out 4).trans rfl
  have hf : U0.frozen? ⟨ga, 4, none⟩ = false := blk_frozen HY.out 4
  refine last_ (i := 20) (N := none) #[true, true, true, true, true, true, true, true, true, true, true, true, true, true, true, true, true, true, true, true, true] rfl rfl (one_of HT_.out (by kernel_rfl)) (by decide) (fun K hK => ?_)
  refine skip_ (w1 := U0.setCell ⟨ga, 4, none⟩ (.int .u64 (Go.bits .and .u64 (lo / 281474976710656) 65535))) (by rfl) rfl (by go_simp) ?_
  clear hc hf
  replace HX := Aside0.mk (blk_far HX.out (p := ⟨ga, 4, none⟩) HN.out (.int .u64 (Go.bits .and .u64 (lo / 281474976710656) 65535)))
  replace HY : Aside0 ((U0.setCell ⟨ga, 4, none⟩ (.int .u64 (Go.bits .and .u64 (lo / 281474976710656) 65535))).heap[ga]? = some (.cells #[.int .u64 (Go.bits .and .u64 (hi / 281474976710656) 65535), .int .u64 0, .int .u64 0, .int .u64 0, .int .u64 (Go.bits .and .u64 (lo / 281474976710656) 65535), .int .u64 0, .int .u64 0, .int .u64 0] 68 (0, 0))) := ⟨blk_put (cs := #[.int .u64 (Go.bits .and .u64 (hi / 281474976710656) 65535), .int .u64 0, .int .u64 0, .int .u64 0, .int .u64 0, .int .u64 0, .int .u64 0, .int .u64 0]) HY.out 4 _ rfl⟩
  replace HB := Aside0.mk (HB.out.setCell (p := ⟨ga, 4, none⟩) HG.out (.int .u64 (Go.bits .and .u64 (lo / 281474976710656) 65535)))
  generalize U0.setCell ⟨ga, 4, none⟩ (.int .u64 (Go.bits .and .u64 (lo / 281474976710656) 65535)) = W1 at HX HY HB ⊢
  refine hK.out _ _ ?_
  clear hK K
  refine zd HT_ ?_
  clear hHeld HT_ HW_
  go_wp2_with fail
  rw [rounds_succ]
  go_upto_region 13 with (fail)
  refine start_ (n := 21) (S := fun w' => w'.cell? ⟨g, 1, none⟩ = some (.int .u64 hi) ∧ w'.cell? ⟨g, 2, none⟩ = some (.int .u64 lo)) (ds := [20]) #[false, false, false, false, false, false, false, false, false, false, false, false, false, false, false, false, false, false, false, false, false] (by kernel_rfl) rfl rfl ⟨(blk_cell (blk_drew HX.out) 1).trans rfl, (blk_cell (blk_drew HX.out) 2).trans rfl⟩ (fun hHeld => ?_)
  refine with_tabW fmt.tab13 fmt.bits13 (fun HT_ HW_ => ?_)
  replace HX := Aside0.mk (blk_drew HX.out)
  replace HY := Aside0.mk (blk_drew HY.out)
  replace HB := Aside0.mk (below_drew1 HB.out)
  generalize W1.drew = V1 at HX HY HB hHeld ⊢
  refine zp 0 35 HT_ ?_; refine zp 1 36 HT_ ?_; refine zp (v := .int .i64 5) 2 37 HT_ ?_ (hy := fun _ => rfl); refine zp 3 38 HT_ ?_; refine zt 4 39 HT_ HW_ hHeld ?_; refine zp 5 40 HT_ ?_; refine zp (v := .int .i64 16) 6 41 HT_ ?_ (hy := fun _ => rfl); refine zp (v := .int .i64 32) 7 42 HT_ ?_ (hy := fun _ => rfl); refine zp 8 43 HT_ ?_; refine zp 9 44 HT_ ?_; refine zp 10 45 HT_ ?_; refine zt 11 46 HT_ HW_ hHeld ?_; refine zp 12 47 HT_ ?_; refine zp (v := .int .i64 16) 13 48 HT_ ?_ (hy := fun _ => rfl); refine zp (v := .int .i64 32) 14 49 HT_ ?_ (hy := fun _ => rfl); refine zp 15 50 HT_ ?_; refine zp 16 51 HT_ ?_; refine zp 17 52 HT_ ?_
  have hc : V1.cell? ⟨ga, 1, none⟩ = some (.int .u64 0) := (blk_cell HY.out 1).trans rfl
  have hf : V1.frozen? ⟨ga, 1, none⟩ = false := blk_frozen HY.out 1
  refine one_ (i := 18) (N := none) #[true, true, true, true, true, true, true, true, true, true, true, true, true, true, true, true, true, true, true, false, false] rfl rfl (one_of HT_.out (by kernel_rfl)) (by decide) (fun K hK => ?_)
  refine skip_ (w1 := V1.setCell ⟨ga, 1, none⟩ (.int .u64 (Go.bits .and .u64 (hi / 4294967296) 65535))) (by rfl) rfl (by go_simp) ?_
  clear hc hf
  replace HX := Aside0.mk (blk_far HX.out (p := ⟨ga, 1, none⟩) HN.out (.int .u64 (Go.bits .and .u64 (hi / 4294967296) 65535)))
  replace HY : Aside0 ((V1.setCell ⟨ga, 1, none⟩ (.int .u64 (Go.bits .and .u64 (hi / 4294967296) 65535))).heap[ga]? = some (.cells #[.int .u64 (Go.bits .and .u64 (hi / 281474976710656) 65535), .int .u64 (Go.bits .and .u64 (hi / 4294967296) 65535), .int .u64 0, .int .u64 0, .int .u64 (Go.bits .and .u64 (lo / 281474976710656) 65535), .int .u64 0, .int .u64 0, .int .u64 0] 68 (0, 0))) := ⟨blk_put (cs := #[.int .u64 (Go.bits .and .u64 (hi / 281474976710656) 65535), .int .u64 0, .int .u64 0, .int .u64 0, .int .u64 (Go.bits .and .u64 (lo / 281474976710656) 65535), .int .u64 0, .int .u64 0, .int .u64 0]) HY.out 1 _ rfl⟩
  replace HB := Aside0.mk (HB.out.setCell (p := ⟨ga, 1, none⟩) HG.out (.int .u64 (Go.bits .and .u64 (hi / 4294967296) 65535)))
  generalize V1.setCell ⟨ga, 1, none⟩ (.int .u64 (Go.bits .and .u64 (hi / 4294967296) 65535)) = U1 at HX HY HB ⊢
  refine hK.out _ _ ⟨(blk_cell HX.out 1).trans rfl, (blk_cell HX.out 2).trans rfl⟩ (fun _ => ?_)
  clear hK K
  refine zp 19 53 HT_ ?_
  have hc : U1.cell? ⟨ga, 5, none⟩ = some (.int .u64 0) := (blk_cell HY.out 5).trans rfl
  have hf : U1.frozen? ⟨ga, 5, none⟩ = false := blk_frozen HY.out 5
  refine last_ (i := 20) (N := none) #[true, true, true, true, true, true, true, true, true, true, true, true, true, true, true, true, true, true, true, true, true] rfl rfl (one_of HT_.out (by kernel_rfl)) (by decide) (fun K hK => ?_)
  refine skip_ (w1 := U1.setCell ⟨ga, 5, none⟩ (.int .u64 (Go.bits .and .u64 (lo / 4294967296) 65535))) (by rfl) rfl (by go_simp) ?_
  clear hc hf
  replace HX := Aside0.mk (blk_far HX.out (p := ⟨ga, 5, none⟩) HN.out (.int .u64 (Go.bits .and .u64 (lo / 4294967296) 65535)))
  replace HY : Aside0 ((U1.setCell ⟨ga, 5, none⟩ (.int .u64 (Go.bits .and .u64 (lo / 4294967296) 65535))).heap[ga]? = some (.cells #[.int .u64 (Go.bits .and .u64 (hi / 281474976710656) 65535), .int .u64 (Go.bits .and .u64 (hi / 4294967296) 65535), .int .u64 0, .int .u64 0, .int .u64 (Go.bits .and .u64 (lo / 281474976710656) 65535), .int .u64 (Go.bits .and .u64 (lo / 4294967296) 65535), .int .u64 0, .int .u64 0] 68 (0, 0))) := ⟨blk_put (cs := #[.int .u64 (Go.bits .and .u64 (hi / 281474976710656) 65535), .int .u64 (Go.bits .and .u64 (hi / 4294967296) 65535), .int .u64 0, .int .u64 0, .int .u64 (Go.bits .and .u64 (lo / 281474976710656) 65535), .int .u64 0, .int .u64 0, .int .u64 0]) HY.out 5 _ rfl⟩
  replace HB := Aside0.mk (HB.out.setCell (p := ⟨ga, 5, none⟩) HG.out (.int .u64 (Go.bits .and .u64 (lo / 4294967296) 65535)))
  generalize U1.setCell ⟨ga, 5, none⟩ (.int .u64 (Go.bits .and .u64 (lo / 4294967296) 65535)) = W2 at HX HY HB ⊢
  refine hK.out _ _ ?_
  clear hK K
  refine zd HT_ ?_
  clear hHeld HT_ HW_
  go_wp2_with fail
  rw [rounds_succ]
  go_upto_region 13 with (fail)
  refine start_ (n := 21) (S := fun w' => w'.cell? ⟨g, 1, none⟩ = some (.int .u64 hi) ∧ w'.cell? ⟨g, 2, none⟩ = some (.int .u64 lo)) (ds := [20]) #[false, false, false, false, false, false, false, false, false, false, false, false, false, false, false, false, false, false, false, false, false] (by kernel_rfl) rfl rfl ⟨(blk_cell (blk_drew HX.out) 1).trans rfl, (blk_cell (blk_drew HX.out) 2).trans rfl⟩ (fun hHeld => ?_)
  refine with_tabW fmt.tab13 fmt.bits13 (fun HT_ HW_ => ?_)
  replace HX := Aside0.mk (blk_drew HX.out)
  replace HY := Aside0.mk (blk_drew HY.out)
  replace HB := Aside0.mk (below_drew1 HB.out)
  generalize W2.drew = V2 at HX HY HB hHeld ⊢
  refine zp 0 35 HT_ ?_; refine zp 1 36 HT_ ?_; refine zp (v := .int .i64 6) 2 37 HT_ ?_ (hy := fun _ => rfl); refine zp 3 38 HT_ ?_; refine zt 4 39 HT_ HW_ hHeld ?_; refine zp 5 40 HT_ ?_; refine zp (v := .int .i64 32) 6 41 HT_ ?_ (hy := fun _ => rfl); refine zp (v := .int .i64 16) 7 42 HT_ ?_ (hy := fun _ => rfl); refine zp 8 43 HT_ ?_; refine zp 9 44 HT_ ?_; refine zp 10 45 HT_ ?_; refine zt 11 46 HT_ HW_ hHeld ?_; refine zp 12 47 HT_ ?_; refine zp (v := .int .i64 32) 13 48 HT_ ?_ (hy := fun _ => rfl); refine zp (v := .int .i64 16) 14 49 HT_ ?_ (hy := fun _ => rfl); refine zp 15 50 HT_ ?_; refine zp 16 51 HT_ ?_; refine zp 17 52 HT_ ?_
  have hc : V2.cell? ⟨ga, 2, none⟩ = some (.int .u64 0) := (blk_cell HY.out 2).trans rfl
  have hf : V2.frozen? ⟨ga, 2, none⟩ = false := blk_frozen HY.out 2
  refine one_ (i := 18) (N := none) #[true, true, true, true, true, true, true, true, true, true, true, true, true, true, true, true, true, true, true, false, false] rfl rfl (one_of HT_.out (by kernel_rfl)) (by decide) (fun K hK => ?_)
  refine skip_ (w1 := V2.setCell ⟨ga, 2, none⟩ (.int .u64 (Go.bits .and .u64 (hi / 65536) 65535))) (by rfl) rfl (by go_simp) ?_
  clear hc hf
  replace HX := Aside0.mk (blk_far HX.out (p := ⟨ga, 2, none⟩) HN.out (.int .u64 (Go.bits .and .u64 (hi / 65536) 65535)))
  replace HY : Aside0 ((V2.setCell ⟨ga, 2, none⟩ (.int .u64 (Go.bits .and .u64 (hi / 65536) 65535))).heap[ga]? = some (.cells #[.int .u64 (Go.bits .and .u64 (hi / 281474976710656) 65535), .int .u64 (Go.bits .and .u64 (hi / 4294967296) 65535), .int .u64 (Go.bits .and .u64 (hi / 65536) 65535), .int .u64 0, .int .u64 (Go.bits .and .u64 (lo / 281474976710656) 65535), .int .u64 (Go.bits .and .u64 (lo / 4294967296) 65535), .int .u64 0, .int .u64 0] 68 (0, 0))) := ⟨blk_put (cs := #[.int .u64 (Go.bits .and .u64 (hi / 281474976710656) 65535), .int .u64 (Go.bits .and .u64 (hi / 4294967296) 65535), .int .u64 0, .int .u64 0, .int .u64 (Go.bits .and .u64 (lo / 281474976710656) 65535), .int .u64 (Go.bits .and .u64 (lo / 4294967296) 65535), .int .u64 0, .int .u64 0]) HY.out 2 _ rfl⟩
  replace HB := Aside0.mk (HB.out.setCell (p := ⟨ga, 2, none⟩) HG.out (.int .u64 (Go.bits .and .u64 (hi / 65536) 65535)))
  generalize V2.setCell ⟨ga, 2, none⟩ (.int .u64 (Go.bits .and .u64 (hi / 65536) 65535)) = U2 at HX HY HB ⊢
  refine hK.out _ _ ⟨(blk_cell HX.out 1).trans rfl, (blk_cell HX.out 2).trans rfl⟩ (fun _ => ?_)
  clear hK K
  refine zp 19 53 HT_ ?_
  have hc : U2.cell? ⟨ga, 6, none⟩ = some (.int .u64 0) := (blk_cell HY.out 6).trans rfl
  have hf : U2.frozen? ⟨ga, 6, none⟩ = false := blk_frozen HY.out 6
  refine last_ (i := 20) (N := none) #[true, true, true, true, true, true, true, true, true, true, true, true, true, true, true, true, true, true, true, true, true] rfl rfl (one_of HT_.out (by kernel_rfl)) (by decide) (fun K hK => ?_)
  refine skip_ (w1 := U2.setCell ⟨ga, 6, none⟩ (.int .u64 (Go.bits .and .u64 (lo / 65536) 65535))) (by rfl) rfl (by go_simp) ?_
  clear hc hf
  replace HX := Aside0.mk (blk_far HX.out (p := ⟨ga, 6, none⟩) HN.out (.int .u64 (Go.bits .and .u64 (lo / 65536) 65535)))
  replace HY : Aside0 ((U2.setCell ⟨ga, 6, none⟩ (.int .u64 (Go.bits .and .u64 (lo / 65536) 65535))).heap[ga]? = some (.cells #[.int .u64 (Go.bits .and .u64 (hi / 281474976710656) 65535), .int .u64 (Go.bits .and .u64 (hi / 4294967296) 65535), .int .u64 (Go.bits .and .u64 (hi / 65536) 65535), .int .u64 0, .int .u64 (Go.bits .and .u64 (lo / 281474976710656) 65535), .int .u64 (Go.bits .and .u64 (lo / 4294967296) 65535), .int .u64 (Go.bits .and .u64 (lo / 65536) 65535), .int .u64 0] 68 (0, 0))) := ⟨blk_put (cs := #[.int .u64 (Go.bits .and .u64 (hi / 281474976710656) 65535), .int .u64 (Go.bits .and .u64 (hi / 4294967296) 65535), .int .u64 (Go.bits .and .u64 (hi / 65536) 65535), .int .u64 0, .int .u64 (Go.bits .and .u64 (lo / 281474976710656) 65535), .int .u64 (Go.bits .and .u64 (lo / 4294967296) 65535), .int .u64 0, .int .u64 0]) HY.out 6 _ rfl⟩
  replace HB := Aside0.mk (HB.out.setCell (p := ⟨ga, 6, none⟩) HG.out (.int .u64 (Go.bits .and .u64 (lo / 65536) 65535)))
  generalize U2.setCell ⟨ga, 6, none⟩ (.int .u64 (Go.bits .and .u64 (lo / 65536) 65535)) = W3 at HX HY HB ⊢
  refine hK.out _ _ ?_
  clear hK K
  refine zd HT_ ?_
  clear hHeld HT_ HW_
  go_wp2_with fail
  rw [rounds_succ]
  go_upto_region 13 with (fail)
  refine start_ (n := 21) (S := fun w' => w'.cell? ⟨g, 1, none⟩ = some (.int .u64 hi) ∧ w'.cell? ⟨g, 2, none⟩ = some (.int .u64 lo)) (ds := [20]) #[false, false, false, false, false, false, false, false, false, false, false, false, false, false, false, false, false, false, false, false, false] (by kernel_rfl) rfl rfl ⟨(blk_cell (blk_drew HX.out) 1).trans rfl, (blk_cell (blk_drew HX.out) 2).trans rfl⟩ (fun hHeld => ?_)
  refine with_tabW fmt.tab13 fmt.bits13 (fun HT_ HW_ => ?_)
  replace HX := Aside0.mk (blk_drew HX.out)
  replace HY := Aside0.mk (blk_drew HY.out)
  replace HB := Aside0.mk (below_drew1 HB.out)
  generalize W3.drew = V3 at HX HY HB hHeld ⊢
  refine zp 0 35 HT_ ?_; refine zp 1 36 HT_ ?_; refine zp (v := .int .i64 7) 2 37 HT_ ?_ (hy := fun _ => rfl); refine zp 3 38 HT_ ?_; refine zt 4 39 HT_ HW_ hHeld ?_; refine zp 5 40 HT_ ?_; refine zp (v := .int .i64 48) 6 41 HT_ ?_ (hy := fun _ => rfl); refine zp (v := .int .i64 0) 7 42 HT_ ?_ (hy := fun _ => rfl); refine zp 8 43 HT_ ?_; refine zp 9 44 HT_ ?_; refine zp 10 45 HT_ ?_; refine zt 11 46 HT_ HW_ hHeld ?_; refine zp 12 47 HT_ ?_; refine zp (v := .int .i64 48) 13 48 HT_ ?_ (hy := fun _ => rfl); refine zp (v := .int .i64 0) 14 49 HT_ ?_ (hy := fun _ => rfl); refine zp 15 50 HT_ ?_; refine zp 16 51 HT_ ?_; refine zp 17 52 HT_ ?_
  have hc : V3.cell? ⟨ga, 3, none⟩ = some (.int .u64 0) := (blk_cell HY.out 3).trans rfl
  have hf : V3.frozen? ⟨ga, 3, none⟩ = false := blk_frozen HY.out 3
  refine one_ (i := 18) (N := none) #[true, true, true, true, true, true, true, true, true, true, true, true, true, true, true, true, true, true, true, false, false] rfl rfl (one_of HT_.out (by kernel_rfl)) (by decide) (fun K hK => ?_)
  refine skip_ (w1 := V3.setCell ⟨ga, 3, none⟩ (.int .u64 (Go.bits .and .u64 (hi) 65535))) (by rfl) rfl (by go_simp) ?_
  clear hc hf
  replace HX := Aside0.mk (blk_far HX.out (p := ⟨ga, 3, none⟩) HN.out (.int .u64 (Go.bits .and .u64 (hi) 65535)))
  replace HY : Aside0 ((V3.setCell ⟨ga, 3, none⟩ (.int .u64 (Go.bits .and .u64 (hi) 65535))).heap[ga]? = some (.cells #[.int .u64 (Go.bits .and .u64 (hi / 281474976710656) 65535), .int .u64 (Go.bits .and .u64 (hi / 4294967296) 65535), .int .u64 (Go.bits .and .u64 (hi / 65536) 65535), .int .u64 (Go.bits .and .u64 (hi) 65535), .int .u64 (Go.bits .and .u64 (lo / 281474976710656) 65535), .int .u64 (Go.bits .and .u64 (lo / 4294967296) 65535), .int .u64 (Go.bits .and .u64 (lo / 65536) 65535), .int .u64 0] 68 (0, 0))) := ⟨blk_put (cs := #[.int .u64 (Go.bits .and .u64 (hi / 281474976710656) 65535), .int .u64 (Go.bits .and .u64 (hi / 4294967296) 65535), .int .u64 (Go.bits .and .u64 (hi / 65536) 65535), .int .u64 0, .int .u64 (Go.bits .and .u64 (lo / 281474976710656) 65535), .int .u64 (Go.bits .and .u64 (lo / 4294967296) 65535), .int .u64 (Go.bits .and .u64 (lo / 65536) 65535), .int .u64 0]) HY.out 3 _ rfl⟩
  replace HB := Aside0.mk (HB.out.setCell (p := ⟨ga, 3, none⟩) HG.out (.int .u64 (Go.bits .and .u64 (hi) 65535)))
  generalize V3.setCell ⟨ga, 3, none⟩ (.int .u64 (Go.bits .and .u64 (hi) 65535)) = U3 at HX HY HB ⊢
  refine hK.out _ _ ⟨(blk_cell HX.out 1).trans rfl, (blk_cell HX.out 2).trans rfl⟩ (fun _ => ?_)
  clear hK K
  refine zp 19 53 HT_ ?_
  have hc : U3.cell? ⟨ga, 7, none⟩ = some (.int .u64 0) := (blk_cell HY.out 7).trans rfl
  have hf : U3.frozen? ⟨ga, 7, none⟩ = false := blk_frozen HY.out 7
  refine last_ (i := 20) (N := none) #[true, true, true, true, true, true, true, true, true, true, true, true, true, true, true, true, true, true, true, true, true] rfl rfl (one_of HT_.out (by kernel_rfl)) (by decide) (fun K hK => ?_)
  refine skip_ (w1 := U3.setCell ⟨ga, 7, none⟩ (.int .u64 (Go.bits .and .u64 (lo) 65535))) (by rfl) rfl (by go_simp) ?_
  clear hc hf
  replace HX := Aside0.mk (blk_far HX.out (p := ⟨ga, 7, none⟩) HN.out (.int .u64 (Go.bits .and .u64 (lo) 65535)))
  replace HY : Aside0 ((U3.setCell ⟨ga, 7, none⟩ (.int .u64 (Go.bits .and .u64 (lo) 65535))).heap[ga]? = some (.cells #[.int .u64 (Go.bits .and .u64 (hi / 281474976710656) 65535), .int .u64 (Go.bits .and .u64 (hi / 4294967296) 65535), .int .u64 (Go.bits .and .u64 (hi / 65536) 65535), .int .u64 (Go.bits .and .u64 (hi) 65535), .int .u64 (Go.bits .and .u64 (lo / 281474976710656) 65535), .int .u64 (Go.bits .and .u64 (lo / 4294967296) 65535), .int .u64 (Go.bits .and .u64 (lo / 65536) 65535), .int .u64 (Go.bits .and .u64 (lo) 65535)] 68 (0, 0))) := ⟨blk_put (cs := #[.int .u64 (Go.bits .and .u64 (hi / 281474976710656) 65535), .int .u64 (Go.bits .and .u64 (hi / 4294967296) 65535), .int .u64 (Go.bits .and .u64 (hi / 65536) 65535), .int .u64 (Go.bits .and .u64 (hi) 65535), .int .u64 (Go.bits .and .u64 (lo / 281474976710656) 65535), .int .u64 (Go.bits .and .u64 (lo / 4294967296) 65535), .int .u64 (Go.bits .and .u64 (lo / 65536) 65535), .int .u64 0]) HY.out 7 _ rfl⟩
  replace HB := Aside0.mk (HB.out.setCell (p := ⟨ga, 7, none⟩) HG.out (.int .u64 (Go.bits .and .u64 (lo) 65535)))
  generalize U3.setCell ⟨ga, 7, none⟩ (.int .u64 (Go.bits .and .u64 (lo) 65535)) = W4 at HX HY HB ⊢
  refine hK.out _ _ ?_
  clear hK K
  refine zd HT_ ?_
  clear hHeld HT_ HW_
  go_wp2_with fail
  rw [rounds_succ]
  have hc0 : W4.cell? ⟨ga, 0, none⟩ = some (.int .u64 (Go.bits .and .u64 (hi / 281474976710656) 65535)) := (blk_cell HY.out 0).trans rfl
  have hc1 : W4.cell? ⟨ga, 1, none⟩ = some (.int .u64 (Go.bits .and .u64 (hi / 4294967296) 65535)) := (blk_cell HY.out 1).trans rfl
  have hc2 : W4.cell? ⟨ga, 2, none⟩ = some (.int .u64 (Go.bits .and .u64 (hi / 65536) 65535)) := (blk_cell HY.out 2).trans rfl
  have hc3 : W4.cell? ⟨ga, 3, none⟩ = some (.int .u64 (Go.bits .and .u64 (hi) 65535)) := (blk_cell HY.out 3).trans rfl
  have hc4 : W4.cell? ⟨ga, 4, none⟩ = some (.int .u64 (Go.bits .and .u64 (lo / 281474976710656) 65535)) := (blk_cell HY.out 4).trans rfl
  have hc5 : W4.cell? ⟨ga, 5, none⟩ = some (.int .u64 (Go.bits .and .u64 (lo / 4294967296) 65535)) := (blk_cell HY.out 5).trans rfl
  have hc6 : W4.cell? ⟨ga, 6, none⟩ = some (.int .u64 (Go.bits .and .u64 (lo / 65536) 65535)) := (blk_cell HY.out 6).trans rfl
  have hc7 : W4.cell? ⟨ga, 7, none⟩ = some (.int .u64 (Go.bits .and .u64 (lo) 65535)) := (blk_cell HY.out 7).trans rfl
  go_wp2_with fail
  clear hc0 hc1 hc2 hc3 hc4 hc5 hc6 hc7
  refine (run_g hi lo _).mono ?_
  rintro e w2 ⟨rfl, hb⟩
  replace HX := Aside0.mk (blk_below HX.out hb)
  replace HY := Aside0.mk (blk_below HY.out hb)
  replace HB := Aside0.mk (below_step HB.out hb)
  clear hb
  have HC : Aside0 (∀ k : Nat, k < 8 → (#[.int .u64 (Go.bits .and .u64 (hi / 281474976710656) 65535), .int .u64 (Go.bits .and .u64 (hi / 4294967296) 65535), .int .u64 (Go.bits .and .u64 (hi / 65536) 65535), .int .u64 (Go.bits .and .u64 (hi) 65535), .int .u64 (Go.bits .and .u64 (lo / 281474976710656) 65535), .int .u64 (Go.bits .and .u64 (lo / 4294967296) 65535), .int .u64 (Go.bits .and .u64 (lo / 65536) 65535), .int .u64 (Go.bits .and .u64 (lo) 65535)] : Array Value)[k]? = some (.int .u64 ((grpL hi lo).getD k 0))) := ⟨fun k hk => by
    rcases k with _ | _ | _ | _ | _ | _ | _ | _ | k <;> first | omega | rfl⟩
  have HH : Aside0 (∀ k : Nat, k < 8 → 0 ≤ (grpL hi lo).getD k 0 ∧ (grpL hi lo).getD k 0 < 65536) := ⟨fun k hk => by
    rcases k with _ | _ | _ | _ | _ | _ | _ | _ | k <;> first | omega | exact and65535 _⟩
  have HP := Aside0.mk (runF_ok (grpL hi lo))
  have H0 : Aside0 (TxtI (grpL hi lo) (runF (grpL hi lo) 8 0 (0, 0)).1 (runF (grpL hi lo) 8 0 (0, 0)).2 8 0 ⟨#[]⟩ r) := ⟨⟨by omega, by omega, HR.out, by decide⟩⟩
  clear HR
  generalize grpL hi lo = l at HC HH HP H0 ⊢
  generalize (#[.int .u64 (Go.bits .and .u64 (hi / 281474976710656) 65535), .int .u64 (Go.bits .and .u64 (hi / 4294967296) 65535), .int .u64 (Go.bits .and .u64 (hi / 65536) 65535), .int .u64 (Go.bits .and .u64 (hi) 65535), .int .u64 (Go.bits .and .u64 (lo / 281474976710656) 65535), .int .u64 (Go.bits .and .u64 (lo / 4294967296) 65535), .int .u64 (Go.bits .and .u64 (lo / 65536) 65535), .int .u64 (Go.bits .and .u64 (lo) 65535)] : Array Value) = C at HC HY
  obtain ⟨pq, hpq⟩ : ∃ pq, runF l 8 0 (0, 0) = pq := ⟨_, rfl⟩
  rw [hpq] at HP H0
  simp only [hpq]
  clear hpq
  obtain ⟨p, q⟩ := pq
  dsimp only at HP H0 ⊢
  go_wp2_with fail
  go_loopg [9, 10] 8 (fun gg v9 v10 wr => ∃ (i : Nat) (o : ByteArray), v9 = .string o ∧ v10 = .int .i64 (i : Int) ∧ Aside0 (TxtI l p q gg i o r) ∧ Aside0 (wr.heap[ga]? = some (.cells C 68 (0, 0))) ∧ Aside0 (Below w.heap.size w wr))
  case atStart => exact ⟨0, _, rfl, rfl, H0, HY, HB⟩
  case round =>
    obtain ⟨i, o, rfl, rfl, HT, HY, HB⟩ := hrel
    clear H0
    by_cases hi8 : i < 8
    · obtain ⟨m, rfl⟩ := HT.out.pos hi8
      have hlt := r_lt hi8
      have hlt2 := r_ltd hi8
      have hc : wr.cell? ⟨ga, i, none⟩ = some (.int .u64 (l.getD i 0)) := (blk_cell HY.out i).trans (HC.out i hi8)
      have HV := Aside0.mk (HH.out i hi8)
      obtain ⟨x, hx⟩ : ∃ x, l.getD i 0 = x := ⟨_, rfl⟩
      rw [hx] at hc HV
      have HS := Aside0.mk (r_suc (Nat.le_of_lt hi8))
      have HE := Aside0.mk hx
      clear hx
      have HI := Aside0.mk hi8
      clear hi8
      by_cases hip : i = p
      · have he1 := i_eq hip
        have he2 := i_eqd hip
        by_cases hq : 1 < q - p
        · have hg1 := q_gt hq HP.out.2
          have HN := Aside0.mk (HT.out.gap HI.out hip hq HP.out.2)
          have hs2 := sz_2 HT.out
          have HS2 := Aside0.mk (q_next hq HP.out.2)
          clear hip hq
          go_wp2_with fail
          go_roundg m
          case measure => exact Nat.lt_succ_self m
          case rel => exact ⟨q, _, rfl, by rw [HS2.out], HN, HY, HB⟩
        · have hg1 := q_ngt hq HP.out
          have HNP : Aside0 (¬ (i = p ∧ 1 < q - p)) := ⟨fun h => hq h.2⟩
          clear hip hq
          by_cases ho : o.toList = []
          · have ho1 : (o.toList == ([] : List UInt8)) = true := beq_iff_eq.mpr ho
            have ho2 : (o.toList != ([] : List UInt8)) = false := bne_eq_false_iff_eq.mpr ho
            have HN := Aside0.mk (HT.out.hexA HE.out HI.out HNP.out (fun h => h.1 ho))
            clear ho
            go_wp2_with fail
            refine (strconv_FormatUint.calls _ _ _ _ (hex_u HV.out) (HW.out.below HB.out)).mono ?_
            rintro e w4 ⟨rfl, hb⟩
            replace HY := Aside0.mk (blk_below HY.out hb)
            replace HB := Aside0.mk (below_step HB.out hb)
            clear hb
            generalize (⟨(hexL 4 x.toNat).toArray⟩ : ByteArray) = hx at HN ⊢
            have hs4 := sz_h HN.out
            try rw [ByteArray.size_append, show (⟨#[58]⟩ : ByteArray).size = 1 from rfl] at hs4
            go_wp2_with fail
            go_roundg m
            case measure => exact Nat.lt_succ_self m
            case rel => exact ⟨i + 1, _, rfl, by rw [HS.out], HN, HY, HB⟩
          · have ho1 : (o.toList == ([] : List UInt8)) = false := beq_eq_false_iff_ne.mpr ho
            have ho2 : (o.toList != ([] : List UInt8)) = true := bne_iff_ne.mpr ho
            have HO := Aside0.mk ho
            clear ho
            go_wp2_with fail
            refine (strings_HasSuffix.calls _ _ _ _ (suf_u (Nat.le_trans (Nat.le_add_right _ _) HT.out.sz))).mono ?_
            rintro e w3 ⟨rfl, hb⟩
            replace HY := Aside0.mk (blk_below HY.out hb)
            replace HB := Aside0.mk (below_step HB.out hb)
            clear hb hc
            have hc : w3.cell? ⟨ga, i, none⟩ = some (.int .u64 x) := (blk_cell HY.out i).trans ((HC.out i HI.out).trans (by rw [HE.out]))
            cases hs : Lib.hasSuffix o.data.toList [58] with
            | true =>
              have HN := Aside0.mk (HT.out.hexA HE.out HI.out HNP.out (fun h => Bool.noConfusion (hs.symm.trans h.2)))
              clear hs
              go_wp2_with fail
              refine (strconv_FormatUint.calls _ _ _ _ (hex_u HV.out) (HW.out.below HB.out)).mono ?_
              rintro e w4 ⟨rfl, hb⟩
              replace HY := Aside0.mk (blk_below HY.out hb)
              replace HB := Aside0.mk (below_step HB.out hb)
              clear hb
              generalize (⟨(hexL 4 x.toNat).toArray⟩ : ByteArray) = hx at HN ⊢
              have hs4 := sz_h HN.out
              try rw [ByteArray.size_append, show (⟨#[58]⟩ : ByteArray).size = 1 from rfl] at hs4
              go_wp2_with fail
              go_roundg m
              case measure => exact Nat.lt_succ_self m
              case rel => exact ⟨i + 1, _, rfl, by rw [HS.out], HN, HY, HB⟩
            | false =>
              have HN := Aside0.mk (HT.out.hexB HE.out HI.out HNP.out ⟨HO.out, hs⟩)
              have hs1 := sz_1 HT.out
              clear hs
              go_wp2_with fail
              refine (strconv_FormatUint.calls _ _ _ _ (hex_u HV.out) (HW.out.below HB.out)).mono ?_
              rintro e w4 ⟨rfl, hb⟩
              replace HY := Aside0.mk (blk_below HY.out hb)
              replace HB := Aside0.mk (below_step HB.out hb)
              clear hb
              generalize (⟨(hexL 4 x.toNat).toArray⟩ : ByteArray) = hx at HN ⊢
              have hs4 := sz_h HN.out
              try rw [ByteArray.size_append, show (⟨#[58]⟩ : ByteArray).size = 1 from rfl] at hs4
              go_wp2_with fail
              go_roundg m
              case measure => exact Nat.lt_succ_self m
              case rel => exact ⟨i + 1, _, rfl, by rw [HS.out], HN, HY, HB⟩
      · have he1 := i_ne hip
        have he2 := i_ned hip
        have HNP : Aside0 (¬ (i = p ∧ 1 < q - p)) := ⟨fun h => hip h.1⟩
        clear hip
        by_cases ho : o.toList = []
        · have ho1 : (o.toList == ([] : List UInt8)) = true := beq_iff_eq.mpr ho
          have ho2 : (o.toList != ([] : List UInt8)) = false := bne_eq_false_iff_eq.mpr ho
          have HN := Aside0.mk (HT.out.hexA HE.out HI.out HNP.out (fun h => h.1 ho))
          clear ho
          go_wp2_with fail
          refine (strconv_FormatUint.calls _ _ _ _ (hex_u HV.out) (HW.out.below HB.out)).mono ?_
          rintro e w4 ⟨rfl, hb⟩
          replace HY := Aside0.mk (blk_below HY.out hb)
          replace HB := Aside0.mk (below_step HB.out hb)
          clear hb
          generalize (⟨(hexL 4 x.toNat).toArray⟩ : ByteArray) = hx at HN ⊢
          have hs4 := sz_h HN.out
          try rw [ByteArray.size_append, show (⟨#[58]⟩ : ByteArray).size = 1 from rfl] at hs4
          go_wp2_with fail
          go_roundg m
          case measure => exact Nat.lt_succ_self m
          case rel => exact ⟨i + 1, _, rfl, by rw [HS.out], HN, HY, HB⟩
        · have ho1 : (o.toList == ([] : List UInt8)) = false := beq_eq_false_iff_ne.mpr ho
          have ho2 : (o.toList != ([] : List UInt8)) = true := bne_iff_ne.mpr ho
          have HO := Aside0.mk ho
          clear ho
          go_wp2_with fail
          refine (strings_HasSuffix.calls _ _ _ _ (suf_u (Nat.le_trans (Nat.le_add_right _ _) HT.out.sz))).mono ?_
          rintro e w3 ⟨rfl, hb⟩
          replace HY := Aside0.mk (blk_below HY.out hb)
          replace HB := Aside0.mk (below_step HB.out hb)
          clear hb hc
          have hc : w3.cell? ⟨ga, i, none⟩ = some (.int .u64 x) := (blk_cell HY.out i).trans ((HC.out i HI.out).trans (by rw [HE.out]))
          cases hs : Lib.hasSuffix o.data.toList [58] with
          | true =>
            have HN := Aside0.mk (HT.out.hexA HE.out HI.out HNP.out (fun h => Bool.noConfusion (hs.symm.trans h.2)))
            clear hs
            go_wp2_with fail
            refine (strconv_FormatUint.calls _ _ _ _ (hex_u HV.out) (HW.out.below HB.out)).mono ?_
            rintro e w4 ⟨rfl, hb⟩
            replace HY := Aside0.mk (blk_below HY.out hb)
            replace HB := Aside0.mk (below_step HB.out hb)
            clear hb
            generalize (⟨(hexL 4 x.toNat).toArray⟩ : ByteArray) = hx at HN ⊢
            have hs4 := sz_h HN.out
            try rw [ByteArray.size_append, show (⟨#[58]⟩ : ByteArray).size = 1 from rfl] at hs4
            go_wp2_with fail
            go_roundg m
            case measure => exact Nat.lt_succ_self m
            case rel => exact ⟨i + 1, _, rfl, by rw [HS.out], HN, HY, HB⟩
          | false =>
            have HN := Aside0.mk (HT.out.hexB HE.out HI.out HNP.out ⟨HO.out, hs⟩)
            have hs1 := sz_1 HT.out
            clear hs
            go_wp2_with fail
            refine (strconv_FormatUint.calls _ _ _ _ (hex_u HV.out) (HW.out.below HB.out)).mono ?_
            rintro e w4 ⟨rfl, hb⟩
            replace HY := Aside0.mk (blk_below HY.out hb)
            replace HB := Aside0.mk (below_step HB.out hb)
            clear hb
            generalize (⟨(hexL 4 x.toNat).toArray⟩ : ByteArray) = hx at HN ⊢
            have hs4 := sz_h HN.out
            try rw [ByteArray.size_append, show (⟨#[58]⟩ : ByteArray).size = 1 from rfl] at hs4
            go_wp2_with fail
            go_roundg m
            case measure => exact Nat.lt_succ_self m
            case rel => exact ⟨i + 1, _, rfl, by rw [HS.out], HN, HY, HB⟩
    · have hlt := r_ge hi8
      have hlt2 := r_ged hi8
      have e := HT.out.fin hi8
      subst e
      clear hi8
      go_wp2_with fail
      exact bodyPost_ret (v := .string o) (by simp [results, Tryd.results33, go_sem]) rfl ⟨rfl, HB.out⟩
def address_Format.f (a0 : Bool) (a1 a2 : Int) : Option ByteArray := if a0 = true then some (fmt6 a1 a2) else strings_Join.f [decB (Go.bits .and .u64 (a2 / 16777216) 255), decB (Go.bits .and .u64 (a2 / 65536) 255), decB (Go.bits .and .u64 (a2 / 256) 255), decB (Go.bits .and .u64 (a2) 255)] (⟨#[46]⟩ : ByteArray)
theorem address_Format.calls (a0 : Bool) (a1 a2 : Int) (r : ByteArray) (w : World) (h : address_Format.f a0 a1 a2 = some r) (hW : WOK w) :
    Calls Tryd.prog 33 #[.agg #[.bool a0, .int .u64 a1, .int .u64 a2]] w fun e w' => e = .returned (.string r) ∧ Below w.heap.size w w' := by
  unfold address_Format.f at h
  cases a0 with
  | true =>
    rw [if_pos rfl] at h
    injection h with h
    subst h
    exact format6 a1 a2 w hW
  | false =>
    rw [if_neg (by decide)] at h
    exact format4 a1 a2 r w h hW
end Go.Proofs.YtlgfinnldhjgeaaDoor.Q
end

section
namespace Go.Proofs.YtlgfinnldhjgeaaDoor.Q
open Go.RowKit Go.Proofs.YtlgfinnldhjgeaaDoorW.PrintWords Go.Proofs.YtlgfinnldhjgeaaDoorW.PrintLast Go.Proofs.YtlgfinnldhjgeaaDoorW.PrintMore
attribute [local go_sem] max2_int min2_int max_two min_two max_three min_three max_four min_four
set_option linter.unusedVariables false
set_option linter.unusedSimpArgs false
def address_FormatPrefix.f (a0_0 : Bool) (a0_1 : Int) (a0_2 : Int) (a0_3 : Int) : Option (ByteArray) := (address_Format.f a0_0 a0_1 a0_2).bind fun t467 => (if t467.size + 1 ≤ 9223372036854775807 then ((strconv_Itoa.f a0_3).bind fun t468 => (if (t467 ++ (⟨#[47]⟩ : ByteArray)).size + t468.size ≤ 9223372036854775807 then (some ((t467 ++ (⟨#[47]⟩ : ByteArray)) ++ t468)) else (none))) else (none))
def address_FormatPrefix.T1 : Bool × List (List Nat × List Nat) := (true, [([], []), ([0], [0]), ([1], [1]), ([2], [2]), ([], []), ([4], [4]), ([5, 2], [5]), ([3, 6], [3, 6]), ([7, 6, 0, 1, 2, 3, 4, 5, 6, 7], [7])])
def address_FormatPrefix.B1 : List Nat := [0, 1, 3, 7, 0, 16, 55, 127, 255]
theorem address_FormatPrefix.tab1 : rtab .any (opsOf Tryd.f36 1) = address_FormatPrefix.T1 := by kernel_rfl
theorem address_FormatPrefix.bits1 : waitsOk address_FormatPrefix.T1.2 address_FormatPrefix.B1 = true := by kernel_rfl
set_option maxHeartbeats 8000000 in
set_option maxRecDepth 100000 in
theorem address_FormatPrefix.calls (a0_0 : Bool) (a0_1 : Int) (a0_2 : Int) (a0_3 : Int) (r : ByteArray) (w : World) (h : address_FormatPrefix.f a0_0 a0_1 a0_2 a0_3 = some r) (hW_ : WOK w) :
 Calls Tryd.prog 36 #[.agg #[.bool a0_0, .int .u64 a0_1, .int .u64 a0_2, .int .i64 a0_3]] w fun e w' => e = .returned (.string r) ∧ Below w.heap.size w w' := by
 have hu30 := Tryd.underlying30
 have hu25 := Tryd.underlying25
 have HB := Aside0.mk (Below.refl w.heap.size w)
 unfold address_FormatPrefix.f at h; have H := h
 clear h
 replace H := Option.bind_eq_some_iff.mp H
 obtain ⟨t467, A20, H⟩ := H
 try dsimp only at H
 have A2 := Aside0.mk A20
 clear A20
 by_cases c3 : t467.size + 1 ≤ 9223372036854775807
 · rw [if_pos c3] at H
   have c3b0 := eq_true c3
   have c3b1 : decide (t467.size + 1 ≤ 9223372036854775807) = true := decide_eq_true c3
   try have c3b2 : (9223372036854775807 < t467.size + 1) = False := eq_false (Nat.not_lt.2 c3)
   replace H := Option.bind_eq_some_iff.mp H
   obtain ⟨t468, A40, H⟩ := H
   try dsimp only at H
   have A4 := Aside0.mk A40
   clear A40
   by_cases c5 : (t467 ++ (⟨#[47]⟩ : ByteArray)).size + t468.size ≤ 9223372036854775807
   · rw [if_pos c5] at H
     have c5b0 := eq_true c5
     have c5b8 : t467.size + 1 + t468.size ≤ 9223372036854775807 := by have q_ := c5; simp only [ByteArray.size_append] at q_; exact q_
     have c5b7 : (9223372036854775807 < t467.size + 1 + t468.size) = False := eq_false (Nat.not_lt.2 c5b8)
     replace c5b8 := eq_true c5b8
     have c5b1 : decide ((t467 ++ (⟨#[47]⟩ : ByteArray)).size + t468.size ≤ 9223372036854775807) = true := decide_eq_true c5
     try have c5b2 : (9223372036854775807 < (t467 ++ (⟨#[47]⟩ : ByteArray)).size + t468.size) = False := eq_false (Nat.not_lt.2 c5)
     obtain rfl := Option.some.inj H
     go_enter Tryd.func36, Tryd.ntmps36
     try go_wp2_with (first | ((with_reducible refine gate_dst (N := 1) rfl ?_); refine zx 1 #[.bool a0_0, .int .u64 a0_1, .int .u64 a0_2, .int .i64 a0_3] 30 ?_; intro gb466 hg w6 hbox hb; have BK466 := Aside0.mk (hbox); have GW466 := Aside0.mk ((by rw [hg]; exact (below_size (zB HB)) : w.heap.size ≤ gb466)); have GE466 := Aside0.mk ((by rw [hg]; exact (below_size (zB HB)) : w.heap.size ≤ gb466)); replace HB := Aside0.mk (below_step (zB HB) hb); clear hb hbox hg))
     replace BK466 := Aside0.mk (blk_drew BK466.out)
     replace HB := Aside0.mk (below_drew1 HB.out)
     refine start_ (n := 9) (S := fun w' => w'.cell? ⟨gb466, 0, none⟩ = some (.bool a0_0) ∧ w'.cell? ⟨gb466, 1, none⟩ = some (.int .u64 a0_1) ∧ w'.cell? ⟨gb466, 2, none⟩ = some (.int .u64 a0_2) ∧ w'.cell? ⟨gb466, 3, none⟩ = some (.int .i64 a0_3)) (ds := []) #[false, false, false, false, false, false, false, false, false] (by kernel_rfl) rfl rfl ⟨zc BK466 0, zc BK466 1, zc BK466 2, zc BK466 3⟩ (fun hHeld => ?_); refine with_tabW address_FormatPrefix.tab1 address_FormatPrefix.bits1 (fun HT_ HW_ => ?_)
     generalize w6.drew = w7 at BK466 HB hHeld ⊢
     refine zp 0 3 HT_ ?_; refine zp 4 7 HT_ ?_; refine zt 1 4 HT_ HW_ hHeld ?_; refine zt 5 8 HT_ HW_ hHeld ?_; refine zo 2 5 HT_ (fun K hK => ?_)
     refine zg Tryd.func33 #[.agg #[.bool a0_0, .int .u64 a0_1, .int .u64 a0_2]] ?_
     with_reducible refine (address_Format.calls a0_0 a0_1 a0_2 t467 _ A2.out (WOK.below hW_ (zB HB))).mono ?_
     rintro e w8 ⟨rfl, hb⟩
     refine ⟨_, rfl, ?_⟩
     replace BK466 := Aside0.mk (blk_below (g := gb466) (o := .cells #[.bool a0_0, .int .u64 a0_1, .int .u64 a0_2, .int .i64 a0_3] 30 (0, 0)) (zK BK466) hb)
     replace HB := Aside0.mk (below_step (zB HB) hb)
     (try clear hb)
     refine hK.out _ _ ⟨zc BK466 0, zc BK466 1, zc BK466 2, zc BK466 3⟩ (fun hHeld => ?_)
     clear hK K
     refine zn 5 ?_; refine zp 3 6 HT_ ?_; refine zo 6 9 HT_ (fun K hK => ?_)
     refine zg Tryd.func54 #[.int .i64 a0_3] ?_
     with_reducible refine (strconv_Itoa.calls a0_3 t468 _ A4.out (WOK.below hW_ (zB HB))).mono ?_
     rintro e w9 ⟨rfl, hb⟩
     refine ⟨_, rfl, ?_⟩
     replace BK466 := Aside0.mk (blk_below (g := gb466) (o := .cells #[.bool a0_0, .int .u64 a0_1, .int .u64 a0_2, .int .i64 a0_3] 30 (0, 0)) (zK BK466) hb)
     replace HB := Aside0.mk (below_step (zB HB) hb)
     (try clear hb)
     refine hK.out _ _ ⟨zc BK466 0, zc BK466 1, zc BK466 2, zc BK466 3⟩ (fun hHeld => ?_)
     clear hK K
     refine zn 9 ?_; refine zp 7 10 HT_ ?_; refine zp 8 2 HT_ ?_; refine zd HT_ ?_
     try go_wp2
     go_ret
     exact ⟨by first | rfl | (simp [errW_none, errW_some] <;> rfl) | (simp [*, errW_none, errW_some] <;> rfl), by repeat (first | (with_reducible first | exact HB.out | apply below_alloc | apply pw_below_drewN | apply below_drew1 | refine below_set ?_ GE466.out) | exact HB.out)⟩
   · rw [if_neg c5] at H
     exact absurd H (by simp)
 · rw [if_neg c3] at H
   exact absurd H (by simp)
end Go.Proofs.YtlgfinnldhjgeaaDoor.Q
end

section
namespace Go.Proofs.YtlgfinnldhjgeaaDoor.Q
open Go.RowKit Go.Proofs.YtlgfinnldhjgeaaDoorW.PrintWords Go.Proofs.YtlgfinnldhjgeaaDoorW.PrintLast Go.Proofs.YtlgfinnldhjgeaaDoorW.PrintMore
attribute [local go_sem] max2_int min2_int max_two min_two max_three min_three max_four min_four
set_option linter.unusedVariables false
set_option linter.unusedSimpArgs false
def address_last.f (a0 : Bool) : Option (Bool × Int × Int) := if a0 = true then (some (true, 18446744073709551615, 18446744073709551615)) else (some (false, 0, 4294967295))
set_option maxHeartbeats 8000000 in
set_option maxRecDepth 100000 in
theorem address_last.calls (a0 : Bool) (r1 : Bool) (r2 : Int) (r3 : Int) (w : World) (h : address_last.f a0 = some (r1, r2, r3)) :
 Calls Tryd.prog 49 #[.bool a0] w fun e w' => e = .returned (.agg #[.bool r1, .int .u64 r2, .int .u64 r3]) ∧ Below w.heap.size w w' := by
 have hu25 := Tryd.underlying25
 have HB := Aside0.mk (Below.refl w.heap.size w)
 unfold address_last.f at h; have H := h
 clear h
 by_cases c2 : a0 = true
 · subst c2
   rw [if_pos rfl] at H
   simp only [Option.some.injEq, Prod.mk.injEq] at H
   obtain ⟨rfl, rfl, rfl⟩ := H
   go_enter Tryd.func49, Tryd.ntmps49
   go_wp2_with (first | ((with_reducible refine gate_dst (N := 2) rfl ?_); refine zx 2 #[.bool false, .int .u64 0, .int .u64 0] 25 ?_; intro gb176 hg w3 hbox hb; have BK176 := Aside0.mk (hbox); have GW176 := Aside0.mk ((by rw [hg]; exact (below_size (zB HB)) : w.heap.size ≤ gb176)); have GE176 := Aside0.mk ((by rw [hg]; exact (below_size (zB HB)) : w.heap.size ≤ gb176)); replace HB := Aside0.mk (below_step (zB HB) hb); clear hb hbox hg; obtain ⟨hcz4_0, hcz4_1, hcz4_2⟩ := zc3 BK176; obtain ⟨hfz4_0, hfz4_1, hfz4_2⟩ := zf3 BK176))
   refine bodyPost_ret (results_cell_row rfl _ _ gb176 25 #[.bool true, .int .u64 18446744073709551615, .int .u64 18446744073709551615] (0, 0) _ rfl (by refine zL ?_; refine blk_put (cs := #[.bool true, .int .u64 18446744073709551615, .int .u64 0]) ?_ 2 _ rfl; refine zL ?_; refine blk_put (cs := #[.bool true, .int .u64 0, .int .u64 0]) ?_ 1 _ rfl; refine zL ?_; refine blk_put (cs := #[.bool false, .int .u64 0, .int .u64 0]) ?_ 0 _ rfl; refine zL ?_; exact BK176.out) Tryd.underlying25 rfl (by kernel_rfl)) rfl ?_
   exact ⟨by first | rfl | (simp [errW_none, errW_some] <;> rfl) | (simp [*, errW_none, errW_some] <;> rfl), by repeat (first | (with_reducible first | exact HB.out | apply below_alloc | apply pw_below_drewN | apply below_drew1 | refine below_set ?_ GE176.out) | exact HB.out)⟩
 · replace c2 := Bool.eq_false_iff.mpr c2
   subst c2
   rw [if_neg zF] at H
   simp only [Option.some.injEq, Prod.mk.injEq] at H
   obtain ⟨rfl, rfl, rfl⟩ := H
   go_enter Tryd.func49, Tryd.ntmps49
   go_wp2_with (first | ((with_reducible refine gate_dst (N := 2) rfl ?_); refine zx 2 #[.bool false, .int .u64 0, .int .u64 0] 25 ?_; intro gb176 hg w5 hbox hb; have BK176 := Aside0.mk (hbox); have GW176 := Aside0.mk ((by rw [hg]; exact (below_size (zB HB)) : w.heap.size ≤ gb176)); have GE176 := Aside0.mk ((by rw [hg]; exact (below_size (zB HB)) : w.heap.size ≤ gb176)); replace HB := Aside0.mk (below_step (zB HB) hb); clear hb hbox hg; obtain ⟨hcz6_0, hcz6_1, hcz6_2⟩ := zc3 BK176; obtain ⟨hfz6_0, hfz6_1, hfz6_2⟩ := zf3 BK176))
   refine bodyPost_ret (results_cell_row rfl _ _ gb176 25 #[.bool false, .int .u64 0, .int .u64 4294967295] (0, 0) _ rfl (by refine zL ?_; refine blk_put (cs := #[.bool false, .int .u64 0, .int .u64 0]) ?_ 2 _ rfl; refine zL ?_; refine blk_put (cs := #[.bool false, .int .u64 0, .int .u64 0]) ?_ 1 _ rfl; refine zL ?_; refine blk_put (cs := #[.bool false, .int .u64 0, .int .u64 0]) ?_ 0 _ rfl; refine zL ?_; exact BK176.out) Tryd.underlying25 rfl (by kernel_rfl)) rfl ?_
   exact ⟨by first | rfl | (simp [errW_none, errW_some] <;> rfl) | (simp [*, errW_none, errW_some] <;> rfl), by repeat (first | (with_reducible first | exact HB.out | apply below_alloc | apply pw_below_drewN | apply below_drew1 | refine below_set ?_ GE176.out) | exact HB.out)⟩
end Go.Proofs.YtlgfinnldhjgeaaDoor.Q
end

section
namespace Go.Proofs.YtlgfinnldhjgeaaDoor.Q
open Go.RowKit Go.Proofs.YtlgfinnldhjgeaaDoorW.PrintWords Go.Proofs.YtlgfinnldhjgeaaDoorW.PrintLast Go.Proofs.YtlgfinnldhjgeaaDoorW.PrintMore
attribute [local go_sem] max2_int min2_int max_two min_two max_three min_three max_four min_four
set_option linter.unusedVariables false
set_option linter.unusedSimpArgs false
attribute [local go_sem high] eqA25
def address_Next.f (a0_0 : Bool) (a0_1 : Int) (a0_2 : Int) : Option (Bool × Int × Int × Bool) := (address_last.f a0_0).bind fun bt179 => (if (a0_0 == bt179.1 && (a0_1 == bt179.2.1 && (a0_2 == bt179.2.2))) = true then (some (false, 0, 0, false)) else (if (IntKind.u64.wrap (a0_2 + 1)) = 0 then (some (a0_0, IntKind.u64.wrap (a0_1 + 1), IntKind.u64.wrap (a0_2 + 1), true)) else (some (a0_0, a0_1, IntKind.u64.wrap (a0_2 + 1), true))))
set_option maxHeartbeats 8000000 in
set_option maxRecDepth 100000 in
theorem address_Next.calls (a0_0 : Bool) (a0_1 : Int) (a0_2 : Int) (r1 : Bool) (r2 : Int) (r3 : Int) (r4 : Bool) (w : World) (h : address_Next.f a0_0 a0_1 a0_2 = some (r1, r2, r3, r4)) :
 Calls Tryd.prog 16 #[.agg #[.bool a0_0, .int .u64 a0_1, .int .u64 a0_2]] w fun e w' => e = .returned (.tuple #[.agg #[.bool r1, .int .u64 r2, .int .u64 r3], .bool r4]) ∧ Below w.heap.size w w' := by
 have hu25 := Tryd.underlying25
 have HB := Aside0.mk (Below.refl w.heap.size w)
 unfold address_Next.f at h; have H := h
 clear h
 replace H := Option.bind_eq_some_iff.mp H
 obtain ⟨⟨t179, t180, t181⟩, A20, H⟩ := H
 replace H : (if (a0_0 == t179 && (a0_1 == t180 && (a0_2 == t181))) = true then (some (false, 0, 0, false)) else (if (IntKind.u64.wrap (a0_2 + 1)) = 0 then (some (a0_0, IntKind.u64.wrap (a0_1 + 1), IntKind.u64.wrap (a0_2 + 1), true)) else (some (a0_0, a0_1, IntKind.u64.wrap (a0_2 + 1), true)))) = some (r1, r2, r3, r4) := H
 have A2 := Aside0.mk A20
 clear A20
 by_cases c3 : (a0_0 == t179 && (a0_1 == t180 && (a0_2 == t181))) = true
 · rw [if_pos c3] at H
   have c3b0 : (a0_0 == t179 && (a0_1 == t180 && (a0_2 == t181))) = true := c3
   (try (have c3b1 : decide (a0_0 = t179 && (a0_1 == t180 && (a0_2 == t181))) = true := by first | (simpa using c3) | exact decide_eq_true (Decidable.not_not.1 (fun hn => c3 (bne_iff_ne.2 hn))) | exact beq_iff_eq.2 (Decidable.not_not.1 (fun hn => c3 (bne_iff_ne.2 hn))) | exact decide_eq_false (bne_iff_ne.1 c3) | exact beq_eq_false_iff_ne.2 (bne_iff_ne.1 c3) | exact bne_iff_ne.1 c3))
   (try (have c3b2 : (a0_0 == t179 && (a0_1 == t180 && (a0_2 == t181))) = true := by first | (simpa using c3) | exact decide_eq_true (Decidable.not_not.1 (fun hn => c3 (bne_iff_ne.2 hn))) | exact beq_iff_eq.2 (Decidable.not_not.1 (fun hn => c3 (bne_iff_ne.2 hn))) | exact decide_eq_false (bne_iff_ne.1 c3) | exact beq_eq_false_iff_ne.2 (bne_iff_ne.1 c3) | exact bne_iff_ne.1 c3))
   clear c3
   simp only [Option.some.injEq, Prod.mk.injEq] at H
   obtain ⟨rfl, rfl, rfl, rfl⟩ := H
   go_enter Tryd.func16, Tryd.ntmps16
   try go_wp2_with (first | ((with_reducible refine gate_dst (N := 1) rfl ?_); refine zx 1 #[.bool a0_0, .int .u64 a0_1, .int .u64 a0_2] 25 ?_; intro gb177 hg w4 hbox hb; have BK177 := Aside0.mk (hbox); have GW177 := Aside0.mk ((by rw [hg]; exact (below_size (zB HB)) : w.heap.size ≤ gb177)); have GE177 := Aside0.mk ((by rw [hg]; exact (below_size (zB HB)) : w.heap.size ≤ gb177)); replace HB := Aside0.mk (below_step (zB HB) hb); clear hb hbox hg) | ((with_reducible refine gate_dst (N := 2) rfl ?_); refine zx 2 #[.bool false, .int .u64 0, .int .u64 0] 25 ?_; intro gb178 hg w5 hbox hb; have BK178 := Aside0.mk (hbox); have GW178 := Aside0.mk ((by rw [hg]; exact (below_size (zB HB)) : w.heap.size ≤ gb178)); have GE178 := Aside0.mk ((by rw [hg]; exact (below_size (zB HB)) : w.heap.size ≤ gb178)); replace HB := Aside0.mk (below_step (zB HB) hb); have NB177_178 := Aside0.mk ((by rw [hg]; exact Nat.ne_of_lt (blk_lt (g := gb177) (o := .cells #[.bool a0_0, .int .u64 a0_1, .int .u64 a0_2] 25 (0, 0)) (zK BK177)) : gb177 ≠ gb178)); have NB178_177 := Aside0.mk ((by rw [hg]; exact Nat.ne_of_gt (blk_lt (g := gb177) (o := .cells #[.bool a0_0, .int .u64 a0_1, .int .u64 a0_2] 25 (0, 0)) (zK BK177)) : gb178 ≠ gb177)); replace BK177 := Aside0.mk (blk_below (g := gb177) (o := .cells #[.bool a0_0, .int .u64 a0_1, .int .u64 a0_2] 25 (0, 0)) (zK BK177) hb); clear hb hbox hg))
   replace BK177 := Aside0.mk (blk_drew BK177.out)
   replace BK178 := Aside0.mk (blk_drew BK178.out)
   replace HB := Aside0.mk (below_drew1 HB.out)
   refine start_ (n := 5) (S := fun w' => w'.cell? ⟨gb177, 0, none⟩ = some (.bool a0_0) ∧ w'.cell? ⟨gb177, 1, none⟩ = some (.int .u64 a0_1) ∧ w'.cell? ⟨gb177, 2, none⟩ = some (.int .u64 a0_2)) (ds := []) #[false, false, false, false, false] (by kernel_rfl) rfl rfl ⟨zc BK177 0, zc BK177 1, zc BK177 2⟩ (fun hHeld => ?_)
   generalize w5.drew = w6 at BK177 BK178 HB hHeld ⊢
   refine zp0 1 5 ?_; refine zt0 0 4 hHeld ?_; refine zt0 2 6 hHeld ?_; refine zo0 3 7 (fun K hK => ?_)
   refine zg Tryd.func49 #[.bool a0_0] ?_
   with_reducible refine (address_last.calls a0_0 t179 t180 t181 _ A2.out).mono ?_
   rintro e w7 ⟨rfl, hb⟩
   refine ⟨_, rfl, ?_⟩
   replace BK177 := Aside0.mk (blk_below (g := gb177) (o := .cells #[.bool a0_0, .int .u64 a0_1, .int .u64 a0_2] 25 (0, 0)) (zK BK177) hb)
   replace BK178 := Aside0.mk (blk_below (g := gb178) (o := .cells #[.bool false, .int .u64 0, .int .u64 0] 25 (0, 0)) (zK BK178) hb)
   replace HB := Aside0.mk (below_step (zB HB) hb)
   (try clear hb)
   refine hK.out _ _ ⟨zc BK177 0, zc BK177 1, zc BK177 2⟩ (fun hHeld => ?_)
   clear hK K
   refine zn 7 ?_; refine zp0 4 8 ?_; refine zd0 ?_
   have hnb8 := NB178_177.out
   have hnc8 := NB177_178.out
   obtain ⟨hcz9_0, hcz9_1, hcz9_2⟩ := zc3 BK178
   obtain ⟨hfz9_0, hfz9_1, hfz9_2⟩ := zf3 BK178
   try go_wp2
   refine bodyPost_ret (results_ct rfl _ _ gb178 25 #[.bool false, .int .u64 0, .int .u64 0] (0, 0) _ rfl (by refine zL ?_; refine blk_put (cs := #[.bool false, .int .u64 0, .int .u64 0]) ?_ 2 _ rfl; refine zL ?_; refine blk_put (cs := #[.bool false, .int .u64 0, .int .u64 0]) ?_ 1 _ rfl; refine zL ?_; refine blk_put (cs := #[.bool false, .int .u64 0, .int .u64 0]) ?_ 0 _ rfl; refine zL ?_; exact BK178.out) Tryd.underlying25 rfl (by kernel_rfl)) rfl ?_
   exact ⟨by first | rfl | (simp [errW_none, errW_some] <;> rfl) | (simp [*, errW_none, errW_some] <;> rfl), by repeat (first | (with_reducible first | exact HB.out | apply below_alloc | apply pw_below_drewN | apply below_drew1 | refine below_set ?_ GE177.out | refine below_set ?_ GE178.out) | exact HB.out)⟩
 · rw [if_neg c3] at H
   have c3b0 : (a0_0 == t179 && (a0_1 == t180 && (a0_2 == t181))) = false := by simpa using c3
   (try (have c3b1 : decide (a0_0 = t179 && (a0_1 == t180 && (a0_2 == t181))) = false := by first | (simpa using c3) | exact decide_eq_true (Decidable.not_not.1 (fun hn => c3 (bne_iff_ne.2 hn))) | exact beq_iff_eq.2 (Decidable.not_not.1 (fun hn => c3 (bne_iff_ne.2 hn))) | exact decide_eq_false (bne_iff_ne.1 c3) | exact beq_eq_false_iff_ne.2 (bne_iff_ne.1 c3) | exact bne_iff_ne.1 c3))
   (try (have c3b2 : (a0_0 == t179 && (a0_1 == t180 && (a0_2 == t181))) = false := by first | (simpa using c3) | exact decide_eq_true (Decidable.not_not.1 (fun hn => c3 (bne_iff_ne.2 hn))) | exact beq_iff_eq.2 (Decidable.not_not.1 (fun hn => c3 (bne_iff_ne.2 hn))) | exact decide_eq_false (bne_iff_ne.1 c3) | exact beq_eq_false_iff_ne.2 (bne_iff_ne.1 c3) | exact bne_iff_ne.1 c3))
   (try (have c3b3 : ¬ (a0_0 = t179 && (a0_1 == t180 && (a0_2 == t181))) := by first | (simpa using c3) | exact decide_eq_true (Decidable.not_not.1 (fun hn => c3 (bne_iff_ne.2 hn))) | exact beq_iff_eq.2 (Decidable.not_not.1 (fun hn => c3 (bne_iff_ne.2 hn))) | exact decide_eq_false (bne_iff_ne.1 c3) | exact beq_eq_false_iff_ne.2 (bne_iff_ne.1 c3) | exact bne_iff_ne.1 c3))
   clear c3
   by_cases c10 : (IntKind.u64.wrap (a0_2 + 1)) = 0
   · rw [if_pos c10] at H
     have c10b0 : ((IntKind.u64.wrap (a0_2 + 1)) == 0) = true := beq_iff_eq.mpr c10
     have c10b1 : ((IntKind.u64.wrap (a0_2 + 1)) != 0) = false := bne_eq_false_iff_eq.mpr c10
     clear c10
     simp only [Option.some.injEq, Prod.mk.injEq] at H
     obtain ⟨rfl, rfl, rfl, rfl⟩ := H
     go_enter Tryd.func16, Tryd.ntmps16
     try go_wp2_with (first | ((with_reducible refine gate_dst (N := 1) rfl ?_); refine zx 1 #[.bool a0_0, .int .u64 a0_1, .int .u64 a0_2] 25 ?_; intro gb177 hg w11 hbox hb; have BK177 := Aside0.mk (hbox); have GW177 := Aside0.mk ((by rw [hg]; exact (below_size (zB HB)) : w.heap.size ≤ gb177)); have GE177 := Aside0.mk ((by rw [hg]; exact (below_size (zB HB)) : w.heap.size ≤ gb177)); replace HB := Aside0.mk (below_step (zB HB) hb); clear hb hbox hg) | ((with_reducible refine gate_dst (N := 2) rfl ?_); refine zx 2 #[.bool false, .int .u64 0, .int .u64 0] 25 ?_; intro gb178 hg w12 hbox hb; have BK178 := Aside0.mk (hbox); have GW178 := Aside0.mk ((by rw [hg]; exact (below_size (zB HB)) : w.heap.size ≤ gb178)); have GE178 := Aside0.mk ((by rw [hg]; exact (below_size (zB HB)) : w.heap.size ≤ gb178)); replace HB := Aside0.mk (below_step (zB HB) hb); have NB177_178 := Aside0.mk ((by rw [hg]; exact Nat.ne_of_lt (blk_lt (g := gb177) (o := .cells #[.bool a0_0, .int .u64 a0_1, .int .u64 a0_2] 25 (0, 0)) (zK BK177)) : gb177 ≠ gb178)); have NB178_177 := Aside0.mk ((by rw [hg]; exact Nat.ne_of_gt (blk_lt (g := gb177) (o := .cells #[.bool a0_0, .int .u64 a0_1, .int .u64 a0_2] 25 (0, 0)) (zK BK177)) : gb178 ≠ gb177)); replace BK177 := Aside0.mk (blk_below (g := gb177) (o := .cells #[.bool a0_0, .int .u64 a0_1, .int .u64 a0_2] 25 (0, 0)) (zK BK177) hb); clear hb hbox hg))
     replace BK177 := Aside0.mk (blk_drew BK177.out)
     replace BK178 := Aside0.mk (blk_drew BK178.out)
     replace HB := Aside0.mk (below_drew1 HB.out)
     refine start_ (n := 5) (S := fun w' => w'.cell? ⟨gb177, 0, none⟩ = some (.bool a0_0) ∧ w'.cell? ⟨gb177, 1, none⟩ = some (.int .u64 a0_1) ∧ w'.cell? ⟨gb177, 2, none⟩ = some (.int .u64 a0_2)) (ds := []) #[false, false, false, false, false] (by kernel_rfl) rfl rfl ⟨zc BK177 0, zc BK177 1, zc BK177 2⟩ (fun hHeld => ?_)
     generalize w12.drew = w13 at BK177 BK178 HB hHeld ⊢
     refine zp0 1 5 ?_; refine zt0 0 4 hHeld ?_; refine zt0 2 6 hHeld ?_; refine zo0 3 7 (fun K hK => ?_)
     refine zg Tryd.func49 #[.bool a0_0] ?_
     with_reducible refine (address_last.calls a0_0 t179 t180 t181 _ A2.out).mono ?_
     rintro e w14 ⟨rfl, hb⟩
     refine ⟨_, rfl, ?_⟩
     replace BK177 := Aside0.mk (blk_below (g := gb177) (o := .cells #[.bool a0_0, .int .u64 a0_1, .int .u64 a0_2] 25 (0, 0)) (zK BK177) hb)
     replace BK178 := Aside0.mk (blk_below (g := gb178) (o := .cells #[.bool false, .int .u64 0, .int .u64 0] 25 (0, 0)) (zK BK178) hb)
     replace HB := Aside0.mk (below_step (zB HB) hb)
     (try clear hb)
     refine hK.out _ _ ⟨zc BK177 0, zc BK177 1, zc BK177 2⟩ (fun hHeld => ?_)
     clear hK K
     refine zn 7 ?_; refine zp0 4 8 ?_; refine zd0 ?_
     have hnb15 := NB177_178.out
     have hnc15 := NB178_177.out
     obtain ⟨hcz16_0, hcz16_1, hcz16_2⟩ := zc3 BK177
     obtain ⟨hfz16_0, hfz16_1, hfz16_2⟩ := zf3 BK177
     obtain ⟨hcz17_0, hcz17_1, hcz17_2⟩ := zc3 BK178
     obtain ⟨hfz17_0, hfz17_1, hfz17_2⟩ := zf3 BK178
     try go_wp2
     refine bodyPost_ret (results_ct rfl _ _ gb178 25 #[.bool a0_0, .int .u64 (IntKind.u64.wrap (a0_1 + 1)), .int .u64 (IntKind.u64.wrap (a0_2 + 1))] (0, 0) _ rfl (by refine zL ?_; refine blk_put (cs := #[.bool a0_0, .int .u64 (IntKind.u64.wrap (a0_1 + 1)), .int .u64 0]) ?_ 2 _ rfl; refine zL ?_; refine blk_put (cs := #[.bool a0_0, .int .u64 0, .int .u64 0]) ?_ 1 _ rfl; refine zL ?_; refine blk_put (cs := #[.bool false, .int .u64 0, .int .u64 0]) ?_ 0 _ rfl; refine zL ?_; refine blk_far ?_ NB178_177.out _; refine zL ?_; refine blk_far ?_ NB178_177.out _; refine zL ?_; exact BK178.out) Tryd.underlying25 rfl (by kernel_rfl)) rfl ?_
     exact ⟨by first | rfl | (simp [errW_none, errW_some] <;> rfl) | (simp [*, errW_none, errW_some] <;> rfl), by repeat (first | (with_reducible first | exact HB.out | apply below_alloc | apply pw_below_drewN | apply below_drew1 | refine below_set ?_ GE177.out | refine below_set ?_ GE178.out) | exact HB.out)⟩
   · rw [if_neg c10] at H
     have c10b0 : ((IntKind.u64.wrap (a0_2 + 1)) == 0) = false := beq_eq_false_iff_ne.mpr c10
     have c10b1 : ((IntKind.u64.wrap (a0_2 + 1)) != 0) = true := bne_iff_ne.mpr c10
     simp only [Option.some.injEq, Prod.mk.injEq] at H
     obtain ⟨rfl, rfl, rfl, rfl⟩ := H
     go_enter Tryd.func16, Tryd.ntmps16
     try go_wp2_with (first | ((with_reducible refine gate_dst (N := 1) rfl ?_); refine zx 1 #[.bool a0_0, .int .u64 a0_1, .int .u64 a0_2] 25 ?_; intro gb177 hg w18 hbox hb; have BK177 := Aside0.mk (hbox); have GW177 := Aside0.mk ((by rw [hg]; exact (below_size (zB HB)) : w.heap.size ≤ gb177)); have GE177 := Aside0.mk ((by rw [hg]; exact (below_size (zB HB)) : w.heap.size ≤ gb177)); replace HB := Aside0.mk (below_step (zB HB) hb); clear hb hbox hg) | ((with_reducible refine gate_dst (N := 2) rfl ?_); refine zx 2 #[.bool false, .int .u64 0, .int .u64 0] 25 ?_; intro gb178 hg w19 hbox hb; have BK178 := Aside0.mk (hbox); have GW178 := Aside0.mk ((by rw [hg]; exact (below_size (zB HB)) : w.heap.size ≤ gb178)); have GE178 := Aside0.mk ((by rw [hg]; exact (below_size (zB HB)) : w.heap.size ≤ gb178)); replace HB := Aside0.mk (below_step (zB HB) hb); have NB177_178 := Aside0.mk ((by rw [hg]; exact Nat.ne_of_lt (blk_lt (g := gb177) (o := .cells #[.bool a0_0, .int .u64 a0_1, .int .u64 a0_2] 25 (0, 0)) (zK BK177)) : gb177 ≠ gb178)); have NB178_177 := Aside0.mk ((by rw [hg]; exact Nat.ne_of_gt (blk_lt (g := gb177) (o := .cells #[.bool a0_0, .int .u64 a0_1, .int .u64 a0_2] 25 (0, 0)) (zK BK177)) : gb178 ≠ gb177)); replace BK177 := Aside0.mk (blk_below (g := gb177) (o := .cells #[.bool a0_0, .int .u64 a0_1, .int .u64 a0_2] 25 (0, 0)) (zK BK177) hb); clear hb hbox hg))
     replace BK177 := Aside0.mk (blk_drew BK177.out)
     replace BK178 := Aside0.mk (blk_drew BK178.out)
     replace HB := Aside0.mk (below_drew1 HB.out)
     refine start_ (n := 5) (S := fun w' => w'.cell? ⟨gb177, 0, none⟩ = some (.bool a0_0) ∧ w'.cell? ⟨gb177, 1, none⟩ = some (.int .u64 a0_1) ∧ w'.cell? ⟨gb177, 2, none⟩ = some (.int .u64 a0_2)) (ds := []) #[false, false, false, false, false] (by kernel_rfl) rfl rfl ⟨zc BK177 0, zc BK177 1, zc BK177 2⟩ (fun hHeld => ?_)
     generalize w19.drew = w20 at BK177 BK178 HB hHeld ⊢
     refine zp0 1 5 ?_; refine zt0 0 4 hHeld ?_; refine zt0 2 6 hHeld ?_; refine zo0 3 7 (fun K hK => ?_)
     refine zg Tryd.func49 #[.bool a0_0] ?_
     with_reducible refine (address_last.calls a0_0 t179 t180 t181 _ A2.out).mono ?_
     rintro e w21 ⟨rfl, hb⟩
     refine ⟨_, rfl, ?_⟩
     replace BK177 := Aside0.mk (blk_below (g := gb177) (o := .cells #[.bool a0_0, .int .u64 a0_1, .int .u64 a0_2] 25 (0, 0)) (zK BK177) hb)
     replace BK178 := Aside0.mk (blk_below (g := gb178) (o := .cells #[.bool false, .int .u64 0, .int .u64 0] 25 (0, 0)) (zK BK178) hb)
     replace HB := Aside0.mk (below_step (zB HB) hb)
     (try clear hb)
     refine hK.out _ _ ⟨zc BK177 0, zc BK177 1, zc BK177 2⟩ (fun hHeld => ?_)
     clear hK K
     refine zn 7 ?_; refine zp0 4 8 ?_; refine zd0 ?_
     have hnb22 := NB177_178.out
     have hnc22 := NB178_177.out
     obtain ⟨hcz23_0, hcz23_1, hcz23_2⟩ := zc3 BK177
     obtain ⟨hfz23_0, hfz23_1, hfz23_2⟩ := zf3 BK177
     obtain ⟨hcz24_0, hcz24_1, hcz24_2⟩ := zc3 BK178
     obtain ⟨hfz24_0, hfz24_1, hfz24_2⟩ := zf3 BK178
     try go_wp2
     refine bodyPost_ret (results_ct rfl _ _ gb178 25 #[.bool a0_0, .int .u64 a0_1, .int .u64 (IntKind.u64.wrap (a0_2 + 1))] (0, 0) _ rfl (by refine zL ?_; refine blk_put (cs := #[.bool a0_0, .int .u64 a0_1, .int .u64 0]) ?_ 2 _ rfl; refine zL ?_; refine blk_put (cs := #[.bool a0_0, .int .u64 0, .int .u64 0]) ?_ 1 _ rfl; refine zL ?_; refine blk_put (cs := #[.bool false, .int .u64 0, .int .u64 0]) ?_ 0 _ rfl; refine zL ?_; refine blk_far ?_ NB178_177.out _; refine zL ?_; exact BK178.out) Tryd.underlying25 rfl (by kernel_rfl)) rfl ?_
     exact ⟨by first | rfl | (simp [errW_none, errW_some] <;> rfl) | (simp [*, errW_none, errW_some] <;> rfl), by repeat (first | (with_reducible first | exact HB.out | apply below_alloc | apply pw_below_drewN | apply below_drew1 | refine below_set ?_ GE177.out | refine below_set ?_ GE178.out) | exact HB.out)⟩
end Go.Proofs.YtlgfinnldhjgeaaDoor.Q
end

section
set_option linter.unusedVariables false
set_option linter.unusedSimpArgs false
namespace Go.Proofs.YtlgfinnldhjgeaaDoor.Q
open Go.RowKit Go.Sort Go.Lib Go.Proofs.YtlgfinnldhjgeaaDoorW.PrintWords Go.Proofs.YtlgfinnldhjgeaaDoorW.PrintLast Go.Proofs.YtlgfinnldhjgeaaDoorW.PrintMore
def cmpA (a b : S25) : Int := if a.f0 = b.f0 then (if a.f1 = b.f1 then (if a.f2 = b.f2 then 0 else if a.f2 < b.f2 then -1 else 1) else if a.f1 < b.f1 then -1 else 1) else if b.f0 = true then -1 else 1
def address_Compare.f (a0_0 : Bool) (a0_1 : Int) (a0_2 : Int) (a1_0 : Bool) (a1_1 : Int) (a1_2 : Int) : Option (Int) := some (cmpA ⟨a0_0, a0_1, a0_2⟩ ⟨a1_0, a1_1, a1_2⟩)
set_option maxHeartbeats 2000000 in
set_option maxRecDepth 100000 in
theorem compareX (a b : S25) (w : World) :
    Calls Tryd.prog 18 #[.agg #[.bool a.f0, .int .u64 a.f1, .int .u64 a.f2], .agg #[.bool b.f0, .int .u64 b.f1, .int .u64 b.f2]] w fun e w' => e = .returned (.int .i64 (cmpA a b)) ∧ ∃ q os', w' = grow (w.drewN q) os' := by
  obtain ⟨a0, a1, a2⟩ := a
  obtain ⟨b0, b1, b2⟩ := b
  have hu := Tryd.underlying25
  by_cases h0 : a0 = b0
  · subst h0
    by_cases h1 : a1 = b1
    · subst h1
      by_cases h2 : a2 = b2
      · subst h2
        rw [show cmpA ⟨a0, a1, a2⟩ ⟨a0, a1, a2⟩ = 0 by simp [cmpA]]
        cases a0 <;>
        · go_enter Tryd.func18, Tryd.ntmps18
          go_wp2
          go_ret
          exact ⟨rfl, 0, _, by rw [alloc_eq_grow, alloc_eq_grow, grow_grow]; rfl⟩
      · have e1 : (a2 == b2) = false := by simpa using h2
        have e2 : decide (a2 = b2) = false := by simpa using h2
        by_cases h3 : a2 < b2
        · rw [show cmpA ⟨a0, a1, a2⟩ ⟨a0, a1, b2⟩ = -1 by simp [cmpA, h2, h3]]
          have e3 : decide (a2 < b2) = true := by simpa using h3
          cases a0 <;>
          · go_enter Tryd.func18, Tryd.ntmps18
            go_wp2
            go_ret
            exact ⟨rfl, 0, _, by rw [alloc_eq_grow, alloc_eq_grow, grow_grow]; rfl⟩
        · rw [show cmpA ⟨a0, a1, a2⟩ ⟨a0, a1, b2⟩ = 1 by simp [cmpA, h2, h3]]
          have e3 : decide (a2 < b2) = false := by simpa using h3
          cases a0 <;>
          · go_enter Tryd.func18, Tryd.ntmps18
            go_wp2
            go_ret
            exact ⟨rfl, 0, _, by rw [alloc_eq_grow, alloc_eq_grow, grow_grow]; rfl⟩
    · have e1 : (a1 == b1) = false := by simpa using h1
      have e2 : decide (a1 = b1) = false := by simpa using h1
      have e4 : (a1 != b1) = true := by simpa using h1
      by_cases h3 : a1 < b1
      · rw [show cmpA ⟨a0, a1, a2⟩ ⟨a0, b1, b2⟩ = -1 by simp [cmpA, h1, h3]]
        have e3 : decide (a1 < b1) = true := by simpa using h3
        cases a0 <;>
        · go_enter Tryd.func18, Tryd.ntmps18
          go_wp2
          go_ret
          exact ⟨rfl, 0, _, by rw [alloc_eq_grow, alloc_eq_grow, grow_grow]; rfl⟩
      · rw [show cmpA ⟨a0, a1, a2⟩ ⟨a0, b1, b2⟩ = 1 by simp [cmpA, h1, h3]]
        have e3 : decide (a1 < b1) = false := by simpa using h3
        cases a0 <;>
        · go_enter Tryd.func18, Tryd.ntmps18
          go_wp2
          go_ret
          exact ⟨rfl, 0, _, by rw [alloc_eq_grow, alloc_eq_grow, grow_grow]; rfl⟩
  · cases b0
    · have ha : a0 = true := by simpa using h0
      subst ha
      rw [show cmpA ⟨true, a1, a2⟩ ⟨false, b1, b2⟩ = 1 by simp [cmpA]]
      clear h0
      go_enter Tryd.func18, Tryd.ntmps18
      go_wp2
      go_ret
      exact ⟨rfl, 0, _, by rw [alloc_eq_grow, alloc_eq_grow, grow_grow]; rfl⟩
    · have ha : a0 = false := by simpa using h0
      subst ha
      rw [show cmpA ⟨false, a1, a2⟩ ⟨true, b1, b2⟩ = -1 by simp [cmpA]]
      clear h0
      go_enter Tryd.func18, Tryd.ntmps18
      go_wp2
      go_ret
      exact ⟨rfl, 0, _, by rw [alloc_eq_grow, alloc_eq_grow, grow_grow]; rfl⟩
theorem address_Compare.calls (a0_0 : Bool) (a0_1 : Int) (a0_2 : Int) (a1_0 : Bool) (a1_1 : Int) (a1_2 : Int) (r : Int) (w : World) (h : address_Compare.f a0_0 a0_1 a0_2 a1_0 a1_1 a1_2 = some r) :
    Calls Tryd.prog 18 #[.agg #[.bool a0_0, .int .u64 a0_1, .int .u64 a0_2], .agg #[.bool a1_0, .int .u64 a1_1, .int .u64 a1_2]] w fun e w' => e = .returned (.int .i64 r) ∧ Below w.heap.size w w' := by
  unfold address_Compare.f at h
  injection h with h
  subst h
  refine (compareX ⟨a0_0, a0_1, a0_2⟩ ⟨a1_0, a1_1, a1_2⟩ w).mono ?_
  rintro e w' ⟨rfl, q, os, rfl⟩
  refine ⟨rfl, ?_⟩
  exact below_grow _ _ (Nat.le_refl _) _ _
end Go.Proofs.YtlgfinnldhjgeaaDoor.Q
end

section
set_option linter.unusedVariables false
set_option linter.unusedSimpArgs false
namespace Go.Proofs.YtlgfinnldhjgeaaDoor.Q
open Go.RowKit Go.Proofs.YtlgfinnldhjgeaaDoorW.PrintWords Go.Proofs.YtlgfinnldhjgeaaDoorW.PrintLast Go.Proofs.YtlgfinnldhjgeaaDoorW.PrintMore
theorem lives06.e1 : address_Parse.f 40 (⟨#[58, 58, 49, 58, 48]⟩ : ByteArray) = some (true, 0, 65536, 0) := by kernel_rfl
theorem lives06.e2 : address_ParsePrefix.f 40 (⟨#[49, 48, 46, 48, 46, 48, 46, 48, 47, 56]⟩ : ByteArray) = some (false, 0, 167772160, 8, 0) := by kernel_rfl
theorem lives06.e3 : address_Parse.f 40 (⟨#[49, 48, 46, 49, 46, 50, 46, 51]⟩ : ByteArray) = some (false, 0, 167838211, 0) := by kernel_rfl
theorem lives06.e4 : address_Next.f false 0 255 = some (false, 0, 256, true) := by kernel_rfl
theorem lives06.e5 : address_Contains.f false 0 167772160 8 false 0 167838211 = some true := by kernel_rfl
theorem lives06.e6 : address_Format.f false 0 167838211 = some ⟨#[49, 48, 46, 49, 46, 50, 46, 51]⟩ := by kernel_rfl
theorem lives06.e7 : address_Format.f true 0 65536 = some ⟨#[58, 58, 49, 58, 48]⟩ := by kernel_rfl
theorem lives06.e8 : address_Compare.f false 0 167838211 true 0 65536 = some (-1) := by kernel_rfl
theorem lives06.e9 : address_Valid.f false 0 167838211 = some true := by kernel_rfl
def intrusionlaw06_lives.f : Option Bool := some true
set_option maxHeartbeats 4000000 in
set_option maxRecDepth 100000 in
theorem intrusionlaw06_lives.calls (r : Bool) (w : World) (h : intrusionlaw06_lives.f = some r) (hW : WOK w) :
    Calls Tryd.prog 10 #[] w fun e w' => e = .returned (.bool r) ∧ Below w.heap.size w w' := by
  injection h with h
  subst h
  have HW := Aside0.mk hW
  have HB : Aside0 (Below w.heap.size w w) := ⟨Below.refl _ _⟩
  clear hW
  go_enter Tryd.func10, Tryd.ntmps10
  go_wp2_with fail
  refine (address_Parse.calls 40 _ _ _ _ _ _ lives06.e1 (HW.out.below HB.out)).mono ?_
  rintro e w1 ⟨rfl, hb⟩
  replace HB := Aside0.mk (below_step HB.out hb)
  clear hb
  have HXa : Aside0 ((w1.alloc (.cells #[.bool true, .int .u64 0, .int .u64 65536] 25)).heap[w1.heap.size]? = some (.cells #[.bool true, .int .u64 0, .int .u64 65536] 25 (0, 0))) := ⟨heap_alloc_new _ _⟩
  replace HB := Aside0.mk (below_alloc HB.out (.cells #[.bool true, .int .u64 0, .int .u64 65536] 25))
  go_wp2_with fail
  obtain ⟨ga, hg⟩ : ∃ g, w1.heap.size = g := ⟨_, rfl⟩
  rw [hg] at HXa
  simp only [hg]
  clear hg
  generalize w1.alloc (.cells #[.bool true, .int .u64 0, .int .u64 65536] 25) = Wa at HXa HB ⊢
  refine (address_ParsePrefix.calls 40 _ _ _ _ _ _ _ lives06.e2 (HW.out.below HB.out)).mono ?_
  rintro e w2 ⟨rfl, hb⟩
  replace HB := Aside0.mk (below_step HB.out hb)
  replace HXa := Aside0.mk (blk_below HXa.out hb)
  clear hb
  have HXp : Aside0 ((w2.alloc (.cells #[.bool false, .int .u64 0, .int .u64 167772160, .int .i64 8] 30)).heap[w2.heap.size]? = some (.cells #[.bool false, .int .u64 0, .int .u64 167772160, .int .i64 8] 30 (0, 0))) := ⟨heap_alloc_new _ _⟩
  replace HXa := Aside0.mk (blk_alloc HXa.out (.cells #[.bool false, .int .u64 0, .int .u64 167772160, .int .i64 8] 30))
  replace HB := Aside0.mk (below_alloc HB.out (.cells #[.bool false, .int .u64 0, .int .u64 167772160, .int .i64 8] 30))
  go_wp2_with fail
  obtain ⟨gp, hg⟩ : ∃ g, w2.heap.size = g := ⟨_, rfl⟩
  rw [hg] at HXp
  simp only [hg]
  clear hg
  generalize w2.alloc (.cells #[.bool false, .int .u64 0, .int .u64 167772160, .int .i64 8] 30) = Wp at HXa HXp HB ⊢
  refine (address_Parse.calls 40 _ _ _ _ _ _ lives06.e3 (HW.out.below HB.out)).mono ?_
  rintro e w3 ⟨rfl, hb⟩
  replace HB := Aside0.mk (below_step HB.out hb)
  replace HXa := Aside0.mk (blk_below HXa.out hb)
  replace HXp := Aside0.mk (blk_below HXp.out hb)
  clear hb
  have HXb : Aside0 ((w3.alloc (.cells #[.bool false, .int .u64 0, .int .u64 167838211] 25)).heap[w3.heap.size]? = some (.cells #[.bool false, .int .u64 0, .int .u64 167838211] 25 (0, 0))) := ⟨heap_alloc_new _ _⟩
  replace HXa := Aside0.mk (blk_alloc HXa.out (.cells #[.bool false, .int .u64 0, .int .u64 167838211] 25))
  replace HXp := Aside0.mk (blk_alloc HXp.out (.cells #[.bool false, .int .u64 0, .int .u64 167838211] 25))
  replace HB := Aside0.mk (below_alloc HB.out (.cells #[.bool false, .int .u64 0, .int .u64 167838211] 25))
  go_wp2_with fail
  obtain ⟨gb, hg⟩ : ∃ g, w3.heap.size = g := ⟨_, rfl⟩
  rw [hg] at HXb
  simp only [hg]
  clear hg
  generalize w3.alloc (.cells #[.bool false, .int .u64 0, .int .u64 167838211] 25) = Wb at HXa HXp HXb HB ⊢
  refine (address_Next.calls _ _ _ _ _ _ _ _ lives06.e4).mono ?_
  rintro e w4 ⟨rfl, hb⟩
  replace HB := Aside0.mk (below_step HB.out hb)
  replace HXa := Aside0.mk (blk_below HXa.out hb)
  replace HXp := Aside0.mk (blk_below HXp.out hb)
  replace HXb := Aside0.mk (blk_below HXb.out hb)
  clear hb
  have HXn : Aside0 ((w4.alloc (.cells #[.bool false, .int .u64 0, .int .u64 256] 25)).heap[w4.heap.size]? = some (.cells #[.bool false, .int .u64 0, .int .u64 256] 25 (0, 0))) := ⟨heap_alloc_new _ _⟩
  replace HXa := Aside0.mk (blk_alloc HXa.out (.cells #[.bool false, .int .u64 0, .int .u64 256] 25))
  replace HXp := Aside0.mk (blk_alloc HXp.out (.cells #[.bool false, .int .u64 0, .int .u64 256] 25))
  replace HXb := Aside0.mk (blk_alloc HXb.out (.cells #[.bool false, .int .u64 0, .int .u64 256] 25))
  replace HB := Aside0.mk (below_alloc HB.out (.cells #[.bool false, .int .u64 0, .int .u64 256] 25))
  go_upto_region 5 with (fail)
  obtain ⟨gn, hg⟩ : ∃ g, w4.heap.size = g := ⟨_, rfl⟩
  rw [hg] at HXn
  simp only [hg]
  clear hg
  generalize w4.alloc (.cells #[.bool false, .int .u64 0, .int .u64 256] 25) = Wn at HXa HXp HXb HXn HB ⊢
  obtain ⟨ca0, ca1, ca2⟩ := zc3 HXa
  obtain ⟨cp0, cp1, cp2, cp3⟩ := zc4 HXp
  obtain ⟨cb0, cb1, cb2⟩ := zc3 HXb
  obtain ⟨cn0, cn1, cn2⟩ := zc3 HXn
  go_wp2_with fail
  clear ca0 ca1 ca2
  clear cp0 cp1 cp2 cp3
  clear cb0 cb1 cb2
  clear cn0 cn1 cn2
  refine (address_Contains.calls _ _ _ _ _ _ _ _ _ lives06.e5).mono ?_
  rintro e w5 ⟨rfl, hb⟩
  replace HB := Aside0.mk (below_step HB.out hb)
  replace HXa := Aside0.mk (blk_below HXa.out hb)
  replace HXp := Aside0.mk (blk_below HXp.out hb)
  replace HXb := Aside0.mk (blk_below HXb.out hb)
  replace HXn := Aside0.mk (blk_below HXn.out hb)
  clear hb
  obtain ⟨ca0, ca1, ca2⟩ := zc3 HXa
  obtain ⟨cp0, cp1, cp2, cp3⟩ := zc4 HXp
  obtain ⟨cb0, cb1, cb2⟩ := zc3 HXb
  obtain ⟨cn0, cn1, cn2⟩ := zc3 HXn
  go_wp2_with fail
  clear ca0 ca1 ca2
  clear cp0 cp1 cp2 cp3
  clear cb0 cb1 cb2
  clear cn0 cn1 cn2
  refine (address_Valid.calls _ _ _ _ _ lives06.e9).mono ?_
  rintro e w6 ⟨rfl, hb⟩
  replace HB := Aside0.mk (below_step HB.out hb)
  replace HXa := Aside0.mk (blk_below HXa.out hb)
  replace HXp := Aside0.mk (blk_below HXp.out hb)
  replace HXb := Aside0.mk (blk_below HXb.out hb)
  replace HXn := Aside0.mk (blk_below HXn.out hb)
  clear hb
  obtain ⟨ca0, ca1, ca2⟩ := zc3 HXa
  obtain ⟨cp0, cp1, cp2, cp3⟩ := zc4 HXp
  obtain ⟨cb0, cb1, cb2⟩ := zc3 HXb
  obtain ⟨cn0, cn1, cn2⟩ := zc3 HXn
  go_wp2_with fail
  clear ca0 ca1 ca2
  clear cp0 cp1 cp2 cp3
  clear cb0 cb1 cb2
  clear cn0 cn1 cn2
  refine (address_Format.calls _ _ _ _ _ lives06.e6 (HW.out.below HB.out)).mono ?_
  rintro e w7 ⟨rfl, hb⟩
  replace HB := Aside0.mk (below_step HB.out hb)
  replace HXa := Aside0.mk (blk_below HXa.out hb)
  replace HXp := Aside0.mk (blk_below HXp.out hb)
  replace HXb := Aside0.mk (blk_below HXb.out hb)
  replace HXn := Aside0.mk (blk_below HXn.out hb)
  clear hb
  obtain ⟨ca0, ca1, ca2⟩ := zc3 HXa
  obtain ⟨cp0, cp1, cp2, cp3⟩ := zc4 HXp
  obtain ⟨cb0, cb1, cb2⟩ := zc3 HXb
  obtain ⟨cn0, cn1, cn2⟩ := zc3 HXn
  go_wp2_with fail
  clear ca0 ca1 ca2
  clear cp0 cp1 cp2 cp3
  clear cb0 cb1 cb2
  clear cn0 cn1 cn2
  refine (address_Format.calls _ _ _ _ _ lives06.e7 (HW.out.below HB.out)).mono ?_
  rintro e w8 ⟨rfl, hb⟩
  replace HB := Aside0.mk (below_step HB.out hb)
  replace HXa := Aside0.mk (blk_below HXa.out hb)
  replace HXp := Aside0.mk (blk_below HXp.out hb)
  replace HXb := Aside0.mk (blk_below HXb.out hb)
  replace HXn := Aside0.mk (blk_below HXn.out hb)
  clear hb
  obtain ⟨ca0, ca1, ca2⟩ := zc3 HXa
  obtain ⟨cp0, cp1, cp2, cp3⟩ := zc4 HXp
  obtain ⟨cb0, cb1, cb2⟩ := zc3 HXb
  obtain ⟨cn0, cn1, cn2⟩ := zc3 HXn
  go_wp2_with fail
  clear ca0 ca1 ca2
  clear cp0 cp1 cp2 cp3
  clear cb0 cb1 cb2
  clear cn0 cn1 cn2
  refine (address_Compare.calls _ _ _ _ _ _ _ _ lives06.e8).mono ?_
  rintro e w9 ⟨rfl, hb⟩
  replace HB := Aside0.mk (below_step HB.out hb)
  replace HXa := Aside0.mk (blk_below HXa.out hb)
  replace HXp := Aside0.mk (blk_below HXp.out hb)
  replace HXb := Aside0.mk (blk_below HXb.out hb)
  replace HXn := Aside0.mk (blk_below HXn.out hb)
  clear hb
  obtain ⟨ca0, ca1, ca2⟩ := zc3 HXa
  obtain ⟨cp0, cp1, cp2, cp3⟩ := zc4 HXp
  obtain ⟨cb0, cb1, cb2⟩ := zc3 HXb
  obtain ⟨cn0, cn1, cn2⟩ := zc3 HXn
  go_wp2_with fail
  exact bodyPost_ret (v := .bool true) (by simp [results, Tryd.results10, go_sem]) rfl ⟨rfl, HB.out⟩
end Go.Proofs.YtlgfinnldhjgeaaDoor.Q
end

section
namespace Go.Proofs.YtlgfinnldhjgeaaDoor.Q
open Go.RowKit Go.Proofs.YtlgfinnldhjgeaaDoorW.PrintWords Go.Proofs.YtlgfinnldhjgeaaDoorW.PrintLast Go.Proofs.YtlgfinnldhjgeaaDoorW.PrintMore
attribute [local go_sem] max2_int min2_int max_two min_two max_three min_three max_four min_four
set_option linter.unusedVariables false
set_option linter.unusedSimpArgs false
attribute [local go_sem high] eqA25 eqA30
def intrusionlaw06_AddressRoundTrip.j0 : Nat → Int → Bool → Bool → Int → Int → Option (Bool)
  | 0, _, _, _, _, _ => none
  | k + 1, x1, x45, x518000, x518001, x518002 => if x45 = true then (some false) else ((address_MakePrefix.f x518000 x518001 x518002 x1).bind fun bt532 => (if bt532.2.2.2.2 = 0 then ((address_FormatPrefix.f bt532.1 bt532.2.1 bt532.2.2.1 bt532.2.2.2.1).bind fun t538 => ((address_ParsePrefix.f k t538).bind fun bt539 => ((address_ValidPrefix.f bt532.1 bt532.2.1 bt532.2.2.1 bt532.2.2.2.1).bind fun t545 => (if t545 = true then (if ((bt539.1 == bt532.1 && (bt539.2.1 == bt532.2.1 && (bt539.2.2.1 == bt532.2.2.1))) && (bt539.2.2.2.1 == bt532.2.2.2.1)) = true then (if bt539.2.2.2.2 = 0 then ((address_Contains.f bt532.1 bt532.2.1 bt532.2.2.1 bt532.2.2.2.1 x518000 x518001 x518002).bind fun t546 => (some t546)) else (some false)) else (some false)) else (some false))))) else (if bt532.2.2.2.2 = 4 then (some ((!bt532.1 && (bt532.2.1 == 0 && (bt532.2.2.1 == 0))) && (bt532.2.2.2.1 == 0))) else (some false))))
def intrusionlaw06_AddressRoundTrip.f (k : Nat) (a0_0 : Bool) (a0_1 : Int) (a0_2 : Int) (a1 : Int) : Option (Bool) := (intrusionlaw06_lives.f).bind fun t518 => (if t518 = true then ((address_Valid.f a0_0 a0_1 a0_2).bind fun t519 => (if t519 = true then ((address_Format.f a0_0 a0_1 a0_2).bind fun t520 => ((address_Parse.f k t520).bind fun bt521 => ((address_Bytes.f k a0_0 a0_1 a0_2).bind fun t526 => ((address_FromBytes.f k t526).bind fun bt527 => (if (!(bt521.1 == a0_0) || (!(bt521.2.1 == a0_1) || (!(bt521.2.2.1 == a0_2)))) = true then (intrusionlaw06_AddressRoundTrip.j0 k a1 true a0_0 a0_1 a0_2) else (if bt521.2.2.2 = 0 then (if (!(bt527.1 == a0_0) || (!(bt527.2.1 == a0_1) || (!(bt527.2.2.1 == a0_2)))) = true then (intrusionlaw06_AddressRoundTrip.j0 k a1 true a0_0 a0_1 a0_2) else (intrusionlaw06_AddressRoundTrip.j0 k a1 (bt527.2.2.2 != 0) a0_0 a0_1 a0_2)) else (intrusionlaw06_AddressRoundTrip.j0 k a1 true a0_0 a0_1 a0_2))))))) else (some true))) else (some false))
theorem intrusionlaw06_AddressRoundTrip.mono_l : ∀ k, (∀ y0 y1 y2 y3 y4, LeO (intrusionlaw06_AddressRoundTrip.j0 k y0 y1 y2 y3 y4) (intrusionlaw06_AddressRoundTrip.j0 (k + 1) y0 y1 y2 y3 y4))
  | 0 => fun _ _ _ _ _ r h => by simp [intrusionlaw06_AddressRoundTrip.j0] at h
  | k + 1 => by
    have ih0 := intrusionlaw06_AddressRoundTrip.mono_l k
    · intro y0 y1 y2 y3 y4
      unfold intrusionlaw06_AddressRoundTrip.j0
      repeat' first
      | (with_reducible exact ih0 _ _ _ _ _)
      | (with_reducible exact address_Bytes.mono _ _ _ _)
      | (with_reducible exact address_FromBytes.mono _ _)
      | (with_reducible exact address_Parse.mono _ _)
      | (with_reducible exact address_ParsePrefix.mono _ _)
      | (with_reducible exact LeO.refl _)
      | (with_reducible exact LeO.none _)
      | (with_reducible refine LeO.ite ?_ ?_)
      | (with_reducible refine LeO.bind ?_ (fun _ => ?_))
      | exact ih0 _ _ _ _ _
      | exact address_Bytes.mono _ _ _ _
      | exact address_FromBytes.mono _ _
      | exact address_Parse.mono _ _
      | exact address_ParsePrefix.mono _ _
      | exact LeO.none _
      | refine LeO.ite ?_ ?_
      | refine LeO.bind ?_ (fun _ => ?_)
theorem intrusionlaw06_AddressRoundTrip.mono : ∀ a0 a1 a2 a3 k, LeO (intrusionlaw06_AddressRoundTrip.f k a0 a1 a2 a3) (intrusionlaw06_AddressRoundTrip.f (k + 1) a0 a1 a2 a3) := by
  intro a0 a1 a2 a3 k
  have ih0 := intrusionlaw06_AddressRoundTrip.mono_l k
  unfold intrusionlaw06_AddressRoundTrip.f
  repeat' first
      | (with_reducible exact ih0 _ _ _ _ _)
      | (with_reducible exact address_Bytes.mono _ _ _ _)
      | (with_reducible exact address_FromBytes.mono _ _)
      | (with_reducible exact address_Parse.mono _ _)
      | (with_reducible exact address_ParsePrefix.mono _ _)
      | (with_reducible exact LeO.refl _)
      | (with_reducible exact LeO.none _)
      | (with_reducible refine LeO.ite ?_ ?_)
      | (with_reducible refine LeO.bind ?_ (fun _ => ?_))
      | exact ih0 _ _ _ _ _
      | exact address_Bytes.mono _ _ _ _
      | exact address_FromBytes.mono _ _
      | exact address_Parse.mono _ _
      | exact address_ParsePrefix.mono _ _
      | exact LeO.none _
      | refine LeO.ite ?_ ?_
      | refine LeO.bind ?_ (fun _ => ?_)
set_option maxHeartbeats 8000000 in
set_option maxRecDepth 100000 in
theorem intrusionlaw06_AddressRoundTrip.calls (k : Nat) (a0_0 : Bool) (a0_1 : Int) (a0_2 : Int) (a1 : Int) (r : Bool) (w : World) (h : intrusionlaw06_AddressRoundTrip.f k a0_0 a0_1 a0_2 a1 = some r) (hW_ : WOK w) :
 Calls Tryd.prog 9 #[.agg #[.bool a0_0, .int .u64 a0_1, .int .u64 a0_2], .int .i64 a1] w fun e w' => e = .returned (.bool r) ∧ Below w.heap.size w w' := by
 have hu25 := Tryd.underlying25
 have hu30 := Tryd.underlying30
 have HB := Aside0.mk (Below.refl w.heap.size w)
 unfold intrusionlaw06_AddressRoundTrip.f at h; have H := h
 clear h
 replace H := Option.bind_eq_some_iff.mp H
 obtain ⟨t518, A30, H⟩ := H
 try dsimp only at H
 have A3 := Aside0.mk A30
 clear A30
 by_cases c4 : t518 = true
 · subst c4
   rw [if_pos rfl] at H
   replace H := Option.bind_eq_some_iff.mp H
   obtain ⟨t519, A50, H⟩ := H
   try dsimp only at H
   have A5 := Aside0.mk A50
   clear A50
   by_cases c6 : t519 = true
   · subst c6
     rw [if_pos rfl] at H
     replace H := Option.bind_eq_some_iff.mp H
     obtain ⟨t520, A70, H⟩ := H
     try dsimp only at H
     have A7 := Aside0.mk A70
     clear A70
     replace H := Option.bind_eq_some_iff.mp H
     obtain ⟨⟨t521, t522, t523, t524⟩, A80, H⟩ := H
     try dsimp only at H
     have A8 := Aside0.mk A80
     clear A80
     replace H := Option.bind_eq_some_iff.mp H
     obtain ⟨t526, A90, H⟩ := H
     try dsimp only at H
     have A9 := Aside0.mk A90
     clear A90
     replace H := Option.bind_eq_some_iff.mp H
     obtain ⟨⟨t527, t528, t529, t530⟩, A100, H⟩ := H
     try dsimp only at H
     have A10 := Aside0.mk A100
     clear A100
     have HC11 := Aside0.mk H
     clear H
     go_enter Tryd.func9, Tryd.ntmps9
     go_upto_region 7 with (first | ((with_reducible refine gate_dst (N := 2) rfl ?_); refine zx 2 #[.bool a0_0, .int .u64 a0_1, .int .u64 a0_2] 25 ?_; intro gb517 hg w12 hbox hb; have BK517 := Aside0.mk (hbox); have GW517 := Aside0.mk ((by rw [hg]; exact (below_size (zB HB)) : w.heap.size ≤ gb517)); have GE517 := Aside0.mk ((by rw [hg]; exact (below_size (zB HB)) : w.heap.size ≤ gb517)); replace HB := Aside0.mk (below_step (zB HB) hb); clear hb hbox hg) | ((with_reducible refine gate_callee (f := 10) rfl ?_); refine goesL_ (some 13) rfl rfl Tryd.func10 (by kernel_rfl) rfl #[] rfl (by (try simp only [List.map_toArray, List.map_cons, List.map_nil]); first | done | rfl | (simp only [List.length_drop, List.length_take]; rfl)) ?_; (with_reducible refine (intrusionlaw06_lives.calls  true _ A3.out (WOK.below hW_ (zB HB))).mono ?_); rintro e w13 ⟨rfl, hb⟩; refine ⟨_, rfl, ?_⟩; replace BK517 := Aside0.mk (blk_below (g := gb517) (o := .cells #[.bool a0_0, .int .u64 a0_1, .int .u64 a0_2] 25 (0, 0)) (zK BK517) hb); replace HB := Aside0.mk (below_step (zB HB) hb); (try clear hb); obtain ⟨hcz14_0, hcz14_1, hcz14_2⟩ := zc3 BK517; obtain ⟨hfz14_0, hfz14_1, hfz14_2⟩ := zf3 BK517) | ((with_reducible refine gate_callee (f := 25) rfl ?_); refine goesL_ (some 16) rfl rfl Tryd.func25 (by kernel_rfl) rfl #[.agg #[.bool a0_0, .int .u64 a0_1, .int .u64 a0_2]] rfl (by (try simp only [List.map_toArray, List.map_cons, List.map_nil]); first | done | rfl | (simp only [List.length_drop, List.length_take]; rfl)) ?_; (with_reducible refine (address_Valid.calls a0_0 a0_1 a0_2 true _ A5.out).mono ?_); rintro e w15 ⟨rfl, hb⟩; refine ⟨_, rfl, ?_⟩; replace BK517 := Aside0.mk (blk_below (g := gb517) (o := .cells #[.bool a0_0, .int .u64 a0_1, .int .u64 a0_2] 25 (0, 0)) (zK BK517) hb); replace HB := Aside0.mk (below_step (zB HB) hb); (try clear hb); obtain ⟨hcz16_0, hcz16_1, hcz16_2⟩ := zc3 BK517; obtain ⟨hfz16_0, hfz16_1, hfz16_2⟩ := zf3 BK517) | ((with_reducible refine gate_callee (f := 33) rfl ?_); refine goesL_ (some 20) rfl rfl Tryd.func33 (by kernel_rfl) rfl #[.agg #[.bool a0_0, .int .u64 a0_1, .int .u64 a0_2]] rfl (by (try simp only [List.map_toArray, List.map_cons, List.map_nil]); first | done | rfl | (simp only [List.length_drop, List.length_take]; rfl)) ?_; (with_reducible refine (address_Format.calls a0_0 a0_1 a0_2 t520 _ A7.out (WOK.below hW_ (zB HB))).mono ?_); rintro e w17 ⟨rfl, hb⟩; refine ⟨_, rfl, ?_⟩; replace BK517 := Aside0.mk (blk_below (g := gb517) (o := .cells #[.bool a0_0, .int .u64 a0_1, .int .u64 a0_2] 25 (0, 0)) (zK BK517) hb); replace HB := Aside0.mk (below_step (zB HB) hb); (try clear hb)) | ((with_reducible refine gate_callee (f := 11) rfl ?_); refine goesL_ (some 21) rfl rfl Tryd.func11 (by kernel_rfl) rfl #[.string t520] rfl (by (try simp only [List.map_toArray, List.map_cons, List.map_nil]); first | done | rfl | (simp only [List.length_drop, List.length_take]; rfl)) ?_; (with_reducible refine (address_Parse.calls k t520 t521 t522 t523 t524 _ A8.out (WOK.below hW_ (zB HB))).mono ?_); rintro e w18 ⟨rfl, hb⟩; refine ⟨_, rfl, ?_⟩; replace BK517 := Aside0.mk (blk_below (g := gb517) (o := .cells #[.bool a0_0, .int .u64 a0_1, .int .u64 a0_2] 25 (0, 0)) (zK BK517) hb); replace HB := Aside0.mk (below_step (zB HB) hb); (try clear hb)) | ((with_reducible refine gate_dst (N := 5) rfl ?_); refine zx 5 #[.bool false, .int .u64 0, .int .u64 0] 25 ?_; intro gb525 hg w19 hbox hb; have BK525 := Aside0.mk (hbox); have GW525 := Aside0.mk ((by rw [hg]; exact (below_size (zB HB)) : w.heap.size ≤ gb525)); have GE525 := Aside0.mk ((by rw [hg]; exact (below_size (zB HB)) : w.heap.size ≤ gb525)); replace HB := Aside0.mk (below_step (zB HB) hb); have NB517_525 := Aside0.mk ((by rw [hg]; exact Nat.ne_of_lt (blk_lt (g := gb517) (o := .cells #[.bool a0_0, .int .u64 a0_1, .int .u64 a0_2] 25 (0, 0)) (zK BK517)) : gb517 ≠ gb525)); have NB525_517 := Aside0.mk ((by rw [hg]; exact Nat.ne_of_gt (blk_lt (g := gb517) (o := .cells #[.bool a0_0, .int .u64 a0_1, .int .u64 a0_2] 25 (0, 0)) (zK BK517)) : gb525 ≠ gb517)); replace BK517 := Aside0.mk (blk_below (g := gb517) (o := .cells #[.bool a0_0, .int .u64 a0_1, .int .u64 a0_2] 25 (0, 0)) (zK BK517) hb); clear hb hbox hg; have hnb20 := NB525_517.out; have hnc20 := NB517_525.out; obtain ⟨hcz21_0, hcz21_1, hcz21_2⟩ := zc3 BK525; obtain ⟨hfz21_0, hfz21_1, hfz21_2⟩ := zf3 BK525; obtain ⟨hcz22_0, hcz22_1, hcz22_2⟩ := zc3 BK517; obtain ⟨hfz22_0, hfz22_1, hfz22_2⟩ := zf3 BK517) | ((with_reducible refine gate_callee (f := 30) rfl ?_); refine goesL_ (some 26) rfl rfl Tryd.func30 (by kernel_rfl) rfl #[.agg #[.bool a0_0, .int .u64 a0_1, .int .u64 a0_2]] rfl (by (try simp only [List.map_toArray, List.map_cons, List.map_nil]); first | done | rfl | (simp only [List.length_drop, List.length_take]; rfl)) ?_; (with_reducible refine (address_Bytes.calls k a0_0 a0_1 a0_2 t526 _ A9.out).mono ?_); rintro e w23 ⟨rfl, hb⟩; refine ⟨_, rfl, ?_⟩; replace BK517 := Aside0.mk (blk_below (g := gb517) (o := .cells #[.bool a0_0, .int .u64 a0_1, .int .u64 a0_2] 25 (0, 0)) (by refine zL ?_; refine blk_far ?_ NB517_525.out _; refine zL ?_; refine blk_far ?_ NB517_525.out _; refine zL ?_; refine blk_far ?_ NB517_525.out _; refine zL ?_; exact BK517.out) hb); replace BK525 := Aside0.mk (blk_below (g := gb525) (o := .cells #[.bool t521, .int .u64 t522, .int .u64 t523] 25 (0, 0)) (by refine zL ?_; refine blk_put (cs := #[.bool t521, .int .u64 t522, .int .u64 0]) ?_ 2 _ rfl; refine zL ?_; refine blk_put (cs := #[.bool t521, .int .u64 0, .int .u64 0]) ?_ 1 _ rfl; refine zL ?_; refine blk_put (cs := #[.bool false, .int .u64 0, .int .u64 0]) ?_ 0 _ rfl; refine zL ?_; exact BK525.out) hb); replace HB := Aside0.mk (below_step (zB HB) hb); (try clear hb)) | ((with_reducible refine gate_callee (f := 28) rfl ?_); refine goesL_ (some 27) rfl rfl Tryd.func28 (by kernel_rfl) rfl #[.string t526] rfl (by (try simp only [List.map_toArray, List.map_cons, List.map_nil]); first | done | rfl | (simp only [List.length_drop, List.length_take]; rfl)) ?_; (with_reducible refine (address_FromBytes.calls k t526 t527 t528 t529 t530 _ A10.out).mono ?_); rintro e w24 ⟨rfl, hb⟩; refine ⟨_, rfl, ?_⟩; replace BK517 := Aside0.mk (blk_below (g := gb517) (o := .cells #[.bool a0_0, .int .u64 a0_1, .int .u64 a0_2] 25 (0, 0)) (zK BK517) hb); replace BK525 := Aside0.mk (blk_below (g := gb525) (o := .cells #[.bool t521, .int .u64 t522, .int .u64 t523] 25 (0, 0)) (zK BK525) hb); replace HB := Aside0.mk (below_step (zB HB) hb); (try clear hb)) | ((with_reducible refine gate_dst (N := 7) rfl ?_); refine zx 7 #[.bool false, .int .u64 0, .int .u64 0] 25 ?_; intro gb531 hg w25 hbox hb; have BK531 := Aside0.mk (hbox); have GW531 := Aside0.mk ((by rw [hg]; exact (below_size (zB HB)) : w.heap.size ≤ gb531)); have GE531 := Aside0.mk ((by rw [hg]; exact (below_size (zB HB)) : w.heap.size ≤ gb531)); replace HB := Aside0.mk (below_step (zB HB) hb); have NB517_531 := Aside0.mk ((by rw [hg]; exact Nat.ne_of_lt (blk_lt (g := gb517) (o := .cells #[.bool a0_0, .int .u64 a0_1, .int .u64 a0_2] 25 (0, 0)) (zK BK517)) : gb517 ≠ gb531)); have NB531_517 := Aside0.mk ((by rw [hg]; exact Nat.ne_of_gt (blk_lt (g := gb517) (o := .cells #[.bool a0_0, .int .u64 a0_1, .int .u64 a0_2] 25 (0, 0)) (zK BK517)) : gb531 ≠ gb517)); replace BK517 := Aside0.mk (blk_below (g := gb517) (o := .cells #[.bool a0_0, .int .u64 a0_1, .int .u64 a0_2] 25 (0, 0)) (zK BK517) hb); have NB525_531 := Aside0.mk ((by rw [hg]; exact Nat.ne_of_lt (blk_lt (g := gb525) (o := .cells #[.bool t521, .int .u64 t522, .int .u64 t523] 25 (0, 0)) (zK BK525)) : gb525 ≠ gb531)); have NB531_525 := Aside0.mk ((by rw [hg]; exact Nat.ne_of_gt (blk_lt (g := gb525) (o := .cells #[.bool t521, .int .u64 t522, .int .u64 t523] 25 (0, 0)) (zK BK525)) : gb531 ≠ gb525)); replace BK525 := Aside0.mk (blk_below (g := gb525) (o := .cells #[.bool t521, .int .u64 t522, .int .u64 t523] 25 (0, 0)) (zK BK525) hb); clear hb hbox hg; have hnb26 := NB531_517.out; have hnc26 := NB517_531.out; have hnb27 := NB531_525.out; have hnc27 := NB525_531.out; obtain ⟨hcz28_0, hcz28_1, hcz28_2⟩ := zc3 BK531; obtain ⟨hfz28_0, hfz28_1, hfz28_2⟩ := zf3 BK531))
     (try simp only [Act.put, List.setIfInBounds_toArray, List.set_cons_zero, List.set_cons_succ])
     go_cut [45] (fun v45 wc => ∃ (kq : Nat) (x45_10 : Bool), v45 = .bool x45_10 ∧ Aside0 (intrusionlaw06_AddressRoundTrip.j0 kq a1 x45_10 a0_0 a0_1 a0_2 = some r) ∧ Aside0 (kq ≤ k) ∧ Aside0 (wc.heap[gb517]? = some (.cells #[.bool a0_0, .int .u64 a0_1, .int .u64 a0_2] 25 (0, 0))) ∧ Aside0 (wc.heap[gb525]? = some (.cells #[.bool t521, .int .u64 t522, .int .u64 t523] 25 (0, 0))) ∧ Aside0 (wc.heap[gb531]? = some (.cells #[.bool t527, .int .u64 t528, .int .u64 t529] 25 (0, 0))) ∧ Aside0 (Below w.heap.size w wc))
     case first =>
      have H := HC11.out
      clear HC11
      by_cases c29 : (!(t521 == a0_0) || (!(t522 == a0_1) || (!(t523 == a0_2)))) = true
      · rw [if_pos c29] at H
        have c29b0 : (!(t521 == a0_0) || (!(t522 == a0_1) || (!(t523 == a0_2)))) = true := c29
        clear c29
        (first | rw [c29b0] | (simp only [i64_w, i32_w]; rw [c29b0]) | skip)
        have H' := Aside0.mk H
        clear H
        have hnb30 := NB525_517.out
        have hnc30 := NB517_525.out
        have hnb31 := NB525_531.out
        have hnc31 := NB531_525.out
        obtain ⟨hcz32_0, hcz32_1, hcz32_2⟩ := zc3 BK525
        obtain ⟨hfz32_0, hfz32_1, hfz32_2⟩ := zf3 BK525
        have hnb33 := NB517_531.out
        have hnc33 := NB531_517.out
        obtain ⟨hcz34_0, hcz34_1, hcz34_2⟩ := zc3 BK517
        obtain ⟨hfz34_0, hfz34_1, hfz34_2⟩ := zf3 BK517
        go_wp2
        go_meet
        case rel => exact ⟨_, (true), (by first | rfl | (simp; done) | (simp [*]; done)), H', ⟨by first | omega | exact Nat.le_refl _⟩, ⟨by refine zL ?_; refine blk_far ?_ NB517_531.out _; refine zL ?_; refine blk_far ?_ NB517_531.out _; refine zL ?_; refine blk_far ?_ NB517_531.out _; refine zL ?_; exact BK517.out⟩, ⟨by refine zL ?_; refine blk_far ?_ NB525_531.out _; refine zL ?_; refine blk_far ?_ NB525_531.out _; refine zL ?_; refine blk_far ?_ NB525_531.out _; refine zL ?_; exact BK525.out⟩, ⟨by refine zL ?_; refine blk_put (cs := #[.bool t527, .int .u64 t528, .int .u64 0]) ?_ 2 _ rfl; refine zL ?_; refine blk_put (cs := #[.bool t527, .int .u64 0, .int .u64 0]) ?_ 1 _ rfl; refine zL ?_; refine blk_put (cs := #[.bool false, .int .u64 0, .int .u64 0]) ?_ 0 _ rfl; refine zL ?_; exact BK531.out⟩, ⟨zB HB⟩⟩
      · rw [if_neg c29] at H
        have c29b0 : (!(t521 == a0_0) || (!(t522 == a0_1) || (!(t523 == a0_2)))) = false := by simpa using c29
        clear c29
        (first | rw [c29b0] | (simp only [i64_w, i32_w]; rw [c29b0]) | skip)
        by_cases c35 : t524 = 0
        · rw [if_pos c35] at H
          have c35b0 : (t524 == 0) = true := beq_iff_eq.mpr c35
          have c35b1 : (t524 != 0) = false := bne_eq_false_iff_eq.mpr c35
          clear c35
          by_cases c36 : (!(t527 == a0_0) || (!(t528 == a0_1) || (!(t529 == a0_2)))) = true
          · rw [if_pos c36] at H
            have c36b0 : (!(t527 == a0_0) || (!(t528 == a0_1) || (!(t529 == a0_2)))) = true := c36
            clear c36
            have H' := Aside0.mk H
            clear H
            have hnb37 := NB525_517.out
            have hnc37 := NB517_525.out
            have hnb38 := NB525_531.out
            have hnc38 := NB531_525.out
            obtain ⟨hcz39_0, hcz39_1, hcz39_2⟩ := zc3 BK525
            obtain ⟨hfz39_0, hfz39_1, hfz39_2⟩ := zf3 BK525
            have hnb40 := NB517_531.out
            have hnc40 := NB531_517.out
            obtain ⟨hcz41_0, hcz41_1, hcz41_2⟩ := zc3 BK517
            obtain ⟨hfz41_0, hfz41_1, hfz41_2⟩ := zf3 BK517
            obtain ⟨hcz42_0, hcz42_1, hcz42_2⟩ := zc3 BK531
            obtain ⟨hfz42_0, hfz42_1, hfz42_2⟩ := zf3 BK531
            go_wp2
            go_meet
            case rel => exact ⟨_, (true), (by first | rfl | (simp; done) | (simp [*]; done)), H', ⟨by first | omega | exact Nat.le_refl _⟩, ⟨by refine zL ?_; refine blk_far ?_ NB517_531.out _; refine zL ?_; refine blk_far ?_ NB517_531.out _; refine zL ?_; refine blk_far ?_ NB517_531.out _; refine zL ?_; exact BK517.out⟩, ⟨by refine zL ?_; refine blk_far ?_ NB525_531.out _; refine zL ?_; refine blk_far ?_ NB525_531.out _; refine zL ?_; refine blk_far ?_ NB525_531.out _; refine zL ?_; exact BK525.out⟩, ⟨by refine zL ?_; refine blk_put (cs := #[.bool t527, .int .u64 t528, .int .u64 0]) ?_ 2 _ rfl; refine zL ?_; refine blk_put (cs := #[.bool t527, .int .u64 0, .int .u64 0]) ?_ 1 _ rfl; refine zL ?_; refine blk_put (cs := #[.bool false, .int .u64 0, .int .u64 0]) ?_ 0 _ rfl; refine zL ?_; exact BK531.out⟩, ⟨zB HB⟩⟩
          · rw [if_neg c36] at H
            have c36b0 : (!(t527 == a0_0) || (!(t528 == a0_1) || (!(t529 == a0_2)))) = false := by simpa using c36
            clear c36
            have H' := Aside0.mk H
            clear H
            have hnb43 := NB525_517.out
            have hnc43 := NB517_525.out
            have hnb44 := NB525_531.out
            have hnc44 := NB531_525.out
            obtain ⟨hcz45_0, hcz45_1, hcz45_2⟩ := zc3 BK525
            obtain ⟨hfz45_0, hfz45_1, hfz45_2⟩ := zf3 BK525
            have hnb46 := NB517_531.out
            have hnc46 := NB531_517.out
            obtain ⟨hcz47_0, hcz47_1, hcz47_2⟩ := zc3 BK517
            obtain ⟨hfz47_0, hfz47_1, hfz47_2⟩ := zf3 BK517
            obtain ⟨hcz48_0, hcz48_1, hcz48_2⟩ := zc3 BK531
            obtain ⟨hfz48_0, hfz48_1, hfz48_2⟩ := zf3 BK531
            go_wp2
            go_meet
            case rel => exact ⟨_, ((t530 != 0)), (by first | rfl | (simp; done) | (simp [*]; done)), H', ⟨by first | omega | exact Nat.le_refl _⟩, ⟨by refine zL ?_; refine blk_far ?_ NB517_531.out _; refine zL ?_; refine blk_far ?_ NB517_531.out _; refine zL ?_; refine blk_far ?_ NB517_531.out _; refine zL ?_; exact BK517.out⟩, ⟨by refine zL ?_; refine blk_far ?_ NB525_531.out _; refine zL ?_; refine blk_far ?_ NB525_531.out _; refine zL ?_; refine blk_far ?_ NB525_531.out _; refine zL ?_; exact BK525.out⟩, ⟨by refine zL ?_; refine blk_put (cs := #[.bool t527, .int .u64 t528, .int .u64 0]) ?_ 2 _ rfl; refine zL ?_; refine blk_put (cs := #[.bool t527, .int .u64 0, .int .u64 0]) ?_ 1 _ rfl; refine zL ?_; refine blk_put (cs := #[.bool false, .int .u64 0, .int .u64 0]) ?_ 0 _ rfl; refine zL ?_; exact BK531.out⟩, ⟨zB HB⟩⟩
        · rw [if_neg c35] at H
          have c35b0 : (t524 == 0) = false := beq_eq_false_iff_ne.mpr c35
          have c35b1 : (t524 != 0) = true := bne_iff_ne.mpr c35
          have H' := Aside0.mk H
          clear H
          have hnb49 := NB525_517.out
          have hnc49 := NB517_525.out
          have hnb50 := NB525_531.out
          have hnc50 := NB531_525.out
          obtain ⟨hcz51_0, hcz51_1, hcz51_2⟩ := zc3 BK525
          obtain ⟨hfz51_0, hfz51_1, hfz51_2⟩ := zf3 BK525
          have hnb52 := NB517_531.out
          have hnc52 := NB531_517.out
          obtain ⟨hcz53_0, hcz53_1, hcz53_2⟩ := zc3 BK517
          obtain ⟨hfz53_0, hfz53_1, hfz53_2⟩ := zf3 BK517
          go_wp2
          go_meet
          case rel => exact ⟨_, (true), (by first | rfl | (simp; done) | (simp [*]; done)), H', ⟨by first | omega | exact Nat.le_refl _⟩, ⟨by refine zL ?_; refine blk_far ?_ NB517_531.out _; refine zL ?_; refine blk_far ?_ NB517_531.out _; refine zL ?_; refine blk_far ?_ NB517_531.out _; refine zL ?_; exact BK517.out⟩, ⟨by refine zL ?_; refine blk_far ?_ NB525_531.out _; refine zL ?_; refine blk_far ?_ NB525_531.out _; refine zL ?_; refine blk_far ?_ NB525_531.out _; refine zL ?_; exact BK525.out⟩, ⟨by refine zL ?_; refine blk_put (cs := #[.bool t527, .int .u64 t528, .int .u64 0]) ?_ 2 _ rfl; refine zL ?_; refine blk_put (cs := #[.bool t527, .int .u64 0, .int .u64 0]) ?_ 1 _ rfl; refine zL ?_; refine blk_put (cs := #[.bool false, .int .u64 0, .int .u64 0]) ?_ 0 _ rfl; refine zL ?_; exact BK531.out⟩, ⟨zB HB⟩⟩
     case rest =>
      clear HC11
      try clear c1
      try clear c2
      try clear p2
      try clear c3
      try clear c4
      try clear c5
      try clear c6
      try clear c9
      try clear c10
      try clear c11
      try clear c20
      try clear c25
      try clear c26
      try clear c27
      try clear c28
      try clear c29
      try clear c29b0
      try clear c30
      try clear c31
      try clear c33
      try clear c35
      try clear c35b0
      try clear c35b1
      try clear c36
      try clear c36b0
      try clear c37
      try clear c38
      try clear c40
      try clear c43
      try clear c44
      try clear c46
      try clear c49
      try clear c50
      try clear c52
      try clear hcz14_0
      try clear hcz14_1
      try clear hcz14_2
      try clear hcz16_0
      try clear hcz16_1
      try clear hcz16_2
      try clear hcz21_0
      try clear hcz21_1
      try clear hcz21_2
      try clear hcz22_0
      try clear hcz22_1
      try clear hcz22_2
      try clear hcz28_0
      try clear hcz28_1
      try clear hcz28_2
      try clear hcz32_0
      try clear hcz32_1
      try clear hcz32_2
      try clear hcz34_0
      try clear hcz34_1
      try clear hcz34_2
      try clear hcz39_0
      try clear hcz39_1
      try clear hcz39_2
      try clear hcz41_0
      try clear hcz41_1
      try clear hcz41_2
      try clear hcz42_0
      try clear hcz42_1
      try clear hcz42_2
      try clear hcz45_0
      try clear hcz45_1
      try clear hcz45_2
      try clear hcz47_0
      try clear hcz47_1
      try clear hcz47_2
      try clear hcz48_0
      try clear hcz48_1
      try clear hcz48_2
      try clear hcz51_0
      try clear hcz51_1
      try clear hcz51_2
      try clear hcz53_0
      try clear hcz53_1
      try clear hcz53_2
      try clear hfz14_0
      try clear hfz14_1
      try clear hfz14_2
      try clear hfz16_0
      try clear hfz16_1
      try clear hfz16_2
      try clear hfz21_0
      try clear hfz21_1
      try clear hfz21_2
      try clear hfz22_0
      try clear hfz22_1
      try clear hfz22_2
      try clear hfz28_0
      try clear hfz28_1
      try clear hfz28_2
      try clear hfz32_0
      try clear hfz32_1
      try clear hfz32_2
      try clear hfz34_0
      try clear hfz34_1
      try clear hfz34_2
      try clear hfz39_0
      try clear hfz39_1
      try clear hfz39_2
      try clear hfz41_0
      try clear hfz41_1
      try clear hfz41_2
      try clear hfz42_0
      try clear hfz42_1
      try clear hfz42_2
      try clear hfz45_0
      try clear hfz45_1
      try clear hfz45_2
      try clear hfz47_0
      try clear hfz47_1
      try clear hfz47_2
      try clear hfz48_0
      try clear hfz48_1
      try clear hfz48_2
      try clear hfz51_0
      try clear hfz51_1
      try clear hfz51_2
      try clear hfz53_0
      try clear hfz53_1
      try clear hfz53_2
      obtain ⟨kq, x45_10, rfl, HA, HJ10, BK517, BK525, BK531, HB⟩ := hcut
      cases kq with
      | zero => exact absurd HA.out (by simp [intrusionlaw06_AddressRoundTrip.j0])
      | succ kj10 =>
       have H := HA.out
       clear HA
       simp only [intrusionlaw06_AddressRoundTrip.j0] at H
       by_cases c54 : x45_10 = true
       · subst c54
         rw [if_pos rfl] at H
         obtain rfl := Option.some.inj H
         go_wp2
         go_ret
         exact ⟨by first | rfl | (simp [errW_none, errW_some] <;> rfl) | (simp [*, errW_none, errW_some] <;> rfl), by repeat (first | (with_reducible first | exact HB.out | apply below_alloc | apply pw_below_drewN | apply below_drew1 | refine below_set ?_ GE517.out | refine below_set ?_ GE525.out | refine below_set ?_ GE531.out) | exact HB.out)⟩
       · replace c54 := Bool.eq_false_iff.mpr c54
         subst c54
         rw [if_neg zF] at H
         replace H := Option.bind_eq_some_iff.mp H
         obtain ⟨⟨t532, t533, t534, t535, t536⟩, A550, H⟩ := H
         try dsimp only at H
         have A55 := Aside0.mk A550
         clear A550
         by_cases c56 : t536 = 0
         · rw [if_pos c56] at H
           have c56b0 : (t536 == 0) = true := beq_iff_eq.mpr c56
           have c56b1 : (t536 != 0) = false := bne_eq_false_iff_eq.mpr c56
           clear c56
           replace H := Option.bind_eq_some_iff.mp H
           obtain ⟨t538, A570, H⟩ := H
           try dsimp only at H
           have A57 := Aside0.mk A570
           clear A570
           replace H := Option.bind_eq_some_iff.mp H
           obtain ⟨⟨t539, t540, t541, t542, t543⟩, A580, H⟩ := H
           try dsimp only at H
           have A58 := Aside0.mk A580
           clear A580
           replace H := Option.bind_eq_some_iff.mp H
           obtain ⟨t545, A590, H⟩ := H
           try dsimp only at H
           have A59 := Aside0.mk A590
           clear A590
           by_cases c60 : t545 = true
           · subst c60
             rw [if_pos rfl] at H
             by_cases c61 : ((t539 == t532 && (t540 == t533 && (t541 == t534))) && (t542 == t535)) = true
             · rw [if_pos c61] at H
               have c61b0 : ((t539 == t532 && (t540 == t533 && (t541 == t534))) && (t542 == t535)) = true := c61
               clear c61
               by_cases c62 : t543 = 0
               · rw [if_pos c62] at H
                 have c62b0 : (t543 == 0) = true := beq_iff_eq.mpr c62
                 have c62b1 : (t543 != 0) = false := bne_eq_false_iff_eq.mpr c62
                 clear c62
                 replace H := Option.bind_eq_some_iff.mp H
                 obtain ⟨t546, A630, H⟩ := H
                 try dsimp only at H
                 have A63 := Aside0.mk A630
                 clear A630
                 obtain rfl := Option.some.inj H
                 have hnb64 := NB517_525.out
                 have hnc64 := NB525_517.out
                 have hnb65 := NB517_531.out
                 have hnc65 := NB531_517.out
                 obtain ⟨hcz66_0, hcz66_1, hcz66_2⟩ := zc3 BK517
                 obtain ⟨hfz66_0, hfz66_1, hfz66_2⟩ := zf3 BK517
                 go_wp2_with (first | ((with_reducible refine gate_callee (f := 26) rfl ?_); refine goesL_ (some 49) rfl rfl Tryd.func26 (by kernel_rfl) rfl #[.agg #[.bool a0_0, .int .u64 a0_1, .int .u64 a0_2], .int .i64 a1] rfl (by (try simp only [List.map_toArray, List.map_cons, List.map_nil]); first | done | rfl | (simp only [List.length_drop, List.length_take]; rfl)) ?_; (with_reducible refine (address_MakePrefix.calls a0_0 a0_1 a0_2 a1 t532 t533 t534 t535 t536 _ A55.out).mono ?_); rintro e w67 ⟨rfl, hb⟩; refine ⟨_, rfl, ?_⟩; replace BK517 := Aside0.mk (blk_below (g := gb517) (o := .cells #[.bool a0_0, .int .u64 a0_1, .int .u64 a0_2] 25 (0, 0)) (zK BK517) hb); replace BK525 := Aside0.mk (blk_below (g := gb525) (o := .cells #[.bool t521, .int .u64 t522, .int .u64 t523] 25 (0, 0)) (zK BK525) hb); replace BK531 := Aside0.mk (blk_below (g := gb531) (o := .cells #[.bool t527, .int .u64 t528, .int .u64 t529] 25 (0, 0)) (zK BK531) hb); replace HB := Aside0.mk (below_step (zB HB) hb); (try clear hb)) | ((with_reducible refine gate_dst (N := 9) rfl ?_); refine zx 9 #[.bool false, .int .u64 0, .int .u64 0, .int .i64 0] 30 ?_; intro gb537 hg w68 hbox hb; have BK537 := Aside0.mk (hbox); have GW537 := Aside0.mk ((by rw [hg]; exact (below_size (zB HB)) : w.heap.size ≤ gb537)); have GE537 := Aside0.mk ((by rw [hg]; exact (below_size (zB HB)) : w.heap.size ≤ gb537)); replace HB := Aside0.mk (below_step (zB HB) hb); have NB517_537 := Aside0.mk ((by rw [hg]; exact Nat.ne_of_lt (blk_lt (g := gb517) (o := .cells #[.bool a0_0, .int .u64 a0_1, .int .u64 a0_2] 25 (0, 0)) (zK BK517)) : gb517 ≠ gb537)); have NB537_517 := Aside0.mk ((by rw [hg]; exact Nat.ne_of_gt (blk_lt (g := gb517) (o := .cells #[.bool a0_0, .int .u64 a0_1, .int .u64 a0_2] 25 (0, 0)) (zK BK517)) : gb537 ≠ gb517)); replace BK517 := Aside0.mk (blk_below (g := gb517) (o := .cells #[.bool a0_0, .int .u64 a0_1, .int .u64 a0_2] 25 (0, 0)) (zK BK517) hb); have NB525_537 := Aside0.mk ((by rw [hg]; exact Nat.ne_of_lt (blk_lt (g := gb525) (o := .cells #[.bool t521, .int .u64 t522, .int .u64 t523] 25 (0, 0)) (zK BK525)) : gb525 ≠ gb537)); have NB537_525 := Aside0.mk ((by rw [hg]; exact Nat.ne_of_gt (blk_lt (g := gb525) (o := .cells #[.bool t521, .int .u64 t522, .int .u64 t523] 25 (0, 0)) (zK BK525)) : gb537 ≠ gb525)); replace BK525 := Aside0.mk (blk_below (g := gb525) (o := .cells #[.bool t521, .int .u64 t522, .int .u64 t523] 25 (0, 0)) (zK BK525) hb); have NB531_537 := Aside0.mk ((by rw [hg]; exact Nat.ne_of_lt (blk_lt (g := gb531) (o := .cells #[.bool t527, .int .u64 t528, .int .u64 t529] 25 (0, 0)) (zK BK531)) : gb531 ≠ gb537)); have NB537_531 := Aside0.mk ((by rw [hg]; exact Nat.ne_of_gt (blk_lt (g := gb531) (o := .cells #[.bool t527, .int .u64 t528, .int .u64 t529] 25 (0, 0)) (zK BK531)) : gb537 ≠ gb531)); replace BK531 := Aside0.mk (blk_below (g := gb531) (o := .cells #[.bool t527, .int .u64 t528, .int .u64 t529] 25 (0, 0)) (zK BK531) hb); clear hb hbox hg; have hnb69 := NB537_517.out; have hnc69 := NB517_537.out; have hnb70 := NB537_525.out; have hnc70 := NB525_537.out; have hnb71 := NB537_531.out; have hnc71 := NB531_537.out; obtain ⟨hcz72_0, hcz72_1, hcz72_2, hcz72_3⟩ := zc4 BK537; obtain ⟨hfz72_0, hfz72_1, hfz72_2, hfz72_3⟩ := zf4 BK537) | ((with_reducible refine gate_callee (f := 36) rfl ?_); refine goesL_ (some 63) rfl rfl Tryd.func36 (by kernel_rfl) rfl #[.agg #[.bool t532, .int .u64 t533, .int .u64 t534, .int .i64 t535]] rfl (by (try simp only [List.map_toArray, List.map_cons, List.map_nil]); first | done | rfl | (simp only [List.length_drop, List.length_take]; rfl)) ?_; (with_reducible refine (address_FormatPrefix.calls t532 t533 t534 t535 t538 _ A57.out (WOK.below hW_ (zB HB))).mono ?_); rintro e w73 ⟨rfl, hb⟩; refine ⟨_, rfl, ?_⟩; replace BK517 := Aside0.mk (blk_below (g := gb517) (o := .cells #[.bool a0_0, .int .u64 a0_1, .int .u64 a0_2] 25 (0, 0)) (by refine zL ?_; refine blk_far ?_ NB517_537.out _; refine zL ?_; refine blk_far ?_ NB517_537.out _; refine zL ?_; refine blk_far ?_ NB517_537.out _; refine zL ?_; refine blk_far ?_ NB517_537.out _; refine zL ?_; exact BK517.out) hb); replace BK525 := Aside0.mk (blk_below (g := gb525) (o := .cells #[.bool t521, .int .u64 t522, .int .u64 t523] 25 (0, 0)) (by refine zL ?_; refine blk_far ?_ NB525_537.out _; refine zL ?_; refine blk_far ?_ NB525_537.out _; refine zL ?_; refine blk_far ?_ NB525_537.out _; refine zL ?_; refine blk_far ?_ NB525_537.out _; refine zL ?_; exact BK525.out) hb); replace BK531 := Aside0.mk (blk_below (g := gb531) (o := .cells #[.bool t527, .int .u64 t528, .int .u64 t529] 25 (0, 0)) (by refine zL ?_; refine blk_far ?_ NB531_537.out _; refine zL ?_; refine blk_far ?_ NB531_537.out _; refine zL ?_; refine blk_far ?_ NB531_537.out _; refine zL ?_; refine blk_far ?_ NB531_537.out _; refine zL ?_; exact BK531.out) hb); replace BK537 := Aside0.mk (blk_below (g := gb537) (o := .cells #[.bool t532, .int .u64 t533, .int .u64 t534, .int .i64 t535] 30 (0, 0)) (by refine zL ?_; refine blk_put (cs := #[.bool t532, .int .u64 t533, .int .u64 t534, .int .i64 0]) ?_ 3 _ rfl; refine zL ?_; refine blk_put (cs := #[.bool t532, .int .u64 t533, .int .u64 0, .int .i64 0]) ?_ 2 _ rfl; refine zL ?_; refine blk_put (cs := #[.bool t532, .int .u64 0, .int .u64 0, .int .i64 0]) ?_ 1 _ rfl; refine zL ?_; refine blk_put (cs := #[.bool false, .int .u64 0, .int .u64 0, .int .i64 0]) ?_ 0 _ rfl; refine zL ?_; exact BK537.out) hb); replace HB := Aside0.mk (below_step (zB HB) hb); (try clear hb)) | ((with_reducible refine gate_callee (f := 13) rfl ?_); refine goesL_ (some 64) rfl rfl Tryd.func13 (by kernel_rfl) rfl #[.string t538] rfl (by (try simp only [List.map_toArray, List.map_cons, List.map_nil]); first | done | rfl | (simp only [List.length_drop, List.length_take]; rfl)) ?_; (with_reducible refine (address_ParsePrefix.calls kj10 t538 t539 t540 t541 t542 t543 _ A58.out (WOK.below hW_ (zB HB))).mono ?_); rintro e w74 ⟨rfl, hb⟩; refine ⟨_, rfl, ?_⟩; replace BK517 := Aside0.mk (blk_below (g := gb517) (o := .cells #[.bool a0_0, .int .u64 a0_1, .int .u64 a0_2] 25 (0, 0)) (zK BK517) hb); replace BK525 := Aside0.mk (blk_below (g := gb525) (o := .cells #[.bool t521, .int .u64 t522, .int .u64 t523] 25 (0, 0)) (zK BK525) hb); replace BK531 := Aside0.mk (blk_below (g := gb531) (o := .cells #[.bool t527, .int .u64 t528, .int .u64 t529] 25 (0, 0)) (zK BK531) hb); replace BK537 := Aside0.mk (blk_below (g := gb537) (o := .cells #[.bool t532, .int .u64 t533, .int .u64 t534, .int .i64 t535] 30 (0, 0)) (zK BK537) hb); replace HB := Aside0.mk (below_step (zB HB) hb); (try clear hb)) | ((with_reducible refine gate_dst (N := 11) rfl ?_); refine zx 11 #[.bool false, .int .u64 0, .int .u64 0, .int .i64 0] 30 ?_; intro gb544 hg w75 hbox hb; have BK544 := Aside0.mk (hbox); have GW544 := Aside0.mk ((by rw [hg]; exact (below_size (zB HB)) : w.heap.size ≤ gb544)); have GE544 := Aside0.mk ((by rw [hg]; exact (below_size (zB HB)) : w.heap.size ≤ gb544)); replace HB := Aside0.mk (below_step (zB HB) hb); have NB517_544 := Aside0.mk ((by rw [hg]; exact Nat.ne_of_lt (blk_lt (g := gb517) (o := .cells #[.bool a0_0, .int .u64 a0_1, .int .u64 a0_2] 25 (0, 0)) (zK BK517)) : gb517 ≠ gb544)); have NB544_517 := Aside0.mk ((by rw [hg]; exact Nat.ne_of_gt (blk_lt (g := gb517) (o := .cells #[.bool a0_0, .int .u64 a0_1, .int .u64 a0_2] 25 (0, 0)) (zK BK517)) : gb544 ≠ gb517)); replace BK517 := Aside0.mk (blk_below (g := gb517) (o := .cells #[.bool a0_0, .int .u64 a0_1, .int .u64 a0_2] 25 (0, 0)) (zK BK517) hb); have NB525_544 := Aside0.mk ((by rw [hg]; exact Nat.ne_of_lt (blk_lt (g := gb525) (o := .cells #[.bool t521, .int .u64 t522, .int .u64 t523] 25 (0, 0)) (zK BK525)) : gb525 ≠ gb544)); have NB544_525 := Aside0.mk ((by rw [hg]; exact Nat.ne_of_gt (blk_lt (g := gb525) (o := .cells #[.bool t521, .int .u64 t522, .int .u64 t523] 25 (0, 0)) (zK BK525)) : gb544 ≠ gb525)); replace BK525 := Aside0.mk (blk_below (g := gb525) (o := .cells #[.bool t521, .int .u64 t522, .int .u64 t523] 25 (0, 0)) (zK BK525) hb); have NB531_544 := Aside0.mk ((by rw [hg]; exact Nat.ne_of_lt (blk_lt (g := gb531) (o := .cells #[.bool t527, .int .u64 t528, .int .u64 t529] 25 (0, 0)) (zK BK531)) : gb531 ≠ gb544)); have NB544_531 := Aside0.mk ((by rw [hg]; exact Nat.ne_of_gt (blk_lt (g := gb531) (o := .cells #[.bool t527, .int .u64 t528, .int .u64 t529] 25 (0, 0)) (zK BK531)) : gb544 ≠ gb531)); replace BK531 := Aside0.mk (blk_below (g := gb531) (o := .cells #[.bool t527, .int .u64 t528, .int .u64 t529] 25 (0, 0)) (zK BK531) hb); have NB537_544 := Aside0.mk ((by rw [hg]; exact Nat.ne_of_lt (blk_lt (g := gb537) (o := .cells #[.bool t532, .int .u64 t533, .int .u64 t534, .int .i64 t535] 30 (0, 0)) (zK BK537)) : gb537 ≠ gb544)); have NB544_537 := Aside0.mk ((by rw [hg]; exact Nat.ne_of_gt (blk_lt (g := gb537) (o := .cells #[.bool t532, .int .u64 t533, .int .u64 t534, .int .i64 t535] 30 (0, 0)) (zK BK537)) : gb544 ≠ gb537)); replace BK537 := Aside0.mk (blk_below (g := gb537) (o := .cells #[.bool t532, .int .u64 t533, .int .u64 t534, .int .i64 t535] 30 (0, 0)) (zK BK537) hb); clear hb hbox hg; have hnb76 := NB544_517.out; have hnc76 := NB517_544.out; have hnb77 := NB544_525.out; have hnc77 := NB525_544.out; have hnb78 := NB544_531.out; have hnc78 := NB531_544.out; have hnb79 := NB544_537.out; have hnc79 := NB537_544.out; obtain ⟨hcz80_0, hcz80_1, hcz80_2, hcz80_3⟩ := zc4 BK544; obtain ⟨hfz80_0, hfz80_1, hfz80_2, hfz80_3⟩ := zf4 BK544; obtain ⟨hcz81_0, hcz81_1, hcz81_2, hcz81_3⟩ := zc4 BK537; obtain ⟨hfz81_0, hfz81_1, hfz81_2, hfz81_3⟩ := zf4 BK537) | ((with_reducible refine gate_callee (f := 31) rfl ?_); refine goesL_ (some 68) rfl rfl Tryd.func31 (by kernel_rfl) rfl #[.agg #[.bool t532, .int .u64 t533, .int .u64 t534, .int .i64 t535]] rfl (by (try simp only [List.map_toArray, List.map_cons, List.map_nil]); first | done | rfl | (simp only [List.length_drop, List.length_take]; rfl)) ?_; (with_reducible refine (address_ValidPrefix.calls t532 t533 t534 t535 true _ A59.out).mono ?_); rintro e w82 ⟨rfl, hb⟩; refine ⟨_, rfl, ?_⟩; replace BK517 := Aside0.mk (blk_below (g := gb517) (o := .cells #[.bool a0_0, .int .u64 a0_1, .int .u64 a0_2] 25 (0, 0)) (by refine zL ?_; refine blk_far ?_ NB517_544.out _; refine zL ?_; refine blk_far ?_ NB517_544.out _; refine zL ?_; refine blk_far ?_ NB517_544.out _; refine zL ?_; refine blk_far ?_ NB517_544.out _; refine zL ?_; exact BK517.out) hb); replace BK525 := Aside0.mk (blk_below (g := gb525) (o := .cells #[.bool t521, .int .u64 t522, .int .u64 t523] 25 (0, 0)) (by refine zL ?_; refine blk_far ?_ NB525_544.out _; refine zL ?_; refine blk_far ?_ NB525_544.out _; refine zL ?_; refine blk_far ?_ NB525_544.out _; refine zL ?_; refine blk_far ?_ NB525_544.out _; refine zL ?_; exact BK525.out) hb); replace BK531 := Aside0.mk (blk_below (g := gb531) (o := .cells #[.bool t527, .int .u64 t528, .int .u64 t529] 25 (0, 0)) (by refine zL ?_; refine blk_far ?_ NB531_544.out _; refine zL ?_; refine blk_far ?_ NB531_544.out _; refine zL ?_; refine blk_far ?_ NB531_544.out _; refine zL ?_; refine blk_far ?_ NB531_544.out _; refine zL ?_; exact BK531.out) hb); replace BK537 := Aside0.mk (blk_below (g := gb537) (o := .cells #[.bool t532, .int .u64 t533, .int .u64 t534, .int .i64 t535] 30 (0, 0)) (by refine zL ?_; refine blk_far ?_ NB537_544.out _; refine zL ?_; refine blk_far ?_ NB537_544.out _; refine zL ?_; refine blk_far ?_ NB537_544.out _; refine zL ?_; refine blk_far ?_ NB537_544.out _; refine zL ?_; exact BK537.out) hb); replace BK544 := Aside0.mk (blk_below (g := gb544) (o := .cells #[.bool t539, .int .u64 t540, .int .u64 t541, .int .i64 t542] 30 (0, 0)) (by refine zL ?_; refine blk_put (cs := #[.bool t539, .int .u64 t540, .int .u64 t541, .int .i64 0]) ?_ 3 _ rfl; refine zL ?_; refine blk_put (cs := #[.bool t539, .int .u64 t540, .int .u64 0, .int .i64 0]) ?_ 2 _ rfl; refine zL ?_; refine blk_put (cs := #[.bool t539, .int .u64 0, .int .u64 0, .int .i64 0]) ?_ 1 _ rfl; refine zL ?_; refine blk_put (cs := #[.bool false, .int .u64 0, .int .u64 0, .int .i64 0]) ?_ 0 _ rfl; refine zL ?_; exact BK544.out) hb); replace HB := Aside0.mk (below_step (zB HB) hb); (try clear hb); obtain ⟨hcz83_0, hcz83_1, hcz83_2, hcz83_3⟩ := zc4 BK544; obtain ⟨hfz83_0, hfz83_1, hfz83_2, hfz83_3⟩ := zf4 BK544; obtain ⟨hcz84_0, hcz84_1, hcz84_2, hcz84_3⟩ := zc4 BK537; obtain ⟨hfz84_0, hfz84_1, hfz84_2, hfz84_3⟩ := zf4 BK537; obtain ⟨hcz85_0, hcz85_1, hcz85_2⟩ := zc3 BK517; obtain ⟨hfz85_0, hfz85_1, hfz85_2⟩ := zf3 BK517) | (go_at_call 23; (with_reducible refine (address_Contains.calls t532 t533 t534 t535 a0_0 a0_1 a0_2 t546 _ A63.out).mono ?_); rintro e w86 ⟨rfl, hb⟩; replace BK517 := Aside0.mk (blk_below (g := gb517) (o := .cells #[.bool a0_0, .int .u64 a0_1, .int .u64 a0_2] 25 (0, 0)) (zK BK517) hb); replace BK525 := Aside0.mk (blk_below (g := gb525) (o := .cells #[.bool t521, .int .u64 t522, .int .u64 t523] 25 (0, 0)) (zK BK525) hb); replace BK531 := Aside0.mk (blk_below (g := gb531) (o := .cells #[.bool t527, .int .u64 t528, .int .u64 t529] 25 (0, 0)) (zK BK531) hb); replace BK537 := Aside0.mk (blk_below (g := gb537) (o := .cells #[.bool t532, .int .u64 t533, .int .u64 t534, .int .i64 t535] 30 (0, 0)) (zK BK537) hb); replace BK544 := Aside0.mk (blk_below (g := gb544) (o := .cells #[.bool t539, .int .u64 t540, .int .u64 t541, .int .i64 t542] 30 (0, 0)) (zK BK544) hb); replace HB := Aside0.mk (below_step (zB HB) hb); (try clear hb)))
                 go_ret
                 exact ⟨by first | rfl | (simp [errW_none, errW_some] <;> rfl) | (simp [*, errW_none, errW_some] <;> rfl), by repeat (first | (with_reducible first | exact HB.out | apply below_alloc | apply pw_below_drewN | apply below_drew1 | refine below_set ?_ GE517.out | refine below_set ?_ GE525.out | refine below_set ?_ GE531.out | refine below_set ?_ GE537.out | refine below_set ?_ GE544.out) | exact HB.out)⟩
               · rw [if_neg c62] at H
                 have c62b0 : (t543 == 0) = false := beq_eq_false_iff_ne.mpr c62
                 have c62b1 : (t543 != 0) = true := bne_iff_ne.mpr c62
                 obtain rfl := Option.some.inj H
                 have hnb87 := NB517_525.out
                 have hnc87 := NB525_517.out
                 have hnb88 := NB517_531.out
                 have hnc88 := NB531_517.out
                 obtain ⟨hcz89_0, hcz89_1, hcz89_2⟩ := zc3 BK517
                 obtain ⟨hfz89_0, hfz89_1, hfz89_2⟩ := zf3 BK517
                 go_wp2_with (first | ((with_reducible refine gate_callee (f := 26) rfl ?_); refine goesL_ (some 49) rfl rfl Tryd.func26 (by kernel_rfl) rfl #[.agg #[.bool a0_0, .int .u64 a0_1, .int .u64 a0_2], .int .i64 a1] rfl (by (try simp only [List.map_toArray, List.map_cons, List.map_nil]); first | done | rfl | (simp only [List.length_drop, List.length_take]; rfl)) ?_; (with_reducible refine (address_MakePrefix.calls a0_0 a0_1 a0_2 a1 t532 t533 t534 t535 t536 _ A55.out).mono ?_); rintro e w90 ⟨rfl, hb⟩; refine ⟨_, rfl, ?_⟩; replace BK517 := Aside0.mk (blk_below (g := gb517) (o := .cells #[.bool a0_0, .int .u64 a0_1, .int .u64 a0_2] 25 (0, 0)) (zK BK517) hb); replace BK525 := Aside0.mk (blk_below (g := gb525) (o := .cells #[.bool t521, .int .u64 t522, .int .u64 t523] 25 (0, 0)) (zK BK525) hb); replace BK531 := Aside0.mk (blk_below (g := gb531) (o := .cells #[.bool t527, .int .u64 t528, .int .u64 t529] 25 (0, 0)) (zK BK531) hb); replace HB := Aside0.mk (below_step (zB HB) hb); (try clear hb)) | ((with_reducible refine gate_dst (N := 9) rfl ?_); refine zx 9 #[.bool false, .int .u64 0, .int .u64 0, .int .i64 0] 30 ?_; intro gb537 hg w91 hbox hb; have BK537 := Aside0.mk (hbox); have GW537 := Aside0.mk ((by rw [hg]; exact (below_size (zB HB)) : w.heap.size ≤ gb537)); have GE537 := Aside0.mk ((by rw [hg]; exact (below_size (zB HB)) : w.heap.size ≤ gb537)); replace HB := Aside0.mk (below_step (zB HB) hb); have NB517_537 := Aside0.mk ((by rw [hg]; exact Nat.ne_of_lt (blk_lt (g := gb517) (o := .cells #[.bool a0_0, .int .u64 a0_1, .int .u64 a0_2] 25 (0, 0)) (zK BK517)) : gb517 ≠ gb537)); have NB537_517 := Aside0.mk ((by rw [hg]; exact Nat.ne_of_gt (blk_lt (g := gb517) (o := .cells #[.bool a0_0, .int .u64 a0_1, .int .u64 a0_2] 25 (0, 0)) (zK BK517)) : gb537 ≠ gb517)); replace BK517 := Aside0.mk (blk_below (g := gb517) (o := .cells #[.bool a0_0, .int .u64 a0_1, .int .u64 a0_2] 25 (0, 0)) (zK BK517) hb); have NB525_537 := Aside0.mk ((by rw [hg]; exact Nat.ne_of_lt (blk_lt (g := gb525) (o := .cells #[.bool t521, .int .u64 t522, .int .u64 t523] 25 (0, 0)) (zK BK525)) : gb525 ≠ gb537)); have NB537_525 := Aside0.mk ((by rw [hg]; exact Nat.ne_of_gt (blk_lt (g := gb525) (o := .cells #[.bool t521, .int .u64 t522, .int .u64 t523] 25 (0, 0)) (zK BK525)) : gb537 ≠ gb525)); replace BK525 := Aside0.mk (blk_below (g := gb525) (o := .cells #[.bool t521, .int .u64 t522, .int .u64 t523] 25 (0, 0)) (zK BK525) hb); have NB531_537 := Aside0.mk ((by rw [hg]; exact Nat.ne_of_lt (blk_lt (g := gb531) (o := .cells #[.bool t527, .int .u64 t528, .int .u64 t529] 25 (0, 0)) (zK BK531)) : gb531 ≠ gb537)); have NB537_531 := Aside0.mk ((by rw [hg]; exact Nat.ne_of_gt (blk_lt (g := gb531) (o := .cells #[.bool t527, .int .u64 t528, .int .u64 t529] 25 (0, 0)) (zK BK531)) : gb537 ≠ gb531)); replace BK531 := Aside0.mk (blk_below (g := gb531) (o := .cells #[.bool t527, .int .u64 t528, .int .u64 t529] 25 (0, 0)) (zK BK531) hb); clear hb hbox hg; have hnb92 := NB537_517.out; have hnc92 := NB517_537.out; have hnb93 := NB537_525.out; have hnc93 := NB525_537.out; have hnb94 := NB537_531.out; have hnc94 := NB531_537.out; obtain ⟨hcz95_0, hcz95_1, hcz95_2, hcz95_3⟩ := zc4 BK537; obtain ⟨hfz95_0, hfz95_1, hfz95_2, hfz95_3⟩ := zf4 BK537) | ((with_reducible refine gate_callee (f := 36) rfl ?_); refine goesL_ (some 63) rfl rfl Tryd.func36 (by kernel_rfl) rfl #[.agg #[.bool t532, .int .u64 t533, .int .u64 t534, .int .i64 t535]] rfl (by (try simp only [List.map_toArray, List.map_cons, List.map_nil]); first | done | rfl | (simp only [List.length_drop, List.length_take]; rfl)) ?_; (with_reducible refine (address_FormatPrefix.calls t532 t533 t534 t535 t538 _ A57.out (WOK.below hW_ (zB HB))).mono ?_); rintro e w96 ⟨rfl, hb⟩; refine ⟨_, rfl, ?_⟩; replace BK517 := Aside0.mk (blk_below (g := gb517) (o := .cells #[.bool a0_0, .int .u64 a0_1, .int .u64 a0_2] 25 (0, 0)) (by refine zL ?_; refine blk_far ?_ NB517_537.out _; refine zL ?_; refine blk_far ?_ NB517_537.out _; refine zL ?_; refine blk_far ?_ NB517_537.out _; refine zL ?_; refine blk_far ?_ NB517_537.out _; refine zL ?_; exact BK517.out) hb); replace BK525 := Aside0.mk (blk_below (g := gb525) (o := .cells #[.bool t521, .int .u64 t522, .int .u64 t523] 25 (0, 0)) (by refine zL ?_; refine blk_far ?_ NB525_537.out _; refine zL ?_; refine blk_far ?_ NB525_537.out _; refine zL ?_; refine blk_far ?_ NB525_537.out _; refine zL ?_; refine blk_far ?_ NB525_537.out _; refine zL ?_; exact BK525.out) hb); replace BK531 := Aside0.mk (blk_below (g := gb531) (o := .cells #[.bool t527, .int .u64 t528, .int .u64 t529] 25 (0, 0)) (by refine zL ?_; refine blk_far ?_ NB531_537.out _; refine zL ?_; refine blk_far ?_ NB531_537.out _; refine zL ?_; refine blk_far ?_ NB531_537.out _; refine zL ?_; refine blk_far ?_ NB531_537.out _; refine zL ?_; exact BK531.out) hb); replace BK537 := Aside0.mk (blk_below (g := gb537) (o := .cells #[.bool t532, .int .u64 t533, .int .u64 t534, .int .i64 t535] 30 (0, 0)) (by refine zL ?_; refine blk_put (cs := #[.bool t532, .int .u64 t533, .int .u64 t534, .int .i64 0]) ?_ 3 _ rfl; refine zL ?_; refine blk_put (cs := #[.bool t532, .int .u64 t533, .int .u64 0, .int .i64 0]) ?_ 2 _ rfl; refine zL ?_; refine blk_put (cs := #[.bool t532, .int .u64 0, .int .u64 0, .int .i64 0]) ?_ 1 _ rfl; refine zL ?_; refine blk_put (cs := #[.bool false, .int .u64 0, .int .u64 0, .int .i64 0]) ?_ 0 _ rfl; refine zL ?_; exact BK537.out) hb); replace HB := Aside0.mk (below_step (zB HB) hb); (try clear hb)) | ((with_reducible refine gate_callee (f := 13) rfl ?_); refine goesL_ (some 64) rfl rfl Tryd.func13 (by kernel_rfl) rfl #[.string t538] rfl (by (try simp only [List.map_toArray, List.map_cons, List.map_nil]); first | done | rfl | (simp only [List.length_drop, List.length_take]; rfl)) ?_; (with_reducible refine (address_ParsePrefix.calls kj10 t538 t539 t540 t541 t542 t543 _ A58.out (WOK.below hW_ (zB HB))).mono ?_); rintro e w97 ⟨rfl, hb⟩; refine ⟨_, rfl, ?_⟩; replace BK517 := Aside0.mk (blk_below (g := gb517) (o := .cells #[.bool a0_0, .int .u64 a0_1, .int .u64 a0_2] 25 (0, 0)) (zK BK517) hb); replace BK525 := Aside0.mk (blk_below (g := gb525) (o := .cells #[.bool t521, .int .u64 t522, .int .u64 t523] 25 (0, 0)) (zK BK525) hb); replace BK531 := Aside0.mk (blk_below (g := gb531) (o := .cells #[.bool t527, .int .u64 t528, .int .u64 t529] 25 (0, 0)) (zK BK531) hb); replace BK537 := Aside0.mk (blk_below (g := gb537) (o := .cells #[.bool t532, .int .u64 t533, .int .u64 t534, .int .i64 t535] 30 (0, 0)) (zK BK537) hb); replace HB := Aside0.mk (below_step (zB HB) hb); (try clear hb)) | ((with_reducible refine gate_dst (N := 11) rfl ?_); refine zx 11 #[.bool false, .int .u64 0, .int .u64 0, .int .i64 0] 30 ?_; intro gb544 hg w98 hbox hb; have BK544 := Aside0.mk (hbox); have GW544 := Aside0.mk ((by rw [hg]; exact (below_size (zB HB)) : w.heap.size ≤ gb544)); have GE544 := Aside0.mk ((by rw [hg]; exact (below_size (zB HB)) : w.heap.size ≤ gb544)); replace HB := Aside0.mk (below_step (zB HB) hb); have NB517_544 := Aside0.mk ((by rw [hg]; exact Nat.ne_of_lt (blk_lt (g := gb517) (o := .cells #[.bool a0_0, .int .u64 a0_1, .int .u64 a0_2] 25 (0, 0)) (zK BK517)) : gb517 ≠ gb544)); have NB544_517 := Aside0.mk ((by rw [hg]; exact Nat.ne_of_gt (blk_lt (g := gb517) (o := .cells #[.bool a0_0, .int .u64 a0_1, .int .u64 a0_2] 25 (0, 0)) (zK BK517)) : gb544 ≠ gb517)); replace BK517 := Aside0.mk (blk_below (g := gb517) (o := .cells #[.bool a0_0, .int .u64 a0_1, .int .u64 a0_2] 25 (0, 0)) (zK BK517) hb); have NB525_544 := Aside0.mk ((by rw [hg]; exact Nat.ne_of_lt (blk_lt (g := gb525) (o := .cells #[.bool t521, .int .u64 t522, .int .u64 t523] 25 (0, 0)) (zK BK525)) : gb525 ≠ gb544)); have NB544_525 := Aside0.mk ((by rw [hg]; exact Nat.ne_of_gt (blk_lt (g := gb525) (o := .cells #[.bool t521, .int .u64 t522, .int .u64 t523] 25 (0, 0)) (zK BK525)) : gb544 ≠ gb525)); replace BK525 := Aside0.mk (blk_below (g := gb525) (o := .cells #[.bool t521, .int .u64 t522, .int .u64 t523] 25 (0, 0)) (zK BK525) hb); have NB531_544 := Aside0.mk ((by rw [hg]; exact Nat.ne_of_lt (blk_lt (g := gb531) (o := .cells #[.bool t527, .int .u64 t528, .int .u64 t529] 25 (0, 0)) (zK BK531)) : gb531 ≠ gb544)); have NB544_531 := Aside0.mk ((by rw [hg]; exact Nat.ne_of_gt (blk_lt (g := gb531) (o := .cells #[.bool t527, .int .u64 t528, .int .u64 t529] 25 (0, 0)) (zK BK531)) : gb544 ≠ gb531)); replace BK531 := Aside0.mk (blk_below (g := gb531) (o := .cells #[.bool t527, .int .u64 t528, .int .u64 t529] 25 (0, 0)) (zK BK531) hb); have NB537_544 := Aside0.mk ((by rw [hg]; exact Nat.ne_of_lt (blk_lt (g := gb537) (o := .cells #[.bool t532, .int .u64 t533, .int .u64 t534, .int .i64 t535] 30 (0, 0)) (zK BK537)) : gb537 ≠ gb544)); have NB544_537 := Aside0.mk ((by rw [hg]; exact Nat.ne_of_gt (blk_lt (g := gb537) (o := .cells #[.bool t532, .int .u64 t533, .int .u64 t534, .int .i64 t535] 30 (0, 0)) (zK BK537)) : gb544 ≠ gb537)); replace BK537 := Aside0.mk (blk_below (g := gb537) (o := .cells #[.bool t532, .int .u64 t533, .int .u64 t534, .int .i64 t535] 30 (0, 0)) (zK BK537) hb); clear hb hbox hg; have hnb99 := NB544_517.out; have hnc99 := NB517_544.out; have hnb100 := NB544_525.out; have hnc100 := NB525_544.out; have hnb101 := NB544_531.out; have hnc101 := NB531_544.out; have hnb102 := NB544_537.out; have hnc102 := NB537_544.out; obtain ⟨hcz103_0, hcz103_1, hcz103_2, hcz103_3⟩ := zc4 BK544; obtain ⟨hfz103_0, hfz103_1, hfz103_2, hfz103_3⟩ := zf4 BK544; obtain ⟨hcz104_0, hcz104_1, hcz104_2, hcz104_3⟩ := zc4 BK537; obtain ⟨hfz104_0, hfz104_1, hfz104_2, hfz104_3⟩ := zf4 BK537) | ((with_reducible refine gate_callee (f := 31) rfl ?_); refine goesL_ (some 68) rfl rfl Tryd.func31 (by kernel_rfl) rfl #[.agg #[.bool t532, .int .u64 t533, .int .u64 t534, .int .i64 t535]] rfl (by (try simp only [List.map_toArray, List.map_cons, List.map_nil]); first | done | rfl | (simp only [List.length_drop, List.length_take]; rfl)) ?_; (with_reducible refine (address_ValidPrefix.calls t532 t533 t534 t535 true _ A59.out).mono ?_); rintro e w105 ⟨rfl, hb⟩; refine ⟨_, rfl, ?_⟩; replace BK517 := Aside0.mk (blk_below (g := gb517) (o := .cells #[.bool a0_0, .int .u64 a0_1, .int .u64 a0_2] 25 (0, 0)) (by refine zL ?_; refine blk_far ?_ NB517_544.out _; refine zL ?_; refine blk_far ?_ NB517_544.out _; refine zL ?_; refine blk_far ?_ NB517_544.out _; refine zL ?_; refine blk_far ?_ NB517_544.out _; refine zL ?_; exact BK517.out) hb); replace BK525 := Aside0.mk (blk_below (g := gb525) (o := .cells #[.bool t521, .int .u64 t522, .int .u64 t523] 25 (0, 0)) (by refine zL ?_; refine blk_far ?_ NB525_544.out _; refine zL ?_; refine blk_far ?_ NB525_544.out _; refine zL ?_; refine blk_far ?_ NB525_544.out _; refine zL ?_; refine blk_far ?_ NB525_544.out _; refine zL ?_; exact BK525.out) hb); replace BK531 := Aside0.mk (blk_below (g := gb531) (o := .cells #[.bool t527, .int .u64 t528, .int .u64 t529] 25 (0, 0)) (by refine zL ?_; refine blk_far ?_ NB531_544.out _; refine zL ?_; refine blk_far ?_ NB531_544.out _; refine zL ?_; refine blk_far ?_ NB531_544.out _; refine zL ?_; refine blk_far ?_ NB531_544.out _; refine zL ?_; exact BK531.out) hb); replace BK537 := Aside0.mk (blk_below (g := gb537) (o := .cells #[.bool t532, .int .u64 t533, .int .u64 t534, .int .i64 t535] 30 (0, 0)) (by refine zL ?_; refine blk_far ?_ NB537_544.out _; refine zL ?_; refine blk_far ?_ NB537_544.out _; refine zL ?_; refine blk_far ?_ NB537_544.out _; refine zL ?_; refine blk_far ?_ NB537_544.out _; refine zL ?_; exact BK537.out) hb); replace BK544 := Aside0.mk (blk_below (g := gb544) (o := .cells #[.bool t539, .int .u64 t540, .int .u64 t541, .int .i64 t542] 30 (0, 0)) (by refine zL ?_; refine blk_put (cs := #[.bool t539, .int .u64 t540, .int .u64 t541, .int .i64 0]) ?_ 3 _ rfl; refine zL ?_; refine blk_put (cs := #[.bool t539, .int .u64 t540, .int .u64 0, .int .i64 0]) ?_ 2 _ rfl; refine zL ?_; refine blk_put (cs := #[.bool t539, .int .u64 0, .int .u64 0, .int .i64 0]) ?_ 1 _ rfl; refine zL ?_; refine blk_put (cs := #[.bool false, .int .u64 0, .int .u64 0, .int .i64 0]) ?_ 0 _ rfl; refine zL ?_; exact BK544.out) hb); replace HB := Aside0.mk (below_step (zB HB) hb); (try clear hb); obtain ⟨hcz106_0, hcz106_1, hcz106_2, hcz106_3⟩ := zc4 BK544; obtain ⟨hfz106_0, hfz106_1, hfz106_2, hfz106_3⟩ := zf4 BK544; obtain ⟨hcz107_0, hcz107_1, hcz107_2, hcz107_3⟩ := zc4 BK537; obtain ⟨hfz107_0, hfz107_1, hfz107_2, hfz107_3⟩ := zf4 BK537))
                 go_ret
                 exact ⟨by first | rfl | (simp [errW_none, errW_some] <;> rfl) | (simp [*, errW_none, errW_some] <;> rfl), by repeat (first | (with_reducible first | exact HB.out | apply below_alloc | apply pw_below_drewN | apply below_drew1 | refine below_set ?_ GE517.out | refine below_set ?_ GE525.out | refine below_set ?_ GE531.out | refine below_set ?_ GE537.out | refine below_set ?_ GE544.out) | exact HB.out)⟩
             · rw [if_neg c61] at H
               have c61b0 : ((t539 == t532 && (t540 == t533 && (t541 == t534))) && (t542 == t535)) = false := by simpa using c61
               clear c61
               obtain rfl := Option.some.inj H
               have hnb108 := NB517_525.out
               have hnc108 := NB525_517.out
               have hnb109 := NB517_531.out
               have hnc109 := NB531_517.out
               obtain ⟨hcz110_0, hcz110_1, hcz110_2⟩ := zc3 BK517
               obtain ⟨hfz110_0, hfz110_1, hfz110_2⟩ := zf3 BK517
               go_wp2_with (first | ((with_reducible refine gate_callee (f := 26) rfl ?_); refine goesL_ (some 49) rfl rfl Tryd.func26 (by kernel_rfl) rfl #[.agg #[.bool a0_0, .int .u64 a0_1, .int .u64 a0_2], .int .i64 a1] rfl (by (try simp only [List.map_toArray, List.map_cons, List.map_nil]); first | done | rfl | (simp only [List.length_drop, List.length_take]; rfl)) ?_; (with_reducible refine (address_MakePrefix.calls a0_0 a0_1 a0_2 a1 t532 t533 t534 t535 t536 _ A55.out).mono ?_); rintro e w111 ⟨rfl, hb⟩; refine ⟨_, rfl, ?_⟩; replace BK517 := Aside0.mk (blk_below (g := gb517) (o := .cells #[.bool a0_0, .int .u64 a0_1, .int .u64 a0_2] 25 (0, 0)) (zK BK517) hb); replace BK525 := Aside0.mk (blk_below (g := gb525) (o := .cells #[.bool t521, .int .u64 t522, .int .u64 t523] 25 (0, 0)) (zK BK525) hb); replace BK531 := Aside0.mk (blk_below (g := gb531) (o := .cells #[.bool t527, .int .u64 t528, .int .u64 t529] 25 (0, 0)) (zK BK531) hb); replace HB := Aside0.mk (below_step (zB HB) hb); (try clear hb)) | ((with_reducible refine gate_dst (N := 9) rfl ?_); refine zx 9 #[.bool false, .int .u64 0, .int .u64 0, .int .i64 0] 30 ?_; intro gb537 hg w112 hbox hb; have BK537 := Aside0.mk (hbox); have GW537 := Aside0.mk ((by rw [hg]; exact (below_size (zB HB)) : w.heap.size ≤ gb537)); have GE537 := Aside0.mk ((by rw [hg]; exact (below_size (zB HB)) : w.heap.size ≤ gb537)); replace HB := Aside0.mk (below_step (zB HB) hb); have NB517_537 := Aside0.mk ((by rw [hg]; exact Nat.ne_of_lt (blk_lt (g := gb517) (o := .cells #[.bool a0_0, .int .u64 a0_1, .int .u64 a0_2] 25 (0, 0)) (zK BK517)) : gb517 ≠ gb537)); have NB537_517 := Aside0.mk ((by rw [hg]; exact Nat.ne_of_gt (blk_lt (g := gb517) (o := .cells #[.bool a0_0, .int .u64 a0_1, .int .u64 a0_2] 25 (0, 0)) (zK BK517)) : gb537 ≠ gb517)); replace BK517 := Aside0.mk (blk_below (g := gb517) (o := .cells #[.bool a0_0, .int .u64 a0_1, .int .u64 a0_2] 25 (0, 0)) (zK BK517) hb); have NB525_537 := Aside0.mk ((by rw [hg]; exact Nat.ne_of_lt (blk_lt (g := gb525) (o := .cells #[.bool t521, .int .u64 t522, .int .u64 t523] 25 (0, 0)) (zK BK525)) : gb525 ≠ gb537)); have NB537_525 := Aside0.mk ((by rw [hg]; exact Nat.ne_of_gt (blk_lt (g := gb525) (o := .cells #[.bool t521, .int .u64 t522, .int .u64 t523] 25 (0, 0)) (zK BK525)) : gb537 ≠ gb525)); replace BK525 := Aside0.mk (blk_below (g := gb525) (o := .cells #[.bool t521, .int .u64 t522, .int .u64 t523] 25 (0, 0)) (zK BK525) hb); have NB531_537 := Aside0.mk ((by rw [hg]; exact Nat.ne_of_lt (blk_lt (g := gb531) (o := .cells #[.bool t527, .int .u64 t528, .int .u64 t529] 25 (0, 0)) (zK BK531)) : gb531 ≠ gb537)); have NB537_531 := Aside0.mk ((by rw [hg]; exact Nat.ne_of_gt (blk_lt (g := gb531) (o := .cells #[.bool t527, .int .u64 t528, .int .u64 t529] 25 (0, 0)) (zK BK531)) : gb537 ≠ gb531)); replace BK531 := Aside0.mk (blk_below (g := gb531) (o := .cells #[.bool t527, .int .u64 t528, .int .u64 t529] 25 (0, 0)) (zK BK531) hb); clear hb hbox hg; have hnb113 := NB537_517.out; have hnc113 := NB517_537.out; have hnb114 := NB537_525.out; have hnc114 := NB525_537.out; have hnb115 := NB537_531.out; have hnc115 := NB531_537.out; obtain ⟨hcz116_0, hcz116_1, hcz116_2, hcz116_3⟩ := zc4 BK537; obtain ⟨hfz116_0, hfz116_1, hfz116_2, hfz116_3⟩ := zf4 BK537) | ((with_reducible refine gate_callee (f := 36) rfl ?_); refine goesL_ (some 63) rfl rfl Tryd.func36 (by kernel_rfl) rfl #[.agg #[.bool t532, .int .u64 t533, .int .u64 t534, .int .i64 t535]] rfl (by (try simp only [List.map_toArray, List.map_cons, List.map_nil]); first | done | rfl | (simp only [List.length_drop, List.length_take]; rfl)) ?_; (with_reducible refine (address_FormatPrefix.calls t532 t533 t534 t535 t538 _ A57.out (WOK.below hW_ (zB HB))).mono ?_); rintro e w117 ⟨rfl, hb⟩; refine ⟨_, rfl, ?_⟩; replace BK517 := Aside0.mk (blk_below (g := gb517) (o := .cells #[.bool a0_0, .int .u64 a0_1, .int .u64 a0_2] 25 (0, 0)) (by refine zL ?_; refine blk_far ?_ NB517_537.out _; refine zL ?_; refine blk_far ?_ NB517_537.out _; refine zL ?_; refine blk_far ?_ NB517_537.out _; refine zL ?_; refine blk_far ?_ NB517_537.out _; refine zL ?_; exact BK517.out) hb); replace BK525 := Aside0.mk (blk_below (g := gb525) (o := .cells #[.bool t521, .int .u64 t522, .int .u64 t523] 25 (0, 0)) (by refine zL ?_; refine blk_far ?_ NB525_537.out _; refine zL ?_; refine blk_far ?_ NB525_537.out _; refine zL ?_; refine blk_far ?_ NB525_537.out _; refine zL ?_; refine blk_far ?_ NB525_537.out _; refine zL ?_; exact BK525.out) hb); replace BK531 := Aside0.mk (blk_below (g := gb531) (o := .cells #[.bool t527, .int .u64 t528, .int .u64 t529] 25 (0, 0)) (by refine zL ?_; refine blk_far ?_ NB531_537.out _; refine zL ?_; refine blk_far ?_ NB531_537.out _; refine zL ?_; refine blk_far ?_ NB531_537.out _; refine zL ?_; refine blk_far ?_ NB531_537.out _; refine zL ?_; exact BK531.out) hb); replace BK537 := Aside0.mk (blk_below (g := gb537) (o := .cells #[.bool t532, .int .u64 t533, .int .u64 t534, .int .i64 t535] 30 (0, 0)) (by refine zL ?_; refine blk_put (cs := #[.bool t532, .int .u64 t533, .int .u64 t534, .int .i64 0]) ?_ 3 _ rfl; refine zL ?_; refine blk_put (cs := #[.bool t532, .int .u64 t533, .int .u64 0, .int .i64 0]) ?_ 2 _ rfl; refine zL ?_; refine blk_put (cs := #[.bool t532, .int .u64 0, .int .u64 0, .int .i64 0]) ?_ 1 _ rfl; refine zL ?_; refine blk_put (cs := #[.bool false, .int .u64 0, .int .u64 0, .int .i64 0]) ?_ 0 _ rfl; refine zL ?_; exact BK537.out) hb); replace HB := Aside0.mk (below_step (zB HB) hb); (try clear hb)) | ((with_reducible refine gate_callee (f := 13) rfl ?_); refine goesL_ (some 64) rfl rfl Tryd.func13 (by kernel_rfl) rfl #[.string t538] rfl (by (try simp only [List.map_toArray, List.map_cons, List.map_nil]); first | done | rfl | (simp only [List.length_drop, List.length_take]; rfl)) ?_; (with_reducible refine (address_ParsePrefix.calls kj10 t538 t539 t540 t541 t542 t543 _ A58.out (WOK.below hW_ (zB HB))).mono ?_); rintro e w118 ⟨rfl, hb⟩; refine ⟨_, rfl, ?_⟩; replace BK517 := Aside0.mk (blk_below (g := gb517) (o := .cells #[.bool a0_0, .int .u64 a0_1, .int .u64 a0_2] 25 (0, 0)) (zK BK517) hb); replace BK525 := Aside0.mk (blk_below (g := gb525) (o := .cells #[.bool t521, .int .u64 t522, .int .u64 t523] 25 (0, 0)) (zK BK525) hb); replace BK531 := Aside0.mk (blk_below (g := gb531) (o := .cells #[.bool t527, .int .u64 t528, .int .u64 t529] 25 (0, 0)) (zK BK531) hb); replace BK537 := Aside0.mk (blk_below (g := gb537) (o := .cells #[.bool t532, .int .u64 t533, .int .u64 t534, .int .i64 t535] 30 (0, 0)) (zK BK537) hb); replace HB := Aside0.mk (below_step (zB HB) hb); (try clear hb)) | ((with_reducible refine gate_dst (N := 11) rfl ?_); refine zx 11 #[.bool false, .int .u64 0, .int .u64 0, .int .i64 0] 30 ?_; intro gb544 hg w119 hbox hb; have BK544 := Aside0.mk (hbox); have GW544 := Aside0.mk ((by rw [hg]; exact (below_size (zB HB)) : w.heap.size ≤ gb544)); have GE544 := Aside0.mk ((by rw [hg]; exact (below_size (zB HB)) : w.heap.size ≤ gb544)); replace HB := Aside0.mk (below_step (zB HB) hb); have NB517_544 := Aside0.mk ((by rw [hg]; exact Nat.ne_of_lt (blk_lt (g := gb517) (o := .cells #[.bool a0_0, .int .u64 a0_1, .int .u64 a0_2] 25 (0, 0)) (zK BK517)) : gb517 ≠ gb544)); have NB544_517 := Aside0.mk ((by rw [hg]; exact Nat.ne_of_gt (blk_lt (g := gb517) (o := .cells #[.bool a0_0, .int .u64 a0_1, .int .u64 a0_2] 25 (0, 0)) (zK BK517)) : gb544 ≠ gb517)); replace BK517 := Aside0.mk (blk_below (g := gb517) (o := .cells #[.bool a0_0, .int .u64 a0_1, .int .u64 a0_2] 25 (0, 0)) (zK BK517) hb); have NB525_544 := Aside0.mk ((by rw [hg]; exact Nat.ne_of_lt (blk_lt (g := gb525) (o := .cells #[.bool t521, .int .u64 t522, .int .u64 t523] 25 (0, 0)) (zK BK525)) : gb525 ≠ gb544)); have NB544_525 := Aside0.mk ((by rw [hg]; exact Nat.ne_of_gt (blk_lt (g := gb525) (o := .cells #[.bool t521, .int .u64 t522, .int .u64 t523] 25 (0, 0)) (zK BK525)) : gb544 ≠ gb525)); replace BK525 := Aside0.mk (blk_below (g := gb525) (o := .cells #[.bool t521, .int .u64 t522, .int .u64 t523] 25 (0, 0)) (zK BK525) hb); have NB531_544 := Aside0.mk ((by rw [hg]; exact Nat.ne_of_lt (blk_lt (g := gb531) (o := .cells #[.bool t527, .int .u64 t528, .int .u64 t529] 25 (0, 0)) (zK BK531)) : gb531 ≠ gb544)); have NB544_531 := Aside0.mk ((by rw [hg]; exact Nat.ne_of_gt (blk_lt (g := gb531) (o := .cells #[.bool t527, .int .u64 t528, .int .u64 t529] 25 (0, 0)) (zK BK531)) : gb544 ≠ gb531)); replace BK531 := Aside0.mk (blk_below (g := gb531) (o := .cells #[.bool t527, .int .u64 t528, .int .u64 t529] 25 (0, 0)) (zK BK531) hb); have NB537_544 := Aside0.mk ((by rw [hg]; exact Nat.ne_of_lt (blk_lt (g := gb537) (o := .cells #[.bool t532, .int .u64 t533, .int .u64 t534, .int .i64 t535] 30 (0, 0)) (zK BK537)) : gb537 ≠ gb544)); have NB544_537 := Aside0.mk ((by rw [hg]; exact Nat.ne_of_gt (blk_lt (g := gb537) (o := .cells #[.bool t532, .int .u64 t533, .int .u64 t534, .int .i64 t535] 30 (0, 0)) (zK BK537)) : gb544 ≠ gb537)); replace BK537 := Aside0.mk (blk_below (g := gb537) (o := .cells #[.bool t532, .int .u64 t533, .int .u64 t534, .int .i64 t535] 30 (0, 0)) (zK BK537) hb); clear hb hbox hg; have hnb120 := NB544_517.out; have hnc120 := NB517_544.out; have hnb121 := NB544_525.out; have hnc121 := NB525_544.out; have hnb122 := NB544_531.out; have hnc122 := NB531_544.out; have hnb123 := NB544_537.out; have hnc123 := NB537_544.out; obtain ⟨hcz124_0, hcz124_1, hcz124_2, hcz124_3⟩ := zc4 BK544; obtain ⟨hfz124_0, hfz124_1, hfz124_2, hfz124_3⟩ := zf4 BK544; obtain ⟨hcz125_0, hcz125_1, hcz125_2, hcz125_3⟩ := zc4 BK537; obtain ⟨hfz125_0, hfz125_1, hfz125_2, hfz125_3⟩ := zf4 BK537) | ((with_reducible refine gate_callee (f := 31) rfl ?_); refine goesL_ (some 68) rfl rfl Tryd.func31 (by kernel_rfl) rfl #[.agg #[.bool t532, .int .u64 t533, .int .u64 t534, .int .i64 t535]] rfl (by (try simp only [List.map_toArray, List.map_cons, List.map_nil]); first | done | rfl | (simp only [List.length_drop, List.length_take]; rfl)) ?_; (with_reducible refine (address_ValidPrefix.calls t532 t533 t534 t535 true _ A59.out).mono ?_); rintro e w126 ⟨rfl, hb⟩; refine ⟨_, rfl, ?_⟩; replace BK517 := Aside0.mk (blk_below (g := gb517) (o := .cells #[.bool a0_0, .int .u64 a0_1, .int .u64 a0_2] 25 (0, 0)) (by refine zL ?_; refine blk_far ?_ NB517_544.out _; refine zL ?_; refine blk_far ?_ NB517_544.out _; refine zL ?_; refine blk_far ?_ NB517_544.out _; refine zL ?_; refine blk_far ?_ NB517_544.out _; refine zL ?_; exact BK517.out) hb); replace BK525 := Aside0.mk (blk_below (g := gb525) (o := .cells #[.bool t521, .int .u64 t522, .int .u64 t523] 25 (0, 0)) (by refine zL ?_; refine blk_far ?_ NB525_544.out _; refine zL ?_; refine blk_far ?_ NB525_544.out _; refine zL ?_; refine blk_far ?_ NB525_544.out _; refine zL ?_; refine blk_far ?_ NB525_544.out _; refine zL ?_; exact BK525.out) hb); replace BK531 := Aside0.mk (blk_below (g := gb531) (o := .cells #[.bool t527, .int .u64 t528, .int .u64 t529] 25 (0, 0)) (by refine zL ?_; refine blk_far ?_ NB531_544.out _; refine zL ?_; refine blk_far ?_ NB531_544.out _; refine zL ?_; refine blk_far ?_ NB531_544.out _; refine zL ?_; refine blk_far ?_ NB531_544.out _; refine zL ?_; exact BK531.out) hb); replace BK537 := Aside0.mk (blk_below (g := gb537) (o := .cells #[.bool t532, .int .u64 t533, .int .u64 t534, .int .i64 t535] 30 (0, 0)) (by refine zL ?_; refine blk_far ?_ NB537_544.out _; refine zL ?_; refine blk_far ?_ NB537_544.out _; refine zL ?_; refine blk_far ?_ NB537_544.out _; refine zL ?_; refine blk_far ?_ NB537_544.out _; refine zL ?_; exact BK537.out) hb); replace BK544 := Aside0.mk (blk_below (g := gb544) (o := .cells #[.bool t539, .int .u64 t540, .int .u64 t541, .int .i64 t542] 30 (0, 0)) (by refine zL ?_; refine blk_put (cs := #[.bool t539, .int .u64 t540, .int .u64 t541, .int .i64 0]) ?_ 3 _ rfl; refine zL ?_; refine blk_put (cs := #[.bool t539, .int .u64 t540, .int .u64 0, .int .i64 0]) ?_ 2 _ rfl; refine zL ?_; refine blk_put (cs := #[.bool t539, .int .u64 0, .int .u64 0, .int .i64 0]) ?_ 1 _ rfl; refine zL ?_; refine blk_put (cs := #[.bool false, .int .u64 0, .int .u64 0, .int .i64 0]) ?_ 0 _ rfl; refine zL ?_; exact BK544.out) hb); replace HB := Aside0.mk (below_step (zB HB) hb); (try clear hb); obtain ⟨hcz127_0, hcz127_1, hcz127_2, hcz127_3⟩ := zc4 BK544; obtain ⟨hfz127_0, hfz127_1, hfz127_2, hfz127_3⟩ := zf4 BK544; obtain ⟨hcz128_0, hcz128_1, hcz128_2, hcz128_3⟩ := zc4 BK537; obtain ⟨hfz128_0, hfz128_1, hfz128_2, hfz128_3⟩ := zf4 BK537))
               go_ret
               exact ⟨by first | rfl | (simp [errW_none, errW_some] <;> rfl) | (simp [*, errW_none, errW_some] <;> rfl), by repeat (first | (with_reducible first | exact HB.out | apply below_alloc | apply pw_below_drewN | apply below_drew1 | refine below_set ?_ GE517.out | refine below_set ?_ GE525.out | refine below_set ?_ GE531.out | refine below_set ?_ GE537.out | refine below_set ?_ GE544.out) | exact HB.out)⟩
           · replace c60 := Bool.eq_false_iff.mpr c60
             subst c60
             rw [if_neg zF] at H
             obtain rfl := Option.some.inj H
             have hnb129 := NB517_525.out
             have hnc129 := NB525_517.out
             have hnb130 := NB517_531.out
             have hnc130 := NB531_517.out
             obtain ⟨hcz131_0, hcz131_1, hcz131_2⟩ := zc3 BK517
             obtain ⟨hfz131_0, hfz131_1, hfz131_2⟩ := zf3 BK517
             go_wp2_with (first | ((with_reducible refine gate_callee (f := 26) rfl ?_); refine goesL_ (some 49) rfl rfl Tryd.func26 (by kernel_rfl) rfl #[.agg #[.bool a0_0, .int .u64 a0_1, .int .u64 a0_2], .int .i64 a1] rfl (by (try simp only [List.map_toArray, List.map_cons, List.map_nil]); first | done | rfl | (simp only [List.length_drop, List.length_take]; rfl)) ?_; (with_reducible refine (address_MakePrefix.calls a0_0 a0_1 a0_2 a1 t532 t533 t534 t535 t536 _ A55.out).mono ?_); rintro e w132 ⟨rfl, hb⟩; refine ⟨_, rfl, ?_⟩; replace BK517 := Aside0.mk (blk_below (g := gb517) (o := .cells #[.bool a0_0, .int .u64 a0_1, .int .u64 a0_2] 25 (0, 0)) (zK BK517) hb); replace BK525 := Aside0.mk (blk_below (g := gb525) (o := .cells #[.bool t521, .int .u64 t522, .int .u64 t523] 25 (0, 0)) (zK BK525) hb); replace BK531 := Aside0.mk (blk_below (g := gb531) (o := .cells #[.bool t527, .int .u64 t528, .int .u64 t529] 25 (0, 0)) (zK BK531) hb); replace HB := Aside0.mk (below_step (zB HB) hb); (try clear hb)) | ((with_reducible refine gate_dst (N := 9) rfl ?_); refine zx 9 #[.bool false, .int .u64 0, .int .u64 0, .int .i64 0] 30 ?_; intro gb537 hg w133 hbox hb; have BK537 := Aside0.mk (hbox); have GW537 := Aside0.mk ((by rw [hg]; exact (below_size (zB HB)) : w.heap.size ≤ gb537)); have GE537 := Aside0.mk ((by rw [hg]; exact (below_size (zB HB)) : w.heap.size ≤ gb537)); replace HB := Aside0.mk (below_step (zB HB) hb); have NB517_537 := Aside0.mk ((by rw [hg]; exact Nat.ne_of_lt (blk_lt (g := gb517) (o := .cells #[.bool a0_0, .int .u64 a0_1, .int .u64 a0_2] 25 (0, 0)) (zK BK517)) : gb517 ≠ gb537)); have NB537_517 := Aside0.mk ((by rw [hg]; exact Nat.ne_of_gt (blk_lt (g := gb517) (o := .cells #[.bool a0_0, .int .u64 a0_1, .int .u64 a0_2] 25 (0, 0)) (zK BK517)) : gb537 ≠ gb517)); replace BK517 := Aside0.mk (blk_below (g := gb517) (o := .cells #[.bool a0_0, .int .u64 a0_1, .int .u64 a0_2] 25 (0, 0)) (zK BK517) hb); have NB525_537 := Aside0.mk ((by rw [hg]; exact Nat.ne_of_lt (blk_lt (g := gb525) (o := .cells #[.bool t521, .int .u64 t522, .int .u64 t523] 25 (0, 0)) (zK BK525)) : gb525 ≠ gb537)); have NB537_525 := Aside0.mk ((by rw [hg]; exact Nat.ne_of_gt (blk_lt (g := gb525) (o := .cells #[.bool t521, .int .u64 t522, .int .u64 t523] 25 (0, 0)) (zK BK525)) : gb537 ≠ gb525)); replace BK525 := Aside0.mk (blk_below (g := gb525) (o := .cells #[.bool t521, .int .u64 t522, .int .u64 t523] 25 (0, 0)) (zK BK525) hb); have NB531_537 := Aside0.mk ((by rw [hg]; exact Nat.ne_of_lt (blk_lt (g := gb531) (o := .cells #[.bool t527, .int .u64 t528, .int .u64 t529] 25 (0, 0)) (zK BK531)) : gb531 ≠ gb537)); have NB537_531 := Aside0.mk ((by rw [hg]; exact Nat.ne_of_gt (blk_lt (g := gb531) (o := .cells #[.bool t527, .int .u64 t528, .int .u64 t529] 25 (0, 0)) (zK BK531)) : gb537 ≠ gb531)); replace BK531 := Aside0.mk (blk_below (g := gb531) (o := .cells #[.bool t527, .int .u64 t528, .int .u64 t529] 25 (0, 0)) (zK BK531) hb); clear hb hbox hg; have hnb134 := NB537_517.out; have hnc134 := NB517_537.out; have hnb135 := NB537_525.out; have hnc135 := NB525_537.out; have hnb136 := NB537_531.out; have hnc136 := NB531_537.out; obtain ⟨hcz137_0, hcz137_1, hcz137_2, hcz137_3⟩ := zc4 BK537; obtain ⟨hfz137_0, hfz137_1, hfz137_2, hfz137_3⟩ := zf4 BK537) | ((with_reducible refine gate_callee (f := 36) rfl ?_); refine goesL_ (some 63) rfl rfl Tryd.func36 (by kernel_rfl) rfl #[.agg #[.bool t532, .int .u64 t533, .int .u64 t534, .int .i64 t535]] rfl (by (try simp only [List.map_toArray, List.map_cons, List.map_nil]); first | done | rfl | (simp only [List.length_drop, List.length_take]; rfl)) ?_; (with_reducible refine (address_FormatPrefix.calls t532 t533 t534 t535 t538 _ A57.out (WOK.below hW_ (zB HB))).mono ?_); rintro e w138 ⟨rfl, hb⟩; refine ⟨_, rfl, ?_⟩; replace BK517 := Aside0.mk (blk_below (g := gb517) (o := .cells #[.bool a0_0, .int .u64 a0_1, .int .u64 a0_2] 25 (0, 0)) (by refine zL ?_; refine blk_far ?_ NB517_537.out _; refine zL ?_; refine blk_far ?_ NB517_537.out _; refine zL ?_; refine blk_far ?_ NB517_537.out _; refine zL ?_; refine blk_far ?_ NB517_537.out _; refine zL ?_; exact BK517.out) hb); replace BK525 := Aside0.mk (blk_below (g := gb525) (o := .cells #[.bool t521, .int .u64 t522, .int .u64 t523] 25 (0, 0)) (by refine zL ?_; refine blk_far ?_ NB525_537.out _; refine zL ?_; refine blk_far ?_ NB525_537.out _; refine zL ?_; refine blk_far ?_ NB525_537.out _; refine zL ?_; refine blk_far ?_ NB525_537.out _; refine zL ?_; exact BK525.out) hb); replace BK531 := Aside0.mk (blk_below (g := gb531) (o := .cells #[.bool t527, .int .u64 t528, .int .u64 t529] 25 (0, 0)) (by refine zL ?_; refine blk_far ?_ NB531_537.out _; refine zL ?_; refine blk_far ?_ NB531_537.out _; refine zL ?_; refine blk_far ?_ NB531_537.out _; refine zL ?_; refine blk_far ?_ NB531_537.out _; refine zL ?_; exact BK531.out) hb); replace BK537 := Aside0.mk (blk_below (g := gb537) (o := .cells #[.bool t532, .int .u64 t533, .int .u64 t534, .int .i64 t535] 30 (0, 0)) (by refine zL ?_; refine blk_put (cs := #[.bool t532, .int .u64 t533, .int .u64 t534, .int .i64 0]) ?_ 3 _ rfl; refine zL ?_; refine blk_put (cs := #[.bool t532, .int .u64 t533, .int .u64 0, .int .i64 0]) ?_ 2 _ rfl; refine zL ?_; refine blk_put (cs := #[.bool t532, .int .u64 0, .int .u64 0, .int .i64 0]) ?_ 1 _ rfl; refine zL ?_; refine blk_put (cs := #[.bool false, .int .u64 0, .int .u64 0, .int .i64 0]) ?_ 0 _ rfl; refine zL ?_; exact BK537.out) hb); replace HB := Aside0.mk (below_step (zB HB) hb); (try clear hb)) | ((with_reducible refine gate_callee (f := 13) rfl ?_); refine goesL_ (some 64) rfl rfl Tryd.func13 (by kernel_rfl) rfl #[.string t538] rfl (by (try simp only [List.map_toArray, List.map_cons, List.map_nil]); first | done | rfl | (simp only [List.length_drop, List.length_take]; rfl)) ?_; (with_reducible refine (address_ParsePrefix.calls kj10 t538 t539 t540 t541 t542 t543 _ A58.out (WOK.below hW_ (zB HB))).mono ?_); rintro e w139 ⟨rfl, hb⟩; refine ⟨_, rfl, ?_⟩; replace BK517 := Aside0.mk (blk_below (g := gb517) (o := .cells #[.bool a0_0, .int .u64 a0_1, .int .u64 a0_2] 25 (0, 0)) (zK BK517) hb); replace BK525 := Aside0.mk (blk_below (g := gb525) (o := .cells #[.bool t521, .int .u64 t522, .int .u64 t523] 25 (0, 0)) (zK BK525) hb); replace BK531 := Aside0.mk (blk_below (g := gb531) (o := .cells #[.bool t527, .int .u64 t528, .int .u64 t529] 25 (0, 0)) (zK BK531) hb); replace BK537 := Aside0.mk (blk_below (g := gb537) (o := .cells #[.bool t532, .int .u64 t533, .int .u64 t534, .int .i64 t535] 30 (0, 0)) (zK BK537) hb); replace HB := Aside0.mk (below_step (zB HB) hb); (try clear hb)) | ((with_reducible refine gate_dst (N := 11) rfl ?_); refine zx 11 #[.bool false, .int .u64 0, .int .u64 0, .int .i64 0] 30 ?_; intro gb544 hg w140 hbox hb; have BK544 := Aside0.mk (hbox); have GW544 := Aside0.mk ((by rw [hg]; exact (below_size (zB HB)) : w.heap.size ≤ gb544)); have GE544 := Aside0.mk ((by rw [hg]; exact (below_size (zB HB)) : w.heap.size ≤ gb544)); replace HB := Aside0.mk (below_step (zB HB) hb); have NB517_544 := Aside0.mk ((by rw [hg]; exact Nat.ne_of_lt (blk_lt (g := gb517) (o := .cells #[.bool a0_0, .int .u64 a0_1, .int .u64 a0_2] 25 (0, 0)) (zK BK517)) : gb517 ≠ gb544)); have NB544_517 := Aside0.mk ((by rw [hg]; exact Nat.ne_of_gt (blk_lt (g := gb517) (o := .cells #[.bool a0_0, .int .u64 a0_1, .int .u64 a0_2] 25 (0, 0)) (zK BK517)) : gb544 ≠ gb517)); replace BK517 := Aside0.mk (blk_below (g := gb517) (o := .cells #[.bool a0_0, .int .u64 a0_1, .int .u64 a0_2] 25 (0, 0)) (zK BK517) hb); have NB525_544 := Aside0.mk ((by rw [hg]; exact Nat.ne_of_lt (blk_lt (g := gb525) (o := .cells #[.bool t521, .int .u64 t522, .int .u64 t523] 25 (0, 0)) (zK BK525)) : gb525 ≠ gb544)); have NB544_525 := Aside0.mk ((by rw [hg]; exact Nat.ne_of_gt (blk_lt (g := gb525) (o := .cells #[.bool t521, .int .u64 t522, .int .u64 t523] 25 (0, 0)) (zK BK525)) : gb544 ≠ gb525)); replace BK525 := Aside0.mk (blk_below (g := gb525) (o := .cells #[.bool t521, .int .u64 t522, .int .u64 t523] 25 (0, 0)) (zK BK525) hb); have NB531_544 := Aside0.mk ((by rw [hg]; exact Nat.ne_of_lt (blk_lt (g := gb531) (o := .cells #[.bool t527, .int .u64 t528, .int .u64 t529] 25 (0, 0)) (zK BK531)) : gb531 ≠ gb544)); have NB544_531 := Aside0.mk ((by rw [hg]; exact Nat.ne_of_gt (blk_lt (g := gb531) (o := .cells #[.bool t527, .int .u64 t528, .int .u64 t529] 25 (0, 0)) (zK BK531)) : gb544 ≠ gb531)); replace BK531 := Aside0.mk (blk_below (g := gb531) (o := .cells #[.bool t527, .int .u64 t528, .int .u64 t529] 25 (0, 0)) (zK BK531) hb); have NB537_544 := Aside0.mk ((by rw [hg]; exact Nat.ne_of_lt (blk_lt (g := gb537) (o := .cells #[.bool t532, .int .u64 t533, .int .u64 t534, .int .i64 t535] 30 (0, 0)) (zK BK537)) : gb537 ≠ gb544)); have NB544_537 := Aside0.mk ((by rw [hg]; exact Nat.ne_of_gt (blk_lt (g := gb537) (o := .cells #[.bool t532, .int .u64 t533, .int .u64 t534, .int .i64 t535] 30 (0, 0)) (zK BK537)) : gb544 ≠ gb537)); replace BK537 := Aside0.mk (blk_below (g := gb537) (o := .cells #[.bool t532, .int .u64 t533, .int .u64 t534, .int .i64 t535] 30 (0, 0)) (zK BK537) hb); clear hb hbox hg; have hnb141 := NB544_517.out; have hnc141 := NB517_544.out; have hnb142 := NB544_525.out; have hnc142 := NB525_544.out; have hnb143 := NB544_531.out; have hnc143 := NB531_544.out; have hnb144 := NB544_537.out; have hnc144 := NB537_544.out; obtain ⟨hcz145_0, hcz145_1, hcz145_2, hcz145_3⟩ := zc4 BK544; obtain ⟨hfz145_0, hfz145_1, hfz145_2, hfz145_3⟩ := zf4 BK544; obtain ⟨hcz146_0, hcz146_1, hcz146_2, hcz146_3⟩ := zc4 BK537; obtain ⟨hfz146_0, hfz146_1, hfz146_2, hfz146_3⟩ := zf4 BK537) | ((with_reducible refine gate_callee (f := 31) rfl ?_); refine goesL_ (some 68) rfl rfl Tryd.func31 (by kernel_rfl) rfl #[.agg #[.bool t532, .int .u64 t533, .int .u64 t534, .int .i64 t535]] rfl (by (try simp only [List.map_toArray, List.map_cons, List.map_nil]); first | done | rfl | (simp only [List.length_drop, List.length_take]; rfl)) ?_; (with_reducible refine (address_ValidPrefix.calls t532 t533 t534 t535 false _ A59.out).mono ?_); rintro e w147 ⟨rfl, hb⟩; refine ⟨_, rfl, ?_⟩; replace BK517 := Aside0.mk (blk_below (g := gb517) (o := .cells #[.bool a0_0, .int .u64 a0_1, .int .u64 a0_2] 25 (0, 0)) (by refine zL ?_; refine blk_far ?_ NB517_544.out _; refine zL ?_; refine blk_far ?_ NB517_544.out _; refine zL ?_; refine blk_far ?_ NB517_544.out _; refine zL ?_; refine blk_far ?_ NB517_544.out _; refine zL ?_; exact BK517.out) hb); replace BK525 := Aside0.mk (blk_below (g := gb525) (o := .cells #[.bool t521, .int .u64 t522, .int .u64 t523] 25 (0, 0)) (by refine zL ?_; refine blk_far ?_ NB525_544.out _; refine zL ?_; refine blk_far ?_ NB525_544.out _; refine zL ?_; refine blk_far ?_ NB525_544.out _; refine zL ?_; refine blk_far ?_ NB525_544.out _; refine zL ?_; exact BK525.out) hb); replace BK531 := Aside0.mk (blk_below (g := gb531) (o := .cells #[.bool t527, .int .u64 t528, .int .u64 t529] 25 (0, 0)) (by refine zL ?_; refine blk_far ?_ NB531_544.out _; refine zL ?_; refine blk_far ?_ NB531_544.out _; refine zL ?_; refine blk_far ?_ NB531_544.out _; refine zL ?_; refine blk_far ?_ NB531_544.out _; refine zL ?_; exact BK531.out) hb); replace BK537 := Aside0.mk (blk_below (g := gb537) (o := .cells #[.bool t532, .int .u64 t533, .int .u64 t534, .int .i64 t535] 30 (0, 0)) (by refine zL ?_; refine blk_far ?_ NB537_544.out _; refine zL ?_; refine blk_far ?_ NB537_544.out _; refine zL ?_; refine blk_far ?_ NB537_544.out _; refine zL ?_; refine blk_far ?_ NB537_544.out _; refine zL ?_; exact BK537.out) hb); replace BK544 := Aside0.mk (blk_below (g := gb544) (o := .cells #[.bool t539, .int .u64 t540, .int .u64 t541, .int .i64 t542] 30 (0, 0)) (by refine zL ?_; refine blk_put (cs := #[.bool t539, .int .u64 t540, .int .u64 t541, .int .i64 0]) ?_ 3 _ rfl; refine zL ?_; refine blk_put (cs := #[.bool t539, .int .u64 t540, .int .u64 0, .int .i64 0]) ?_ 2 _ rfl; refine zL ?_; refine blk_put (cs := #[.bool t539, .int .u64 0, .int .u64 0, .int .i64 0]) ?_ 1 _ rfl; refine zL ?_; refine blk_put (cs := #[.bool false, .int .u64 0, .int .u64 0, .int .i64 0]) ?_ 0 _ rfl; refine zL ?_; exact BK544.out) hb); replace HB := Aside0.mk (below_step (zB HB) hb); (try clear hb)))
             go_ret
             exact ⟨by first | rfl | (simp [errW_none, errW_some] <;> rfl) | (simp [*, errW_none, errW_some] <;> rfl), by repeat (first | (with_reducible first | exact HB.out | apply below_alloc | apply pw_below_drewN | apply below_drew1 | refine below_set ?_ GE517.out | refine below_set ?_ GE525.out | refine below_set ?_ GE531.out | refine below_set ?_ GE537.out | refine below_set ?_ GE544.out) | exact HB.out)⟩
         · rw [if_neg c56] at H
           have c56b0 : (t536 == 0) = false := beq_eq_false_iff_ne.mpr c56
           have c56b1 : (t536 != 0) = true := bne_iff_ne.mpr c56
           by_cases c148 : t536 = 4
           · rw [if_pos c148] at H
             have c148b0 : (t536 == 4) = true := beq_iff_eq.mpr c148
             have c148b1 : (t536 != 4) = false := bne_eq_false_iff_eq.mpr c148
             clear c148
             obtain rfl := Option.some.inj H
             have hnb149 := NB517_525.out
             have hnc149 := NB525_517.out
             have hnb150 := NB517_531.out
             have hnc150 := NB531_517.out
             obtain ⟨hcz151_0, hcz151_1, hcz151_2⟩ := zc3 BK517
             obtain ⟨hfz151_0, hfz151_1, hfz151_2⟩ := zf3 BK517
             go_wp2_with (first | ((with_reducible refine gate_callee (f := 26) rfl ?_); refine goesL_ (some 49) rfl rfl Tryd.func26 (by kernel_rfl) rfl #[.agg #[.bool a0_0, .int .u64 a0_1, .int .u64 a0_2], .int .i64 a1] rfl (by (try simp only [List.map_toArray, List.map_cons, List.map_nil]); first | done | rfl | (simp only [List.length_drop, List.length_take]; rfl)) ?_; (with_reducible refine (address_MakePrefix.calls a0_0 a0_1 a0_2 a1 t532 t533 t534 t535 t536 _ A55.out).mono ?_); rintro e w152 ⟨rfl, hb⟩; refine ⟨_, rfl, ?_⟩; replace BK517 := Aside0.mk (blk_below (g := gb517) (o := .cells #[.bool a0_0, .int .u64 a0_1, .int .u64 a0_2] 25 (0, 0)) (zK BK517) hb); replace BK525 := Aside0.mk (blk_below (g := gb525) (o := .cells #[.bool t521, .int .u64 t522, .int .u64 t523] 25 (0, 0)) (zK BK525) hb); replace BK531 := Aside0.mk (blk_below (g := gb531) (o := .cells #[.bool t527, .int .u64 t528, .int .u64 t529] 25 (0, 0)) (zK BK531) hb); replace HB := Aside0.mk (below_step (zB HB) hb); (try clear hb)) | ((with_reducible refine gate_dst (N := 9) rfl ?_); refine zx 9 #[.bool false, .int .u64 0, .int .u64 0, .int .i64 0] 30 ?_; intro gb537 hg w153 hbox hb; have BK537 := Aside0.mk (hbox); have GW537 := Aside0.mk ((by rw [hg]; exact (below_size (zB HB)) : w.heap.size ≤ gb537)); have GE537 := Aside0.mk ((by rw [hg]; exact (below_size (zB HB)) : w.heap.size ≤ gb537)); replace HB := Aside0.mk (below_step (zB HB) hb); have NB517_537 := Aside0.mk ((by rw [hg]; exact Nat.ne_of_lt (blk_lt (g := gb517) (o := .cells #[.bool a0_0, .int .u64 a0_1, .int .u64 a0_2] 25 (0, 0)) (zK BK517)) : gb517 ≠ gb537)); have NB537_517 := Aside0.mk ((by rw [hg]; exact Nat.ne_of_gt (blk_lt (g := gb517) (o := .cells #[.bool a0_0, .int .u64 a0_1, .int .u64 a0_2] 25 (0, 0)) (zK BK517)) : gb537 ≠ gb517)); replace BK517 := Aside0.mk (blk_below (g := gb517) (o := .cells #[.bool a0_0, .int .u64 a0_1, .int .u64 a0_2] 25 (0, 0)) (zK BK517) hb); have NB525_537 := Aside0.mk ((by rw [hg]; exact Nat.ne_of_lt (blk_lt (g := gb525) (o := .cells #[.bool t521, .int .u64 t522, .int .u64 t523] 25 (0, 0)) (zK BK525)) : gb525 ≠ gb537)); have NB537_525 := Aside0.mk ((by rw [hg]; exact Nat.ne_of_gt (blk_lt (g := gb525) (o := .cells #[.bool t521, .int .u64 t522, .int .u64 t523] 25 (0, 0)) (zK BK525)) : gb537 ≠ gb525)); replace BK525 := Aside0.mk (blk_below (g := gb525) (o := .cells #[.bool t521, .int .u64 t522, .int .u64 t523] 25 (0, 0)) (zK BK525) hb); have NB531_537 := Aside0.mk ((by rw [hg]; exact Nat.ne_of_lt (blk_lt (g := gb531) (o := .cells #[.bool t527, .int .u64 t528, .int .u64 t529] 25 (0, 0)) (zK BK531)) : gb531 ≠ gb537)); have NB537_531 := Aside0.mk ((by rw [hg]; exact Nat.ne_of_gt (blk_lt (g := gb531) (o := .cells #[.bool t527, .int .u64 t528, .int .u64 t529] 25 (0, 0)) (zK BK531)) : gb537 ≠ gb531)); replace BK531 := Aside0.mk (blk_below (g := gb531) (o := .cells #[.bool t527, .int .u64 t528, .int .u64 t529] 25 (0, 0)) (zK BK531) hb); clear hb hbox hg; have hnb154 := NB537_517.out; have hnc154 := NB517_537.out; have hnb155 := NB537_525.out; have hnc155 := NB525_537.out; have hnb156 := NB537_531.out; have hnc156 := NB531_537.out; obtain ⟨hcz157_0, hcz157_1, hcz157_2, hcz157_3⟩ := zc4 BK537; obtain ⟨hfz157_0, hfz157_1, hfz157_2, hfz157_3⟩ := zf4 BK537))
             go_ret
             exact ⟨by first | rfl | (simp [errW_none, errW_some] <;> rfl) | (simp [*, errW_none, errW_some] <;> rfl), by repeat (first | (with_reducible first | exact HB.out | apply below_alloc | apply pw_below_drewN | apply below_drew1 | refine below_set ?_ GE517.out | refine below_set ?_ GE525.out | refine below_set ?_ GE531.out | refine below_set ?_ GE537.out) | exact HB.out)⟩
           · rw [if_neg c148] at H
             have c148b0 : (t536 == 4) = false := beq_eq_false_iff_ne.mpr c148
             have c148b1 : (t536 != 4) = true := bne_iff_ne.mpr c148
             obtain rfl := Option.some.inj H
             have hnb158 := NB517_525.out
             have hnc158 := NB525_517.out
             have hnb159 := NB517_531.out
             have hnc159 := NB531_517.out
             obtain ⟨hcz160_0, hcz160_1, hcz160_2⟩ := zc3 BK517
             obtain ⟨hfz160_0, hfz160_1, hfz160_2⟩ := zf3 BK517
             go_wp2_with (first | ((with_reducible refine gate_callee (f := 26) rfl ?_); refine goesL_ (some 49) rfl rfl Tryd.func26 (by kernel_rfl) rfl #[.agg #[.bool a0_0, .int .u64 a0_1, .int .u64 a0_2], .int .i64 a1] rfl (by (try simp only [List.map_toArray, List.map_cons, List.map_nil]); first | done | rfl | (simp only [List.length_drop, List.length_take]; rfl)) ?_; (with_reducible refine (address_MakePrefix.calls a0_0 a0_1 a0_2 a1 t532 t533 t534 t535 t536 _ A55.out).mono ?_); rintro e w161 ⟨rfl, hb⟩; refine ⟨_, rfl, ?_⟩; replace BK517 := Aside0.mk (blk_below (g := gb517) (o := .cells #[.bool a0_0, .int .u64 a0_1, .int .u64 a0_2] 25 (0, 0)) (zK BK517) hb); replace BK525 := Aside0.mk (blk_below (g := gb525) (o := .cells #[.bool t521, .int .u64 t522, .int .u64 t523] 25 (0, 0)) (zK BK525) hb); replace BK531 := Aside0.mk (blk_below (g := gb531) (o := .cells #[.bool t527, .int .u64 t528, .int .u64 t529] 25 (0, 0)) (zK BK531) hb); replace HB := Aside0.mk (below_step (zB HB) hb); (try clear hb)) | ((with_reducible refine gate_dst (N := 9) rfl ?_); refine zx 9 #[.bool false, .int .u64 0, .int .u64 0, .int .i64 0] 30 ?_; intro gb537 hg w162 hbox hb; have BK537 := Aside0.mk (hbox); have GW537 := Aside0.mk ((by rw [hg]; exact (below_size (zB HB)) : w.heap.size ≤ gb537)); have GE537 := Aside0.mk ((by rw [hg]; exact (below_size (zB HB)) : w.heap.size ≤ gb537)); replace HB := Aside0.mk (below_step (zB HB) hb); have NB517_537 := Aside0.mk ((by rw [hg]; exact Nat.ne_of_lt (blk_lt (g := gb517) (o := .cells #[.bool a0_0, .int .u64 a0_1, .int .u64 a0_2] 25 (0, 0)) (zK BK517)) : gb517 ≠ gb537)); have NB537_517 := Aside0.mk ((by rw [hg]; exact Nat.ne_of_gt (blk_lt (g := gb517) (o := .cells #[.bool a0_0, .int .u64 a0_1, .int .u64 a0_2] 25 (0, 0)) (zK BK517)) : gb537 ≠ gb517)); replace BK517 := Aside0.mk (blk_below (g := gb517) (o := .cells #[.bool a0_0, .int .u64 a0_1, .int .u64 a0_2] 25 (0, 0)) (zK BK517) hb); have NB525_537 := Aside0.mk ((by rw [hg]; exact Nat.ne_of_lt (blk_lt (g := gb525) (o := .cells #[.bool t521, .int .u64 t522, .int .u64 t523] 25 (0, 0)) (zK BK525)) : gb525 ≠ gb537)); have NB537_525 := Aside0.mk ((by rw [hg]; exact Nat.ne_of_gt (blk_lt (g := gb525) (o := .cells #[.bool t521, .int .u64 t522, .int .u64 t523] 25 (0, 0)) (zK BK525)) : gb537 ≠ gb525)); replace BK525 := Aside0.mk (blk_below (g := gb525) (o := .cells #[.bool t521, .int .u64 t522, .int .u64 t523] 25 (0, 0)) (zK BK525) hb); have NB531_537 := Aside0.mk ((by rw [hg]; exact Nat.ne_of_lt (blk_lt (g := gb531) (o := .cells #[.bool t527, .int .u64 t528, .int .u64 t529] 25 (0, 0)) (zK BK531)) : gb531 ≠ gb537)); have NB537_531 := Aside0.mk ((by rw [hg]; exact Nat.ne_of_gt (blk_lt (g := gb531) (o := .cells #[.bool t527, .int .u64 t528, .int .u64 t529] 25 (0, 0)) (zK BK531)) : gb537 ≠ gb531)); replace BK531 := Aside0.mk (blk_below (g := gb531) (o := .cells #[.bool t527, .int .u64 t528, .int .u64 t529] 25 (0, 0)) (zK BK531) hb); clear hb hbox hg; have hnb163 := NB537_517.out; have hnc163 := NB517_537.out; have hnb164 := NB537_525.out; have hnc164 := NB525_537.out; have hnb165 := NB537_531.out; have hnc165 := NB531_537.out; obtain ⟨hcz166_0, hcz166_1, hcz166_2, hcz166_3⟩ := zc4 BK537; obtain ⟨hfz166_0, hfz166_1, hfz166_2, hfz166_3⟩ := zf4 BK537))
             go_ret
             exact ⟨by first | rfl | (simp [errW_none, errW_some] <;> rfl) | (simp [*, errW_none, errW_some] <;> rfl), by repeat (first | (with_reducible first | exact HB.out | apply below_alloc | apply pw_below_drewN | apply below_drew1 | refine below_set ?_ GE517.out | refine below_set ?_ GE525.out | refine below_set ?_ GE531.out | refine below_set ?_ GE537.out) | exact HB.out)⟩
   · replace c6 := Bool.eq_false_iff.mpr c6
     subst c6
     rw [if_neg zF] at H
     obtain rfl := Option.some.inj H
     go_enter Tryd.func9, Tryd.ntmps9
     go_wp2_with (first | ((with_reducible refine gate_dst (N := 2) rfl ?_); refine zx 2 #[.bool a0_0, .int .u64 a0_1, .int .u64 a0_2] 25 ?_; intro gb517 hg w167 hbox hb; have BK517 := Aside0.mk (hbox); have GW517 := Aside0.mk ((by rw [hg]; exact (below_size (zB HB)) : w.heap.size ≤ gb517)); have GE517 := Aside0.mk ((by rw [hg]; exact (below_size (zB HB)) : w.heap.size ≤ gb517)); replace HB := Aside0.mk (below_step (zB HB) hb); clear hb hbox hg) | ((with_reducible refine gate_callee (f := 10) rfl ?_); refine goesL_ (some 13) rfl rfl Tryd.func10 (by kernel_rfl) rfl #[] rfl (by (try simp only [List.map_toArray, List.map_cons, List.map_nil]); first | done | rfl | (simp only [List.length_drop, List.length_take]; rfl)) ?_; (with_reducible refine (intrusionlaw06_lives.calls  true _ A3.out (WOK.below hW_ (zB HB))).mono ?_); rintro e w168 ⟨rfl, hb⟩; refine ⟨_, rfl, ?_⟩; replace BK517 := Aside0.mk (blk_below (g := gb517) (o := .cells #[.bool a0_0, .int .u64 a0_1, .int .u64 a0_2] 25 (0, 0)) (zK BK517) hb); replace HB := Aside0.mk (below_step (zB HB) hb); (try clear hb); obtain ⟨hcz169_0, hcz169_1, hcz169_2⟩ := zc3 BK517; obtain ⟨hfz169_0, hfz169_1, hfz169_2⟩ := zf3 BK517) | ((with_reducible refine gate_callee (f := 25) rfl ?_); refine goesL_ (some 16) rfl rfl Tryd.func25 (by kernel_rfl) rfl #[.agg #[.bool a0_0, .int .u64 a0_1, .int .u64 a0_2]] rfl (by (try simp only [List.map_toArray, List.map_cons, List.map_nil]); first | done | rfl | (simp only [List.length_drop, List.length_take]; rfl)) ?_; (with_reducible refine (address_Valid.calls a0_0 a0_1 a0_2 false _ A5.out).mono ?_); rintro e w170 ⟨rfl, hb⟩; refine ⟨_, rfl, ?_⟩; replace BK517 := Aside0.mk (blk_below (g := gb517) (o := .cells #[.bool a0_0, .int .u64 a0_1, .int .u64 a0_2] 25 (0, 0)) (zK BK517) hb); replace HB := Aside0.mk (below_step (zB HB) hb); (try clear hb)))
     go_ret
     exact ⟨by first | rfl | (simp [errW_none, errW_some] <;> rfl) | (simp [*, errW_none, errW_some] <;> rfl), by repeat (first | (with_reducible first | exact HB.out | apply below_alloc | apply pw_below_drewN | apply below_drew1 | refine below_set ?_ GE517.out) | exact HB.out)⟩
 · replace c4 := Bool.eq_false_iff.mpr c4
   subst c4
   rw [if_neg zF] at H
   obtain rfl := Option.some.inj H
   go_enter Tryd.func9, Tryd.ntmps9
   go_wp2_with (first | ((with_reducible refine gate_dst (N := 2) rfl ?_); refine zx 2 #[.bool a0_0, .int .u64 a0_1, .int .u64 a0_2] 25 ?_; intro gb517 hg w171 hbox hb; have BK517 := Aside0.mk (hbox); have GW517 := Aside0.mk ((by rw [hg]; exact (below_size (zB HB)) : w.heap.size ≤ gb517)); have GE517 := Aside0.mk ((by rw [hg]; exact (below_size (zB HB)) : w.heap.size ≤ gb517)); replace HB := Aside0.mk (below_step (zB HB) hb); clear hb hbox hg) | ((with_reducible refine gate_callee (f := 10) rfl ?_); refine goesL_ (some 13) rfl rfl Tryd.func10 (by kernel_rfl) rfl #[] rfl (by (try simp only [List.map_toArray, List.map_cons, List.map_nil]); first | done | rfl | (simp only [List.length_drop, List.length_take]; rfl)) ?_; (with_reducible refine (intrusionlaw06_lives.calls  false _ A3.out (WOK.below hW_ (zB HB))).mono ?_); rintro e w172 ⟨rfl, hb⟩; refine ⟨_, rfl, ?_⟩; replace BK517 := Aside0.mk (blk_below (g := gb517) (o := .cells #[.bool a0_0, .int .u64 a0_1, .int .u64 a0_2] 25 (0, 0)) (zK BK517) hb); replace HB := Aside0.mk (below_step (zB HB) hb); (try clear hb)))
   go_ret
   exact ⟨by first | rfl | (simp [errW_none, errW_some] <;> rfl) | (simp [*, errW_none, errW_some] <;> rfl), by repeat (first | (with_reducible first | exact HB.out | apply below_alloc | apply pw_below_drewN | apply below_drew1 | refine below_set ?_ GE517.out) | exact HB.out)⟩
end Go.Proofs.YtlgfinnldhjgeaaDoor.Q
end

section
set_option linter.unusedVariables false
namespace Go.Proofs.YtlgfinnldhjgeaaDoor.Read
open Go.RowKit Go.Deep Go.WideShapes Go.Proofs.YtlgfinnldhjgeaaDoorW.PrintWords
def Reads {α : Type} (P : Program) (W : World) (d : Kd α) (Q : α → Prop) (t : TypeId) : Prop :=
  ∀ (H : Type) (enc : TypeId × Value → H) (fuel : Nat) (cs : List Value) (x : DataW H × List MemPlace), DataW.trod enc P W 0 (fun _ => true) true fuel t cs = some x → ∃ y, d.K W y cs ∧ Q y
section
variable {P : Program} {W : World}
theorem reads_int {k : IntKind} {t : TypeId} (ht : P.underlying t = some (.int k)) : Reads P W (Kd.int k) (fun n => (Lit.int k n).wf = true) t := by
  intro H enc fuel cs x h
  obtain ⟨n, rfl, _, hw⟩ := DataW.trod_int ht h
  exact ⟨n, rfl, hw⟩
theorem reads_bool {t : TypeId} (ht : P.underlying t = some .bool) : Reads P W Kd.bool (fun _ => True) t := by
  intro H enc fuel cs x h
  obtain ⟨n, rfl, _⟩ := DataW.trod_bool ht h
  exact ⟨n, rfl, trivial⟩
theorem pair_mk {α β : Type} {a : Kd α} {b : Kd β} {x : α} {y : β} {cs : List Value} (s : Nat) (h0 : a.K W x (cs.take s)) (h1 : b.K W y (cs.drop s)) : (Kd.pair a b).K W (x, y) cs :=
  ⟨cs.take s, cs.drop s, (List.take_append_drop s cs).symm, h0, h1⟩
theorem field_at {α : Type} {d : Kd α} {Q : α → Prop} {fs : Array Field} {H : Type} {enc : TypeId × Value → H} {n : Nat} {cs : List Value} {xs : List (DataW H × List MemPlace)} (hl : xs.length = fs.size)
    (hf : ∀ (i : Nat) (f : Field), fs[i]? = some f → DataW.trod enc P W 0 (fun _ => true) true n f.type ((cs.drop f.offset).take (P.cellsOf f.type)) = xs[i]?)
    (i : Nat) {f : Field} (hi : fs[i]? = some f) {t off sz : Nat} (ht : f.type = t) (ho : f.offset = off) (hc : P.cellsOf t = sz) (hr : Reads P W d Q t) : ∃ y, d.K W y ((cs.drop off).take sz) ∧ Q y := by
  subst ht ho hc
  have h := hf i f hi
  have hlt : i < xs.length := by rw [hl]; exact (Array.getElem?_eq_some_iff.1 hi).1
  rw [List.getElem?_eq_getElem hlt] at h
  exact hr H enc n _ _ h
end
end Go.Proofs.YtlgfinnldhjgeaaDoor.Read
end

section
set_option linter.unusedVariables false
namespace Go.Proofs.YtlgfinnldhjgeaaDoor.Q
open Go.RowKit Go.Proofs.YtlgfinnldhjgeaaDoorW.PrintWords Go.Proofs.YtlgfinnldhjgeaaDoor.Read
def q25 (x : S25) : Prop := True ∧ (Lit.int .u64 x.f1).wf = true ∧ (Lit.int .u64 x.f2).wf = true
theorem reads_k25 (W : World) : Reads Tryd.prog W k25 q25 25 := by
  intro H enc fuel cs x h
  obtain ⟨xs, n, rfl, _, hcl, hxl, hf⟩ := DataW.trod_struct Tryd.underlying25 h
  have hc : cs.length = 3 := hcl.trans (by kernel_rfl)
  obtain ⟨y0, h0, g0⟩ := field_at hxl hf 0 rfl (t := 4) (off := 0) (sz := 1) rfl rfl (by kernel_rfl) (reads_bool Tryd.underlying4)
  obtain ⟨y1, h1, g1⟩ := field_at hxl hf 1 rfl (t := 23) (off := 1) (sz := 1) rfl rfl (by kernel_rfl) (reads_int Tryd.underlying23)
  obtain ⟨y2, h2, g2⟩ := field_at hxl hf 2 rfl (t := 23) (off := 2) (sz := 1) rfl rfl (by kernel_rfl) (reads_int Tryd.underlying23)
  refine ⟨⟨y0, y1, y2⟩, ?_, ⟨g0, g1, g2⟩⟩
  rw [show (cs.drop 0).take 1 = (cs.drop 0).take 1 from rfl] at h0
  rw [show (cs.drop 1).take 1 = (cs.drop 1).take 1 from rfl] at h1
  rw [show (cs.drop 2).take 1 = (cs.drop 2) from List.take_of_length_le (by rw [List.length_drop, hc]; decide)] at h2
  skip
  simp only [show 2 = 1 + 1 from rfl, ← List.drop_drop] at h2
  have e0 : cs.drop 0 = cs := rfl
  rw [e0] at h0
  exact pair_mk (a := Kd.bool) 1 h0 (pair_mk (a := (Kd.int .u64)) 1 h1 (h2))
end Go.Proofs.YtlgfinnldhjgeaaDoor.Q
end

section
set_option linter.unusedVariables false
set_option linter.unusedSimpArgs false
namespace Go.Proofs.YtlgfinnldhjgeaaDoor.Q
open Go.RowKit Go.Sort Go.Lib Go.Proofs.YtlgfinnldhjgeaaDoorW.PrintWords Go.Proofs.YtlgfinnldhjgeaaDoorW.PrintLast Go.Proofs.YtlgfinnldhjgeaaDoorW.PrintMore
def intrusionref06_Compare.f (a0_0 : Bool) (a0_1 : Int) (a0_2 : Int) (a1_0 : Bool) (a1_1 : Int) (a1_2 : Int) : Option (Int) := some (cmpA ⟨a0_0, a0_1, a0_2⟩ ⟨a1_0, a1_1, a1_2⟩)
end Go.Proofs.YtlgfinnldhjgeaaDoor.Q
end

section
set_option linter.unusedVariables false
set_option linter.unusedSimpArgs false
namespace Go.Proofs.YtlgfinnldhjgeaaDoor.Q
open Go.RowKit Go.Proofs.YtlgfinnldhjgeaaDoorW.PrintWords Go.Proofs.YtlgfinnldhjgeaaDoorW.PrintLast Go.Proofs.YtlgfinnldhjgeaaDoorW.PrintMore
def address_Previous.f (a0_0 : Bool) (a0_1 : Int) (a0_2 : Int) : Option (Bool × Int × Int × Bool) := if (a0_1 == 0 && (a0_2 == 0)) = true then (some (false, 0, 0, false)) else some (a0_0, (if a0_2 = 0 then IntKind.u64.wrap (a0_1 - 1) else a0_1), IntKind.u64.wrap (a0_2 - 1), true)
end Go.Proofs.YtlgfinnldhjgeaaDoor.Q
end

section
namespace Go.Proofs.YtlgfinnldhjgeaaDoor.Q
open Go.RowKit Go.Proofs.YtlgfinnldhjgeaaDoorW.PrintWords Go.Proofs.YtlgfinnldhjgeaaDoorW.PrintLast Go.Proofs.YtlgfinnldhjgeaaDoorW.PrintMore
attribute [local go_sem] max2_int min2_int max_two min_two max_three min_three max_four min_four
set_option linter.unusedVariables false
set_option linter.unusedSimpArgs false
def intrusionref06_Valid.f (a0_0 : Bool) (a0_1 : Int) (a0_2 : Int) : Option (Bool) := if a0_0 = true then (some true) else (if a0_1 = 0 then (some (decide (a0_2 < 4294967296))) else (some false))
end Go.Proofs.YtlgfinnldhjgeaaDoor.Q
end

section
namespace Go.Proofs.YtlgfinnldhjgeaaDoor.Q
open Go.RowKit Go.Proofs.YtlgfinnldhjgeaaDoorW.PrintWords Go.Proofs.YtlgfinnldhjgeaaDoorW.PrintLast Go.Proofs.YtlgfinnldhjgeaaDoorW.PrintMore
attribute [local go_sem] max2_int min2_int max_two min_two max_three min_three max_four min_four
set_option linter.unusedVariables false
set_option linter.unusedSimpArgs false
def intrusionref06_Next.j0 : Nat → Bool → Bool → Int → Int → Option (Bool × Int × Int × Bool)
  | 0, _, _, _, _ => none
  | k + 1, x14, x294000, x294001, x294002 => if x14 = true then (if x294000 = true then (if x294002 = 0 then (if (IntKind.u64.wrap (x294001 + 1)) = 0 then (some (false, 0, 0, false)) else (some (x294000, IntKind.u64.wrap (x294001 + 1), x294002, true))) else (some (x294000, IntKind.u64.wrap (x294001 + 1), x294002, true))) else (if x294002 = 4294967296 then (some (false, 0, 0, false)) else (some (x294000, IntKind.u64.wrap (x294001 + 1), x294002, true)))) else (if x294000 = true then (if x294002 = 0 then (if x294001 = 0 then (some (false, 0, 0, false)) else (some (x294000, x294001, x294002, true))) else (some (x294000, x294001, x294002, true))) else (if x294002 = 4294967296 then (some (false, 0, 0, false)) else (some (x294000, x294001, x294002, true))))
def intrusionref06_Next.f (k : Nat) (a0_0 : Bool) (a0_1 : Int) (a0_2 : Int) : Option (Bool × Int × Int × Bool) := if a0_0 = true then (intrusionref06_Next.j0 k ((IntKind.u64.wrap (a0_2 + 1)) == 0) a0_0 a0_1 (IntKind.u64.wrap (a0_2 + 1))) else (intrusionref06_Next.j0 k false a0_0 a0_1 (IntKind.u64.wrap (a0_2 + 1)))
theorem intrusionref06_Next.mono_l : ∀ k, (∀ y0 y1 y2 y3, LeO (intrusionref06_Next.j0 k y0 y1 y2 y3) (intrusionref06_Next.j0 (k + 1) y0 y1 y2 y3))
  | 0 => fun _ _ _ _ r h => by simp [intrusionref06_Next.j0] at h
  | k + 1 => by
    have ih0 := intrusionref06_Next.mono_l k
    · intro y0 y1 y2 y3
      unfold intrusionref06_Next.j0
      repeat' first
      | (with_reducible exact ih0 _ _ _ _)
      | (with_reducible exact LeO.refl _)
      | (with_reducible exact LeO.none _)
      | (with_reducible refine LeO.ite ?_ ?_)
      | (with_reducible refine LeO.bind ?_ (fun _ => ?_))
      | exact ih0 _ _ _ _
      | exact LeO.none _
      | refine LeO.ite ?_ ?_
      | refine LeO.bind ?_ (fun _ => ?_)
theorem intrusionref06_Next.mono : ∀ a0 a1 a2 k, LeO (intrusionref06_Next.f k a0 a1 a2) (intrusionref06_Next.f (k + 1) a0 a1 a2) := by
  intro a0 a1 a2 k
  have ih0 := intrusionref06_Next.mono_l k
  unfold intrusionref06_Next.f
  repeat' first
      | (with_reducible exact ih0 _ _ _ _)
      | (with_reducible exact LeO.refl _)
      | (with_reducible exact LeO.none _)
      | (with_reducible refine LeO.ite ?_ ?_)
      | (with_reducible refine LeO.bind ?_ (fun _ => ?_))
      | exact ih0 _ _ _ _
      | exact LeO.none _
      | refine LeO.ite ?_ ?_
      | refine LeO.bind ?_ (fun _ => ?_)
end Go.Proofs.YtlgfinnldhjgeaaDoor.Q
end

section
namespace Go.Proofs.YtlgfinnldhjgeaaDoor.Q
open Go.RowKit Go.Proofs.YtlgfinnldhjgeaaDoorW.PrintWords Go.Proofs.YtlgfinnldhjgeaaDoorW.PrintLast Go.Proofs.YtlgfinnldhjgeaaDoorW.PrintMore
attribute [local go_sem] max2_int min2_int max_two min_two max_three min_three max_four min_four
set_option linter.unusedVariables false
set_option linter.unusedSimpArgs false
def intrusionref06_Previous.j0 : Nat → Bool → Bool → Int → Int → Option (Bool × Int × Int × Bool)
  | 0, _, _, _, _ => none
  | k + 1, x11, x296000, x296001, x296002 => if x11 = true then (some (false, 0, 0, false)) else (if x296002 = 0 then (some (x296000, IntKind.u64.wrap (x296001 - 1), IntKind.u64.wrap (x296002 - 1), true)) else (some (x296000, x296001, IntKind.u64.wrap (x296002 - 1), true)))
def intrusionref06_Previous.f (k : Nat) (a0_0 : Bool) (a0_1 : Int) (a0_2 : Int) : Option (Bool × Int × Int × Bool) := if a0_2 = 0 then (intrusionref06_Previous.j0 k (a0_1 == 0) a0_0 a0_1 a0_2) else (intrusionref06_Previous.j0 k false a0_0 a0_1 a0_2)
theorem intrusionref06_Previous.mono_l : ∀ k, (∀ y0 y1 y2 y3, LeO (intrusionref06_Previous.j0 k y0 y1 y2 y3) (intrusionref06_Previous.j0 (k + 1) y0 y1 y2 y3))
  | 0 => fun _ _ _ _ r h => by simp [intrusionref06_Previous.j0] at h
  | k + 1 => by
    have ih0 := intrusionref06_Previous.mono_l k
    · intro y0 y1 y2 y3
      unfold intrusionref06_Previous.j0
      repeat' first
      | (with_reducible exact ih0 _ _ _ _)
      | (with_reducible exact LeO.refl _)
      | (with_reducible exact LeO.none _)
      | (with_reducible refine LeO.ite ?_ ?_)
      | (with_reducible refine LeO.bind ?_ (fun _ => ?_))
      | exact ih0 _ _ _ _
      | exact LeO.none _
      | refine LeO.ite ?_ ?_
      | refine LeO.bind ?_ (fun _ => ?_)
theorem intrusionref06_Previous.mono : ∀ a0 a1 a2 k, LeO (intrusionref06_Previous.f k a0 a1 a2) (intrusionref06_Previous.f (k + 1) a0 a1 a2) := by
  intro a0 a1 a2 k
  have ih0 := intrusionref06_Previous.mono_l k
  unfold intrusionref06_Previous.f
  repeat' first
      | (with_reducible exact ih0 _ _ _ _)
      | (with_reducible exact LeO.refl _)
      | (with_reducible exact LeO.none _)
      | (with_reducible refine LeO.ite ?_ ?_)
      | (with_reducible refine LeO.bind ?_ (fun _ => ?_))
      | exact ih0 _ _ _ _
      | exact LeO.none _
      | refine LeO.ite ?_ ?_
      | refine LeO.bind ?_ (fun _ => ?_)
end Go.Proofs.YtlgfinnldhjgeaaDoor.Q
end

section
set_option linter.unusedVariables false
set_option linter.unusedSimpArgs false
namespace Go.Proofs.YtlgfinnldhjgeaaDoor.Q
open Go.RowKit Go.Proofs.YtlgfinnldhjgeaaDoorW.PrintWords Go.Proofs.YtlgfinnldhjgeaaDoorW.PrintLast Go.Proofs.YtlgfinnldhjgeaaDoorW.PrintMore
abbrev Ad := S25
def AW (a : Ad) : Prop := 0 ≤ a.f1 ∧ a.f1 < 18446744073709551616 ∧ 0 ≤ a.f2 ∧ a.f2 < 18446744073709551616
def AF (a : Ad) : Prop := AW a ∧ (a.f0 = true ∨ (a.f1 = 0 ∧ a.f2 ≤ 4294967295))
theorem wf_u64 {n : Int} (h : (Lit.int .u64 n).wf = true) : 0 ≤ n ∧ n < 18446744073709551616 := by
  simp only [Lit.wf, Bool.and_eq_true, decide_eq_true_eq] at h
  have e1 : IntKind.u64.min = 0 := by decide
  have e2 : IntKind.u64.max = 18446744073709551615 := by decide
  rw [e1, e2] at h
  omega
theorem aw_of {a : Ad} (h : q25 a) : AW a := by
  obtain ⟨_, h1, h2⟩ := h
  have := wf_u64 h1
  have := wf_u64 h2
  exact ⟨by omega, by omega, by omega, by omega⟩
def fineB (a : Ad) : Bool := a.f0 || (decide (a.f1 = 0) && decide (a.f2 ≤ 4294967295))
theorem fine_eq (a : Ad) : address_Valid.f a.f0 a.f1 a.f2 = some (fineB a) := by
  unfold address_Valid.f fineB
  cases a.f0
  · by_cases h : a.f1 = 0 <;> simp [h]
  · simp
theorem fine_iff {a : Ad} (ha : AW a) : fineB a = true ↔ AF a := by
  unfold fineB AF
  simp only [Bool.or_eq_true, Bool.and_eq_true, decide_eq_true_eq]
  exact ⟨fun h => ⟨ha, h⟩, fun h => h.2⟩
theorem u64_id {n : Int} (h0 : 0 ≤ n) (h1 : n < 18446744073709551616) : IntKind.u64.wrap n = n := IntWalk.u64_in n ⟨h0, by omega⟩
instance decAd : DecidableEq Ad := fun a b => decidable_of_iff (a.f0 = b.f0 ∧ a.f1 = b.f1 ∧ a.f2 = b.f2) ⟨fun h => by cases a; cases b; simp at h; simp [h], fun h => by rw [h]; exact ⟨rfl, rfl, rfl⟩⟩
end Go.Proofs.YtlgfinnldhjgeaaDoor.Q
end

section
set_option linter.unusedVariables false
set_option linter.unusedSimpArgs false
namespace Go.Proofs.YtlgfinnldhjgeaaDoor.Q
open Go.RowKit Go.Proofs.YtlgfinnldhjgeaaDoorW.PrintWords Go.Proofs.YtlgfinnldhjgeaaDoorW.PrintLast Go.Proofs.YtlgfinnldhjgeaaDoorW.PrintMore
def address_Bounds.f (a0_0 : Bool) (a0_1 : Int) (a0_2 : Int) (a0_3 : Int) : Option (Bool × Int × Int × Bool × Int × Int) := (address_mask.f a0_0 a0_1 a0_2 a0_3).bind fun bt => some (a0_0, a0_1, a0_2, a0_0, Go.bits .or .u64 a0_1 bt.1, Go.bits .or .u64 a0_2 bt.2)
end Go.Proofs.YtlgfinnldhjgeaaDoor.Q
end

section
namespace Go.Proofs.YtlgfinnldhjgeaaDoor.Q
open Go.RowKit Go.Proofs.YtlgfinnldhjgeaaDoorW.PrintWords Go.Proofs.YtlgfinnldhjgeaaDoorW.PrintLast Go.Proofs.YtlgfinnldhjgeaaDoorW.PrintMore
attribute [local go_sem] max2_int min2_int max_two min_two max_three min_three max_four min_four
set_option linter.unusedVariables false
set_option linter.unusedSimpArgs false
def intrusionref06_Width.f (a0_0 : Bool) (a0_1 : Int) (a0_2 : Int) : Option (Int) := if a0_0 = true then (some 128) else (some 32)
end Go.Proofs.YtlgfinnldhjgeaaDoor.Q
end

section
namespace Go.Proofs.YtlgfinnldhjgeaaDoor.Q
open Go.RowKit Go.Proofs.YtlgfinnldhjgeaaDoorW.PrintWords Go.Proofs.YtlgfinnldhjgeaaDoorW.PrintLast Go.Proofs.YtlgfinnldhjgeaaDoorW.PrintMore
attribute [local go_sem] max2_int min2_int max_two min_two max_three min_three max_four min_four
set_option linter.unusedVariables false
set_option linter.unusedSimpArgs false
def intrusionref06_Bit.f (a0_0 : Bool) (a0_1 : Int) (a0_2 : Int) (a1 : Int) : Option (Bool) := if a0_0 = true then (if a1 < 64 then (if 0 ≤ (IntKind.u64.wrap (wrap64 (63 - a1))) then (some ((Go.bits .and .u64 (shr .u64 a0_1 (IntKind.u64.wrap (wrap64 (63 - a1)))) 1) == 1)) else (none)) else (if 0 ≤ (IntKind.u64.wrap (wrap64 (127 - a1))) then (some ((Go.bits .and .u64 (shr .u64 a0_2 (IntKind.u64.wrap (wrap64 (127 - a1)))) 1) == 1)) else (none))) else (if 0 ≤ (IntKind.u64.wrap (wrap64 (31 - a1))) then (some ((Go.bits .and .u64 (shr .u64 a0_2 (IntKind.u64.wrap (wrap64 (31 - a1)))) 1) == 1)) else (none))
end Go.Proofs.YtlgfinnldhjgeaaDoor.Q
end

section
namespace Go.Proofs.YtlgfinnldhjgeaaDoor.Q
open Go.RowKit Go.Proofs.YtlgfinnldhjgeaaDoorW.PrintWords Go.Proofs.YtlgfinnldhjgeaaDoorW.PrintLast Go.Proofs.YtlgfinnldhjgeaaDoorW.PrintMore
attribute [local go_sem] max2_int min2_int max_two min_two max_three min_three max_four min_four
set_option linter.unusedVariables false
set_option linter.unusedSimpArgs false
def intrusionref06_with.l0 : Nat → Bool → Int → Bool → Int → Int → Option (Bool × Int × Int)
  | 0, _, _, _, _, _ => none
  | k + 1, x2, x7, x244000, x244001, x244002 => (intrusionref06_Width.f x244000 x244001 x244002).bind fun t245 => (if x7 < t245 then ((intrusionref06_Bit.f x244000 x244001 x244002 x7).bind fun t246 => (if (t246 == x2) = true then (intrusionref06_with.l0 k x2 (wrap64 (x7 + 1)) x244000 x244001 x244002) else (if x244000 = true then (if x7 < 64 then (if 0 ≤ (IntKind.u64.wrap (wrap64 (63 - x7))) then (intrusionref06_with.l0 k x2 (wrap64 (x7 + 1)) x244000 (Go.bits .xor .u64 x244001 (shl .u64 1 (IntKind.u64.wrap (wrap64 (63 - x7))))) x244002) else (none)) else (if 0 ≤ (IntKind.u64.wrap (wrap64 (127 - x7))) then (intrusionref06_with.l0 k x2 (wrap64 (x7 + 1)) x244000 x244001 (Go.bits .xor .u64 x244002 (shl .u64 1 (IntKind.u64.wrap (wrap64 (127 - x7)))))) else (none))) else (if 0 ≤ (IntKind.u64.wrap (wrap64 (31 - x7))) then (intrusionref06_with.l0 k x2 (wrap64 (x7 + 1)) x244000 x244001 (Go.bits .xor .u64 x244002 (shl .u64 1 (IntKind.u64.wrap (wrap64 (31 - x7)))))) else (none))))) else (some (x244000, x244001, x244002)))
def intrusionref06_with.f (k : Nat) (a0_0 : Bool) (a0_1 : Int) (a0_2 : Int) (a1 : Int) (a2 : Bool) : Option (Bool × Int × Int) := intrusionref06_with.l0 k a2 a1 a0_0 a0_1 a0_2
theorem intrusionref06_with.mono_l : ∀ k, (∀ y0 y1 y2 y3 y4, LeO (intrusionref06_with.l0 k y0 y1 y2 y3 y4) (intrusionref06_with.l0 (k + 1) y0 y1 y2 y3 y4))
  | 0 => fun _ _ _ _ _ r h => by simp [intrusionref06_with.l0] at h
  | k + 1 => by
    have ih0 := intrusionref06_with.mono_l k
    · intro y0 y1 y2 y3 y4
      unfold intrusionref06_with.l0
      repeat' first
      | (with_reducible exact ih0 _ _ _ _ _)
      | (with_reducible exact LeO.refl _)
      | (with_reducible exact LeO.none _)
      | (with_reducible refine LeO.ite ?_ ?_)
      | (with_reducible refine LeO.bind ?_ (fun _ => ?_))
      | exact ih0 _ _ _ _ _
      | exact LeO.none _
      | refine LeO.ite ?_ ?_
      | refine LeO.bind ?_ (fun _ => ?_)
theorem intrusionref06_with.mono : ∀ a0 a1 a2 a3 a4 k, LeO (intrusionref06_with.f k a0 a1 a2 a3 a4) (intrusionref06_with.f (k + 1) a0 a1 a2 a3 a4) := by
  intro a0 a1 a2 a3 a4 k
  have ih0 := intrusionref06_with.mono_l k
  unfold intrusionref06_with.f
  repeat' first
      | (with_reducible exact ih0 _ _ _ _ _)
      | (with_reducible exact LeO.refl _)
      | (with_reducible exact LeO.none _)
      | (with_reducible refine LeO.ite ?_ ?_)
      | (with_reducible refine LeO.bind ?_ (fun _ => ?_))
      | exact ih0 _ _ _ _ _
      | exact LeO.none _
      | refine LeO.ite ?_ ?_
      | refine LeO.bind ?_ (fun _ => ?_)
end Go.Proofs.YtlgfinnldhjgeaaDoor.Q
end

section
namespace Go.Proofs.YtlgfinnldhjgeaaDoor.Q
open Go.RowKit Go.Proofs.YtlgfinnldhjgeaaDoorW.PrintWords Go.Proofs.YtlgfinnldhjgeaaDoorW.PrintLast Go.Proofs.YtlgfinnldhjgeaaDoorW.PrintMore
attribute [local go_sem] max2_int min2_int max_two min_two max_three min_three max_four min_four
set_option linter.unusedVariables false
set_option linter.unusedSimpArgs false
def intrusionref06_MakePrefix.f (k : Nat) (a0_0 : Bool) (a0_1 : Int) (a0_2 : Int) (a1 : Int) : Option (Bool × Int × Int × Int × Int) := if a1 < 0 then (some (false, 0, 0, 0, 4)) else ((intrusionref06_Width.f a0_0 a0_1 a0_2).bind fun t299 => (if a1 > t299 then (some (false, 0, 0, 0, 4)) else ((intrusionref06_with.f k a0_0 a0_1 a0_2 a1 false).bind fun bt300 => (some (bt300.1, bt300.2.1, bt300.2.2, a1, 0)))))
theorem intrusionref06_MakePrefix.mono : ∀ a0 a1 a2 a3 k, LeO (intrusionref06_MakePrefix.f k a0 a1 a2 a3) (intrusionref06_MakePrefix.f (k + 1) a0 a1 a2 a3) := by
  intro a0 a1 a2 a3 k
  unfold intrusionref06_MakePrefix.f
  repeat' first
      | (with_reducible exact intrusionref06_with.mono _ _ _ _ _ _)
      | (with_reducible exact LeO.refl _)
      | (with_reducible exact LeO.none _)
      | (with_reducible refine LeO.ite ?_ ?_)
      | (with_reducible refine LeO.bind ?_ (fun _ => ?_))
      | exact intrusionref06_with.mono _ _ _ _ _ _
      | exact LeO.none _
      | refine LeO.ite ?_ ?_
      | refine LeO.bind ?_ (fun _ => ?_)
end Go.Proofs.YtlgfinnldhjgeaaDoor.Q
end

section
namespace Go.Proofs.YtlgfinnldhjgeaaDoor.Q
open Go.RowKit Go.Proofs.YtlgfinnldhjgeaaDoorW.PrintWords Go.Proofs.YtlgfinnldhjgeaaDoorW.PrintLast Go.Proofs.YtlgfinnldhjgeaaDoorW.PrintMore
attribute [local go_sem] max2_int min2_int max_two min_two max_three min_three max_four min_four
set_option linter.unusedVariables false
set_option linter.unusedSimpArgs false
attribute [local go_sem high] eqA25
def intrusionref06_Contains.f (k : Nat) (a0_0 : Bool) (a0_1 : Int) (a0_2 : Int) (a0_3 : Int) (a1_0 : Bool) (a1_1 : Int) (a1_2 : Int) : Option (Bool) := if (a0_0 == a1_0) = true then ((intrusionref06_with.f k a1_0 a1_1 a1_2 a0_3 false).bind fun bt305 => (some (bt305.1 == a0_0 && (bt305.2.1 == a0_1 && (bt305.2.2 == a0_2))))) else (some false)
theorem intrusionref06_Contains.mono : ∀ a0 a1 a2 a3 a4 a5 a6 k, LeO (intrusionref06_Contains.f k a0 a1 a2 a3 a4 a5 a6) (intrusionref06_Contains.f (k + 1) a0 a1 a2 a3 a4 a5 a6) := by
  intro a0 a1 a2 a3 a4 a5 a6 k
  unfold intrusionref06_Contains.f
  repeat' first
      | (with_reducible exact intrusionref06_with.mono _ _ _ _ _ _)
      | (with_reducible exact LeO.refl _)
      | (with_reducible exact LeO.none _)
      | (with_reducible refine LeO.ite ?_ ?_)
      | (with_reducible refine LeO.bind ?_ (fun _ => ?_))
      | exact intrusionref06_with.mono _ _ _ _ _ _
      | exact LeO.none _
      | refine LeO.ite ?_ ?_
      | refine LeO.bind ?_ (fun _ => ?_)
end Go.Proofs.YtlgfinnldhjgeaaDoor.Q
end

section
namespace Go.Proofs.YtlgfinnldhjgeaaDoor.Q
open Go.RowKit Go.Proofs.YtlgfinnldhjgeaaDoorW.PrintWords Go.Proofs.YtlgfinnldhjgeaaDoorW.PrintLast Go.Proofs.YtlgfinnldhjgeaaDoorW.PrintMore
attribute [local go_sem] max2_int min2_int max_two min_two max_three min_three max_four min_four
set_option linter.unusedVariables false
set_option linter.unusedSimpArgs false
attribute [local go_sem high] eqA25
def intrusionref06_ValidPrefix.f (k : Nat) (a0_0 : Bool) (a0_1 : Int) (a0_2 : Int) (a0_3 : Int) : Option (Bool) := (intrusionref06_Valid.f a0_0 a0_1 a0_2).bind fun t248 => (if t248 = true then (if a0_3 ≥ 0 then ((intrusionref06_Width.f a0_0 a0_1 a0_2).bind fun t249 => (if a0_3 ≤ t249 then ((intrusionref06_with.f k a0_0 a0_1 a0_2 a0_3 false).bind fun bt250 => (some (bt250.1 == a0_0 && (bt250.2.1 == a0_1 && (bt250.2.2 == a0_2))))) else (some false))) else (some false)) else (some false))
theorem intrusionref06_ValidPrefix.mono : ∀ a0 a1 a2 a3 k, LeO (intrusionref06_ValidPrefix.f k a0 a1 a2 a3) (intrusionref06_ValidPrefix.f (k + 1) a0 a1 a2 a3) := by
  intro a0 a1 a2 a3 k
  unfold intrusionref06_ValidPrefix.f
  repeat' first
      | (with_reducible exact intrusionref06_with.mono _ _ _ _ _ _)
      | (with_reducible exact LeO.refl _)
      | (with_reducible exact LeO.none _)
      | (with_reducible refine LeO.ite ?_ ?_)
      | (with_reducible refine LeO.bind ?_ (fun _ => ?_))
      | exact intrusionref06_with.mono _ _ _ _ _ _
      | exact LeO.none _
      | refine LeO.ite ?_ ?_
      | refine LeO.bind ?_ (fun _ => ?_)
end Go.Proofs.YtlgfinnldhjgeaaDoor.Q
end

section
namespace Go.Proofs.YtlgfinnldhjgeaaDoor.Q
open Go.RowKit Go.Proofs.YtlgfinnldhjgeaaDoorW.PrintWords Go.Proofs.YtlgfinnldhjgeaaDoorW.PrintLast Go.Proofs.YtlgfinnldhjgeaaDoorW.PrintMore
attribute [local go_sem] max2_int min2_int max_two min_two max_three min_three max_four min_four
set_option linter.unusedVariables false
set_option linter.unusedSimpArgs false
def intrusionref06_Bounds.f (k : Nat) (a0_0 : Bool) (a0_1 : Int) (a0_2 : Int) (a0_3 : Int) : Option (Bool × Int × Int × Bool × Int × Int) := (intrusionref06_with.f k a0_0 a0_1 a0_2 a0_3 true).bind fun bt474 => (some (a0_0, a0_1, a0_2, bt474.1, bt474.2.1, bt474.2.2))
theorem intrusionref06_Bounds.mono : ∀ a0 a1 a2 a3 k, LeO (intrusionref06_Bounds.f k a0 a1 a2 a3) (intrusionref06_Bounds.f (k + 1) a0 a1 a2 a3) := by
  intro a0 a1 a2 a3 k
  unfold intrusionref06_Bounds.f
  repeat' first
      | (with_reducible exact intrusionref06_with.mono _ _ _ _ _ _)
      | (with_reducible exact LeO.refl _)
      | (with_reducible exact LeO.none _)
      | (with_reducible refine LeO.ite ?_ ?_)
      | (with_reducible refine LeO.bind ?_ (fun _ => ?_))
      | exact intrusionref06_with.mono _ _ _ _ _ _
      | exact LeO.none _
      | refine LeO.ite ?_ ?_
      | refine LeO.bind ?_ (fun _ => ?_)
end Go.Proofs.YtlgfinnldhjgeaaDoor.Q
end

section
set_option linter.unusedVariables false
set_option linter.unusedSimpArgs false
namespace Go.Proofs.YtlgfinnldhjgeaaDoor.Q
open Go.RowKit Go.Proofs.YtlgfinnldhjgeaaDoorW.PrintWords Go.Proofs.YtlgfinnldhjgeaaDoorW.PrintLast Go.Proofs.YtlgfinnldhjgeaaDoorW.PrintMore
theorem wid {x : Int} (h0 : -9223372036854775808 ≤ x) (h1 : x ≤ 9223372036854775807) : wrap64 x = x := by unfold wrap64; omega
def setN (n k : Nat) (b : Bool) : Nat := n - n % 2 ^ k + (if b then 2 ^ k - 1 else 0)
theorem ofInt_toNat (x : Nat) (h : x < 18446744073709551616) : (BitVec.ofInt 64 (x : Int)).toNat = x := by
  rw [BitVec.toNat_ofInt]
  simp
  omega
theorem pow_le64 (n : Nat) (hn : n ≤ 64) : 2 ^ n ≤ 18446744073709551616 := Nat.le_trans (Nat.pow_le_pow_right (by decide) hn) (by decide)
theorem bits_and (x n : Nat) (hx : x < 18446744073709551616) (hn : n ≤ 64) : Go.bits .and .u64 (x : Int) ((2 ^ n - 1 : Nat) : Int) = ((x % 2 ^ n : Nat) : Int) := by
  have hp := pow_le64 n hn
  have hpos : 0 < 2 ^ n := Nat.pow_pos (by decide)
  unfold Go.bits
  show IntKind.u64.wrap ((((BitVec.ofInt 64 (x : Int)) &&& (BitVec.ofInt 64 ((2 ^ n - 1 : Nat) : Int))).toNat : Nat) : Int) = _
  rw [BitVec.toNat_and, ofInt_toNat x hx, ofInt_toNat _ (by omega), Nat.and_two_pow_sub_one_eq_mod]
  have := Nat.mod_le x (2 ^ n)
  exact u64_id (by omega) (by omega)
theorem shl_one (n : Nat) (hn : n < 64) : IntKind.u64.wrap ((shl .u64 1 (n : Int)) - 1) = ((2 ^ n - 1 : Nat) : Int) := by
  have hp : 2 ^ n ≤ 9223372036854775808 := Nat.le_trans (Nat.pow_le_pow_right (by decide) (show n ≤ 63 by omega)) (by decide)
  have hpos : 0 < 2 ^ n := Nat.pow_pos (by decide)
  have e : shl .u64 1 (n : Int) = ((2 ^ n : Nat) : Int) := by
    unfold shl
    rw [show min (n : Int).toNat IntKind.u64.bits = n from by show min n 64 = n; omega]
    rw [Int.one_mul, show (2 : Int) ^ n = ((2 ^ n : Nat) : Int) from by simp]
    exact u64_id (by omega) (by omega)
  rw [e]
  rw [u64_id (by omega) (by omega)]
  omega
def hiM (k : Nat) : Int := ((2 ^ (k - 64) - 1 : Nat) : Int)
def loM (k : Nat) : Int := ((2 ^ (min k 64) - 1 : Nat) : Int)
def szA (f : Bool) : Nat := if f then 128 else 32
theorem low_eq (n : Int) (h : n ≤ 1000) : address_low.f n = some (((2 ^ (min n.toNat 64) - 1 : Nat)) : Int) := by
  unfold address_low.f
  by_cases h1 : n ≥ 64
  · rw [if_pos h1, show min n.toNat 64 = 64 from by omega]
    rfl
  · rw [if_neg h1]
    by_cases h2 : n ≤ 0
    · rw [if_pos h2, show min n.toNat 64 = 0 from by omega]
      rfl
    · rw [if_neg h2, if_pos (by omega), show min n.toNat 64 = n.toNat from by omega]
      have := shl_one n.toNat (by omega)
      rw [show ((n.toNat : Nat) : Int) = n from by omega] at this
      rw [this]
theorem size_eq (a : Ad) : address_size.f a.f0 a.f1 a.f2 = some ((szA a.f0 : Nat) : Int) := by
  unfold address_size.f szA
  cases a.f0 <;> rfl
theorem mask_eq (a : Ad) (b : Int) (k : Nat) (hk : (k : Int) = (szA a.f0 : Int) - b) (h0 : 0 ≤ b) (h1 : b ≤ szA a.f0) : address_mask.f a.f0 a.f1 a.f2 b = some (hiM k, loM k) := by
  have hs : szA a.f0 ≤ 128 := by unfold szA; split <;> omega
  unfold address_mask.f
  rw [size_eq]
  simp only [Option.bind_some]
  rw [wid (x := (szA a.f0 : Int) - b) (by omega) (by omega), ← hk, wid (x := (k : Int) - 64) (by omega) (by omega), low_eq _ (by omega), low_eq _ (by omega)]
  simp only [Option.bind_some]
  unfold hiM loM
  rw [show min ((k : Int) - 64).toNat 64 = k - 64 from by omega, show min ((k : Nat) : Int).toNat 64 = min k 64 from by omega]
theorem setN_le {n k m : Nat} (b : Bool) (hn : n < 2 ^ m) (hk : k ≤ m) : setN n k b < 2 ^ m := by
  have hp : 0 < 2 ^ k := Nat.pow_pos (by decide)
  have d2 := Nat.div_add_mod n (2 ^ k)
  have hl := Nat.mod_lt n hp
  have e : 2 ^ m = 2 ^ k * 2 ^ (m - k) := by rw [← Nat.pow_add, show k + (m - k) = m from by omega]
  have h1 : n / 2 ^ k < 2 ^ (m - k) := Nat.div_lt_of_lt_mul (by rw [← e]; exact hn)
  have h2 : 2 ^ k * (n / 2 ^ k + 1) ≤ 2 ^ k * 2 ^ (m - k) := Nat.mul_le_mul_left _ h1
  rw [Nat.mul_add, Nat.mul_one, ← e] at h2
  unfold setN
  split <;> omega
theorem andNot_low (X M : BitVec 64) (n : Nat) (hn : n ≤ 64) (hM : M.toNat = 2 ^ n - 1) : (X &&& ~~~M).toNat = X.toNat - X.toNat % 2 ^ n := by
  have hpos : 0 < 2 ^ n := Nat.pow_pos (by decide)
  have hp := pow_le64 n hn
  have e : 18446744073709551616 = 2 ^ n * 2 ^ (64 - n) := by rw [← Nat.pow_add, show n + (64 - n) = 64 from by omega]
  have hq : 0 < 2 ^ (64 - n) := Nat.pow_pos (by decide)
  have hX := X.isLt
  rw [BitVec.toNat_and, BitVec.toNat_not, hM]
  have hC : 2 ^ 64 - 1 - (2 ^ n - 1) = 2 ^ n * (2 ^ (64 - n) - 1) := by
    rw [Nat.mul_sub, ← e, Nat.mul_one]
    omega
  rw [hC]
  generalize X.toNat = x at *
  have h1 : (x &&& (2 ^ n * (2 ^ (64 - n) - 1))) / 2 ^ n = x / 2 ^ n := by
    rw [Nat.and_div_two_pow, Nat.mul_div_cancel_left _ hpos, Nat.and_two_pow_sub_one_eq_mod]
    exact Nat.mod_eq_of_lt (Nat.div_lt_of_lt_mul (by rw [← e]; exact hX))
  have h2 : (x &&& (2 ^ n * (2 ^ (64 - n) - 1))) % 2 ^ n = 0 := by
    rw [Nat.and_mod_two_pow, Nat.mul_mod_right]
    simp
  have d1 := Nat.div_add_mod (x &&& (2 ^ n * (2 ^ (64 - n) - 1))) (2 ^ n)
  have d2 := Nat.div_add_mod x (2 ^ n)
  rw [h1, h2] at d1
  omega
theorem bits_andNot (x n : Nat) (hx : x < 18446744073709551616) (hn : n ≤ 64) : Go.bits .andNot .u64 (x : Int) ((2 ^ n - 1 : Nat) : Int) = ((setN x n false : Nat) : Int) := by
  have hp := pow_le64 n hn
  have hpos : 0 < 2 ^ n := Nat.pow_pos (by decide)
  unfold Go.bits
  show IntKind.u64.wrap ((((BitVec.ofInt 64 (x : Int)) &&& ~~~(BitVec.ofInt 64 ((2 ^ n - 1 : Nat) : Int))).toNat : Nat) : Int) = _
  rw [andNot_low _ _ n hn (ofInt_toNat _ (by omega)), ofInt_toNat x hx]
  unfold setN
  simp only [Bool.false_eq_true, if_false, Nat.add_zero]
  exact u64_id (by omega) (by omega)
def nv (a : Ad) : Nat := a.f1.toNat * 18446744073709551616 + a.f2.toNat
def mkN (f : Bool) (n : Nat) : Ad := ⟨f, ((n / 18446744073709551616 : Nat) : Int), ((n % 18446744073709551616 : Nat) : Int)⟩
theorem nv_mkN (f : Bool) (n : Nat) : nv (mkN f n) = n := by unfold nv mkN; simp only [Int.toNat_natCast]; omega
theorem mkN_f0 (f : Bool) (n : Nat) : (mkN f n).f0 = f := rfl
theorem mkN_aw (f : Bool) {n : Nat} (h : n < 340282366920938463463374607431768211456) : AW (mkN f n) := by
  unfold AW mkN
  exact ⟨by simp; omega, by simp; omega, by simp; omega, by simp; omega⟩
theorem szA_cases (f : Bool) : szA f = 128 ∧ f = true ∨ szA f = 32 ∧ f = false := by cases f <;> simp [szA]
theorem AF.nvlt {a : Ad} (h : AF a) : nv a < 2 ^ szA a.f0 := by
  obtain ⟨⟨h1, h2, h3, h4⟩, h5⟩ := h
  unfold nv
  rcases szA_cases a.f0 with ⟨e, e2⟩ | ⟨e, e2⟩ <;> rw [e]
  · rw [show (2 : Nat) ^ 128 = 340282366920938463463374607431768211456 from by decide]; omega
  · rw [show (2 : Nat) ^ 32 = 4294967296 from by decide]
    rcases h5 with h5 | h5
    · rw [e2] at h5; cases h5
    · omega
theorem mkN_af {f : Bool} {n : Nat} (h : n < 2 ^ szA f) : AF (mkN f n) := by
  rcases szA_cases f with ⟨e, e2⟩ | ⟨e, e2⟩ <;> rw [e] at h
  · rw [show (2 : Nat) ^ 128 = 340282366920938463463374607431768211456 from by decide] at h
    exact ⟨mkN_aw f h, .inl e2⟩
  · rw [show (2 : Nat) ^ 32 = 4294967296 from by decide] at h
    exact ⟨mkN_aw f (by omega), .inr ⟨by unfold mkN; simp; omega, by unfold mkN; simp; omega⟩⟩
def subA (a : Ad) (k : Nat) (b : Bool) : Ad := mkN a.f0 (setN (nv a) k b)
theorem subA_f0 (a : Ad) (k : Nat) (b : Bool) : (subA a k b).f0 = a.f0 := rfl
theorem subA_af {a : Ad} (h : AF a) {k : Nat} (hk : k ≤ szA a.f0) (b : Bool) : AF (subA a k b) := mkN_af (setN_le b h.nvlt hk)
theorem setN_parts (x y k : Nat) (hy : y < 18446744073709551616) (hk : k ≤ 128) (b : Bool) : setN (x * 18446744073709551616 + y) k b / 18446744073709551616 = setN x (k - 64) b ∧ setN (x * 18446744073709551616 + y) k b % 18446744073709551616 = setN y (min k 64) b := by
  by_cases h : k ≤ 64
  · rw [show k - 64 = 0 from by omega, show min k 64 = k from by omega]
    have e : 18446744073709551616 = 2 ^ k * 2 ^ (64 - k) := by rw [← Nat.pow_add, show k + (64 - k) = 64 from by omega]
    have hm : (x * 18446744073709551616 + y) % 2 ^ k = y % 2 ^ k := by
      rw [e, show x * (2 ^ k * 2 ^ (64 - k)) + y = 2 ^ k * (x * 2 ^ (64 - k)) + y from by rw [Nat.mul_left_comm], Nat.mul_add_mod]
    have hl := setN_le (m := 64) b hy h
    unfold setN at hl ⊢
    rw [hm]
    have hle := Nat.mod_le y (2 ^ k)
    have e0 : x % 2 ^ 0 = 0 := by rw [Nat.pow_zero]; omega
    rw [e0, Nat.pow_zero]
    generalize y % 2 ^ k = r at *
    generalize 2 ^ k = p at *
    rw [show (2 : Nat) ^ 64 = 18446744073709551616 from by decide] at hl
    cases b
    · simp only [Bool.false_eq_true, if_false] at hl ⊢
      omega
    · simp only [if_true] at hl ⊢
      omega
  · rw [show min k 64 = 64 from by omega]
    have e : 2 ^ k = 18446744073709551616 * 2 ^ (k - 64) := by rw [show 18446744073709551616 = 2 ^ 64 from by decide, ← Nat.pow_add, show 64 + (k - 64) = k from by omega]
    have hm : (x * 18446744073709551616 + y) % 2 ^ k = y + 18446744073709551616 * (x % 2 ^ (k - 64)) := by
      rw [e, Nat.mod_mul]
      rw [show (x * 18446744073709551616 + y) % 18446744073709551616 = y from by omega, show (x * 18446744073709551616 + y) / 18446744073709551616 = x from by omega]
    have hp : 0 < 2 ^ (k - 64) := Nat.pow_pos (by decide)
    unfold setN
    rw [hm, e, show y % 2 ^ 64 = y from Nat.mod_eq_of_lt hy]
    have hle := Nat.mod_le x (2 ^ (k - 64))
    generalize x % 2 ^ (k - 64) = r at *
    generalize 2 ^ (k - 64) = p at *
    rw [show (2 : Nat) ^ 64 = 18446744073709551616 from by decide]
    cases b
    · simp only [Bool.false_eq_true, if_false]
      omega
    · simp only [if_true]
      omega
theorem subA_eq {a : Ad} (h : AW a) {k : Nat} (hk : k ≤ 128) (b : Bool) : subA a k b = ⟨a.f0, ((setN a.f1.toNat (k - 64) b : Nat) : Int), ((setN a.f2.toNat (min k 64) b : Nat) : Int)⟩ := by
  obtain ⟨h1, h2, h3, h4⟩ := h
  have := setN_parts a.f1.toNat a.f2.toNat k (by omega) hk b
  unfold subA mkN nv
  rw [this.1, this.2]
theorem maskOff {a : Ad} (h : AW a) {k : Nat} (hk : k ≤ 128) : Go.bits .andNot .u64 a.f1 (hiM k) = (subA a k false).f1 ∧ Go.bits .andNot .u64 a.f2 (loM k) = (subA a k false).f2 := by
  rw [subA_eq h hk]
  obtain ⟨h1, h2, h3, h4⟩ := h
  have e1 := bits_andNot a.f1.toNat (k - 64) (by omega) (by omega)
  have e2 := bits_andNot a.f2.toNat (min k 64) (by omega) (by omega)
  rw [show ((a.f1.toNat : Nat) : Int) = a.f1 from by omega] at e1
  rw [show ((a.f2.toNat : Nat) : Int) = a.f2 from by omega] at e2
  exact ⟨e1, e2⟩
end Go.Proofs.YtlgfinnldhjgeaaDoor.Q
end

section
namespace Go.Proofs.YtlgfinnldhjgeaaDoor.Q
open Go.RowKit Go.Proofs.YtlgfinnldhjgeaaDoorW.PrintWords Go.Proofs.YtlgfinnldhjgeaaDoorW.PrintLast Go.Proofs.YtlgfinnldhjgeaaDoorW.PrintMore
attribute [local go_sem] max2_int min2_int max_two min_two max_three min_three max_four min_four
set_option linter.unusedVariables false
set_option linter.unusedSimpArgs false
mutual
def intrusionref06_FromBytes.j0 : Nat → ByteArray → Bool → Option (Bool × Int × Int × Int)
  | 0, _, _ => none
  | k + 1, x0, x13 => if x13 = true then (some (false, 0, 0, 2)) else (intrusionref06_FromBytes.l0 k x0 0 ((x0.size : Int) == 16) 0 0)
def intrusionref06_FromBytes.l0 : Nat → ByteArray → Int → Bool → Int → Int → Option (Bool × Int × Int × Int)
  | 0, _, _, _, _, _ => none
  | k + 1, x0, x5, x405000, x405001, x405002 => if x5 < (x0.size : Int) then (if x405000 = true then (if x5 < 8 then (if 0 ≤ x5 then (intrusionref06_FromBytes.l0 k x0 (wrap64 (x5 + 1)) x405000 (Go.bits .or .u64 (IntKind.u64.wrap (x405001 * 256)) (IntKind.u64.wrap (bt x0 x5))) x405002) else (none)) else (if 0 ≤ x5 then (intrusionref06_FromBytes.l0 k x0 (wrap64 (x5 + 1)) x405000 x405001 (Go.bits .or .u64 (IntKind.u64.wrap (x405002 * 256)) (IntKind.u64.wrap (bt x0 x5)))) else (none))) else (if 0 ≤ x5 then (intrusionref06_FromBytes.l0 k x0 (wrap64 (x5 + 1)) x405000 x405001 (Go.bits .or .u64 (IntKind.u64.wrap (x405002 * 256)) (IntKind.u64.wrap (bt x0 x5)))) else (none))) else (some (x405000, x405001, x405002, 0))
end
def intrusionref06_FromBytes.f (k : Nat) (a0 : ByteArray) : Option (Bool × Int × Int × Int) := if (a0.size : Int) = 4 then (intrusionref06_FromBytes.j0 k a0 false) else (intrusionref06_FromBytes.j0 k a0 ((a0.size : Int) != 16))
theorem intrusionref06_FromBytes.mono_l : ∀ k, (∀ y0 y1, LeO (intrusionref06_FromBytes.j0 k y0 y1) (intrusionref06_FromBytes.j0 (k + 1) y0 y1)) ∧ (∀ y0 y1 y2 y3 y4, LeO (intrusionref06_FromBytes.l0 k y0 y1 y2 y3 y4) (intrusionref06_FromBytes.l0 (k + 1) y0 y1 y2 y3 y4))
  | 0 => ⟨fun _ _ r h => by simp [intrusionref06_FromBytes.j0] at h, fun _ _ _ _ _ r h => by simp [intrusionref06_FromBytes.l0] at h⟩
  | k + 1 => by
    obtain ⟨ih0, ih1⟩ := intrusionref06_FromBytes.mono_l k
    refine ⟨?_, ?_⟩
    · intro y0 y1
      unfold intrusionref06_FromBytes.j0
      repeat' first
      | (with_reducible exact ih0 _ _)
      | (with_reducible exact ih1 _ _ _ _ _)
      | (with_reducible exact LeO.refl _)
      | (with_reducible exact LeO.none _)
      | (with_reducible refine LeO.ite ?_ ?_)
      | (with_reducible refine LeO.bind ?_ (fun _ => ?_))
      | exact ih0 _ _
      | exact ih1 _ _ _ _ _
      | exact LeO.none _
      | refine LeO.ite ?_ ?_
      | refine LeO.bind ?_ (fun _ => ?_)
    · intro y0 y1 y2 y3 y4
      unfold intrusionref06_FromBytes.l0
      repeat' first
      | (with_reducible exact ih0 _ _)
      | (with_reducible exact ih1 _ _ _ _ _)
      | (with_reducible exact LeO.refl _)
      | (with_reducible exact LeO.none _)
      | (with_reducible refine LeO.ite ?_ ?_)
      | (with_reducible refine LeO.bind ?_ (fun _ => ?_))
      | exact ih0 _ _
      | exact ih1 _ _ _ _ _
      | exact LeO.none _
      | refine LeO.ite ?_ ?_
      | refine LeO.bind ?_ (fun _ => ?_)
theorem intrusionref06_FromBytes.mono : ∀ a0 k, LeO (intrusionref06_FromBytes.f k a0) (intrusionref06_FromBytes.f (k + 1) a0) := by
  intro a0 k
  obtain ⟨ih0, ih1⟩ := intrusionref06_FromBytes.mono_l k
  unfold intrusionref06_FromBytes.f
  repeat' first
      | (with_reducible exact ih0 _ _)
      | (with_reducible exact ih1 _ _ _ _ _)
      | (with_reducible exact LeO.refl _)
      | (with_reducible exact LeO.none _)
      | (with_reducible refine LeO.ite ?_ ?_)
      | (with_reducible refine LeO.bind ?_ (fun _ => ?_))
      | exact ih0 _ _
      | exact ih1 _ _ _ _ _
      | exact LeO.none _
      | refine LeO.ite ?_ ?_
      | refine LeO.bind ?_ (fun _ => ?_)
end Go.Proofs.YtlgfinnldhjgeaaDoor.Q
end

section
namespace Go.Proofs.YtlgfinnldhjgeaaDoor.Q
open Go.RowKit Go.Proofs.YtlgfinnldhjgeaaDoorW.PrintWords Go.Proofs.YtlgfinnldhjgeaaDoorW.PrintLast Go.Proofs.YtlgfinnldhjgeaaDoorW.PrintMore
attribute [local go_sem] max2_int min2_int max_two min_two max_three min_three max_four min_four
set_option linter.unusedVariables false
set_option linter.unusedSimpArgs false
mutual
def intrusionref06_Bytes.l0 : Nat → List Int → Int → Bool → Int → Int → Option (ByteArray)
  | 0, _, _, _, _, _ => none
  | k + 1, x3, x4, x457000, x457001, x457002 => if x4 ≥ 0 then (if 0 ≤ (IntKind.u64.wrap (wrap64 (8 * x4))) then (if x3.length < 140737488355328 then (intrusionref06_Bytes.l0 k (x3 ++ [(shr .u64 x457001 (IntKind.u64.wrap (wrap64 (8 * x4)))) % 256]) (wrap64 (x4 - 1)) x457000 x457001 x457002) else (none)) else (none)) else (intrusionref06_Bytes.l1 k x3 7 x457000 x457001 x457002)
def intrusionref06_Bytes.l1 : Nat → List Int → Int → Bool → Int → Int → Option (ByteArray)
  | 0, _, _, _, _, _ => none
  | k + 1, x3, x5, x457000, x457001, x457002 => if x5 ≥ 0 then (if 0 ≤ (IntKind.u64.wrap (wrap64 (8 * x5))) then (if x3.length < 140737488355328 then (intrusionref06_Bytes.l1 k (x3 ++ [(shr .u64 x457002 (IntKind.u64.wrap (wrap64 (8 * x5)))) % 256]) (wrap64 (x5 - 1)) x457000 x457001 x457002) else (none)) else (none)) else (some (strOfNums x3))
def intrusionref06_Bytes.l2 : Nat → List Int → Int → Bool → Int → Int → Option (ByteArray)
  | 0, _, _, _, _, _ => none
  | k + 1, x3, x6, x457000, x457001, x457002 => if x6 ≥ 0 then (if 0 ≤ (IntKind.u64.wrap (wrap64 (8 * x6))) then (if x3.length < 140737488355328 then (intrusionref06_Bytes.l2 k (x3 ++ [(shr .u64 x457002 (IntKind.u64.wrap (wrap64 (8 * x6)))) % 256]) (wrap64 (x6 - 1)) x457000 x457001 x457002) else (none)) else (none)) else (some (strOfNums x3))
end
def intrusionref06_Bytes.f (k : Nat) (a0_0 : Bool) (a0_1 : Int) (a0_2 : Int) : Option (ByteArray) := if a0_0 = true then (intrusionref06_Bytes.l0 k ([] : List Int) 7 a0_0 a0_1 a0_2) else (intrusionref06_Bytes.l2 k ([] : List Int) 3 a0_0 a0_1 a0_2)
theorem intrusionref06_Bytes.mono_l : ∀ k, (∀ y0 y1 y2 y3 y4, LeO (intrusionref06_Bytes.l0 k y0 y1 y2 y3 y4) (intrusionref06_Bytes.l0 (k + 1) y0 y1 y2 y3 y4)) ∧ (∀ y0 y1 y2 y3 y4, LeO (intrusionref06_Bytes.l1 k y0 y1 y2 y3 y4) (intrusionref06_Bytes.l1 (k + 1) y0 y1 y2 y3 y4)) ∧ (∀ y0 y1 y2 y3 y4, LeO (intrusionref06_Bytes.l2 k y0 y1 y2 y3 y4) (intrusionref06_Bytes.l2 (k + 1) y0 y1 y2 y3 y4))
  | 0 => ⟨fun _ _ _ _ _ r h => by simp [intrusionref06_Bytes.l0] at h, fun _ _ _ _ _ r h => by simp [intrusionref06_Bytes.l1] at h, fun _ _ _ _ _ r h => by simp [intrusionref06_Bytes.l2] at h⟩
  | k + 1 => by
    obtain ⟨ih0, ih1, ih2⟩ := intrusionref06_Bytes.mono_l k
    refine ⟨?_, ?_, ?_⟩
    · intro y0 y1 y2 y3 y4
      unfold intrusionref06_Bytes.l0
      repeat' first
      | (with_reducible exact ih0 _ _ _ _ _)
      | (with_reducible exact ih1 _ _ _ _ _)
      | (with_reducible exact ih2 _ _ _ _ _)
      | (with_reducible exact LeO.refl _)
      | (with_reducible exact LeO.none _)
      | (with_reducible refine LeO.ite ?_ ?_)
      | (with_reducible refine LeO.bind ?_ (fun _ => ?_))
      | exact ih0 _ _ _ _ _
      | exact ih1 _ _ _ _ _
      | exact ih2 _ _ _ _ _
      | exact LeO.none _
      | refine LeO.ite ?_ ?_
      | refine LeO.bind ?_ (fun _ => ?_)
    · intro y0 y1 y2 y3 y4
      unfold intrusionref06_Bytes.l1
      repeat' first
      | (with_reducible exact ih0 _ _ _ _ _)
      | (with_reducible exact ih1 _ _ _ _ _)
      | (with_reducible exact ih2 _ _ _ _ _)
      | (with_reducible exact LeO.refl _)
      | (with_reducible exact LeO.none _)
      | (with_reducible refine LeO.ite ?_ ?_)
      | (with_reducible refine LeO.bind ?_ (fun _ => ?_))
      | exact ih0 _ _ _ _ _
      | exact ih1 _ _ _ _ _
      | exact ih2 _ _ _ _ _
      | exact LeO.none _
      | refine LeO.ite ?_ ?_
      | refine LeO.bind ?_ (fun _ => ?_)
    · intro y0 y1 y2 y3 y4
      unfold intrusionref06_Bytes.l2
      repeat' first
      | (with_reducible exact ih0 _ _ _ _ _)
      | (with_reducible exact ih1 _ _ _ _ _)
      | (with_reducible exact ih2 _ _ _ _ _)
      | (with_reducible exact LeO.refl _)
      | (with_reducible exact LeO.none _)
      | (with_reducible refine LeO.ite ?_ ?_)
      | (with_reducible refine LeO.bind ?_ (fun _ => ?_))
      | exact ih0 _ _ _ _ _
      | exact ih1 _ _ _ _ _
      | exact ih2 _ _ _ _ _
      | exact LeO.none _
      | refine LeO.ite ?_ ?_
      | refine LeO.bind ?_ (fun _ => ?_)
theorem intrusionref06_Bytes.mono : ∀ a0 a1 a2 k, LeO (intrusionref06_Bytes.f k a0 a1 a2) (intrusionref06_Bytes.f (k + 1) a0 a1 a2) := by
  intro a0 a1 a2 k
  obtain ⟨ih0, ih1, ih2⟩ := intrusionref06_Bytes.mono_l k
  unfold intrusionref06_Bytes.f
  repeat' first
      | (with_reducible exact ih0 _ _ _ _ _)
      | (with_reducible exact ih1 _ _ _ _ _)
      | (with_reducible exact ih2 _ _ _ _ _)
      | (with_reducible exact LeO.refl _)
      | (with_reducible exact LeO.none _)
      | (with_reducible refine LeO.ite ?_ ?_)
      | (with_reducible refine LeO.bind ?_ (fun _ => ?_))
      | exact ih0 _ _ _ _ _
      | exact ih1 _ _ _ _ _
      | exact ih2 _ _ _ _ _
      | exact LeO.none _
      | refine LeO.ite ?_ ?_
      | refine LeO.bind ?_ (fun _ => ?_)
end Go.Proofs.YtlgfinnldhjgeaaDoor.Q
end

section
set_option linter.unusedVariables false
set_option linter.unusedSimpArgs false
namespace Go.Proofs.YtlgfinnldhjgeaaDoor.Q
open Go.RowKit Go.Proofs.YtlgfinnldhjgeaaDoorW.PrintWords Go.Proofs.YtlgfinnldhjgeaaDoorW.PrintLast Go.Proofs.YtlgfinnldhjgeaaDoorW.PrintMore
theorem or_under (x b j : Nat) (hb : b < 2 ^ j) (hx : x * 2 ^ j + b < 18446744073709551616) : Go.bits .or .u64 (IntKind.u64.wrap ((x : Int) * ((2 ^ j : Nat) : Int))) (b : Int) = ((x * 2 ^ j + b : Nat) : Int) := by
  have h1 : IntKind.u64.wrap ((x : Int) * ((2 ^ j : Nat) : Int)) = ((x * 2 ^ j : Nat) : Int) := by
    rw [← Int.natCast_mul]
    exact u64_id (Int.natCast_nonneg _) (Int.ofNat_lt.2 (Nat.lt_of_le_of_lt (Nat.le_add_right _ _) hx))
  rw [h1]
  unfold Go.bits
  show IntKind.u64.wrap ((((BitVec.ofInt 64 ((x * 2 ^ j : Nat) : Int)) ||| (BitVec.ofInt 64 (b : Int))).toNat : Nat) : Int) = _
  rw [BitVec.toNat_or, ofInt_toNat _ (Nat.lt_of_le_of_lt (Nat.le_add_right _ _) hx), ofInt_toNat _ (Nat.lt_of_le_of_lt (Nat.le_add_left _ _) hx)]
  have := Nat.two_pow_add_eq_or_of_lt hb x
  rw [Nat.mul_comm] at this
  rw [← this]
  exact u64_id (Int.natCast_nonneg _) (Int.ofNat_lt.2 hx)
theorem or_256 (x b : Nat) (hb : b < 256) (hx : x * 256 + b < 18446744073709551616) : Go.bits .or .u64 (IntKind.u64.wrap ((x : Int) * 256)) (b : Int) = ((x * 256 + b : Nat) : Int) := or_under x b 8 hb hx
theorem bt_list (s : ByteArray) (i : Nat) (h : i < s.data.toList.length) : bt s (i : Int) = ((s.data.toList[i]'h).toNat : Int) := by
  have hs : i < s.size := by rw [Array.length_toList] at h; exact h
  unfold bt
  have e : ((i : Int)).toNat = i := Int.toNat_natCast i
  rw [dif_pos (by rw [e]; exact hs)]
  have : ∀ (j : Nat) (hj : j < s.size), j = i → s[j].toNat = (s.data.toList[i]'h).toNat := fun j hj e => by
    subst e
    rfl
  rw [this _ _ e]
theorem size_list (s : ByteArray) : s.size = s.data.toList.length := (Array.length_toList).symm
def bvN (l : List UInt8) : Nat := l.foldl (fun n c => n * 256 + c.toNat) 0
theorem bvN_snoc (l : List UInt8) (c : UInt8) : bvN (l ++ [c]) = bvN l * 256 + c.toNat := by unfold bvN; rw [List.foldl_append]; rfl
theorem bvN_take (l : List UInt8) (i : Nat) (h : i < l.length) : bvN (l.take (i + 1)) = bvN (l.take i) * 256 + (l[i]'h).toNat := by
  rw [List.take_succ_eq_append_getElem h, bvN_snoc]
theorem bvN_lt : ∀ (n : Nat) (l : List UInt8), l.length = n → bvN l < 256 ^ n
  | 0, l, h => by
    rw [List.eq_nil_of_length_eq_zero h]
    exact Nat.one_pos
  | n + 1, l, h => by
    have hl : n < l.length := by omega
    have e : l = l.take n ++ [l[n]] := by
      have := List.take_succ_eq_append_getElem hl
      rw [← this, List.take_of_length_le (by omega)]
    have ih := bvN_lt n (l.take n) (by rw [List.length_take]; omega)
    have hc := (l[n]).toNat_lt
    rw [e, bvN_snoc, Nat.pow_succ]
    generalize bvN (l.take n) = x at *
    generalize 256 ^ n = p at *
    omega
theorem pow256_le {n : Nat} (h : n ≤ 8) : 256 ^ n ≤ 18446744073709551616 := Nat.le_trans (Nat.pow_le_pow_right (by decide) h) (by decide)
theorem bvN_u64 {l : List UInt8} (h : l.length ≤ 8) : bvN l < 18446744073709551616 := Nat.lt_of_lt_of_le (bvN_lt _ l rfl) (pow256_le h)
theorem up_i {i : Nat} (h : i < 1000) : wrap64 ((i : Int) + 1) = ((i + 1 : Nat) : Int) := by rw [wid (by omega) (by omega)]; omega
theorem byte_u64 (c : UInt8) : IntKind.u64.wrap (c.toNat : Int) = (c.toNat : Int) := by
  have := c.toNat_lt
  exact u64_id (by omega) (by omega)
theorem value_ev0 (s : ByteArray) (h : s.data.toList.length ≤ 8) : ∀ (d i : Nat), s.data.toList.length - i = d → i ≤ s.data.toList.length → Ev (fun k => address_value.l0 k s ((bvN (s.data.toList.take i) : Nat) : Int) (s.data.toList.length : Int) (i : Int)) ((bvN s.data.toList : Nat) : Int)
  | 0, i, hd, hi => by
    refine Ev.step (f := fun _ => some ((bvN s.data.toList : Nat) : Int)) (fun k => ?_) (Ev.now _)
    rw [address_value.l0, if_neg (by omega), List.take_of_length_le (by omega)]
  | d + 1, i, hd, hi => by
    have hl : i < s.data.toList.length := by omega
    have ih := value_ev0 s h d (i + 1) (by omega) (by omega)
    refine Ev.step (fun k => ?_) ih
    have hb := (s.data.toList[i]).toNat_lt
    have hx := bvN_u64 (l := s.data.toList.take (i + 1)) (by rw [List.length_take]; omega)
    rw [bvN_take _ i hl] at hx
    rw [address_value.l0, if_pos (by omega), if_pos (by omega), if_pos (by rw [size_list]; omega), bt_list s i hl, byte_u64, or_256 _ _ hb hx, up_i (by omega), ← bvN_take _ i hl]
theorem value_ev (s : ByteArray) (h : s.data.toList.length ≤ 8) : Ev (fun k => address_value.f k s) ((bvN s.data.toList : Nat) : Int) := by
  have := value_ev0 s h _ 0 rfl (by omega)
  unfold address_value.f
  rw [size_list]
  exact this
def fromB (l : List UInt8) : Bool × Int × Int × Int := if l.length = 4 then (false, 0, ((bvN l : Nat) : Int), 0) else if l.length = 16 then (true, ((bvN (l.take 8) : Nat) : Int), ((bvN (l.drop 8) : Nat) : Int), 0) else (false, 0, 0, 2)
theorem extract_list (s : ByteArray) (a b : Nat) : (s.extract a b).data.toList = (s.data.toList.drop a).take (b - a) := by
  simp [ByteArray.data_extract, Array.toList_extract]
theorem aFrom_ev (s : ByteArray) : Ev (fun k => address_FromBytes.f k s) (fromB s.data.toList) := by
  unfold address_FromBytes.f fromB
  rw [size_list]
  by_cases h4 : s.data.toList.length = 4
  · simp only [h4]
    exact Ev.bind (value_ev s (by omega)) (Ev.now _)
  · rw [if_neg h4]
    by_cases h16 : s.data.toList.length = 16
    · have e1 := value_ev (s.extract 0 8) (by rw [extract_list, List.length_take, List.length_drop]; omega)
      have e2 := value_ev (s.extract 8 16) (by rw [extract_list, List.length_take, List.length_drop]; omega)
      rw [extract_list] at e1 e2
      rw [show (s.data.toList.drop 0).take (8 - 0) = s.data.toList.take 8 from rfl] at e1
      rw [show (s.data.toList.drop 8).take (16 - 8) = s.data.toList.drop 8 from List.take_of_length_le (by rw [List.length_drop]; omega)] at e2
      simp only [h16]
      exact Ev.bind e1 (Ev.bind e2 (Ev.now _))
    · have g4 : ¬ ((s.data.toList.length : Int) = 4) := by omega
      have g16 : ¬ ((s.data.toList.length : Int) = 16) := by omega
      simp only [g4, g16, h16, if_false]
      exact Ev.now _
def bytesN (n len : Nat) : List Int := (List.range len).map (fun i => ((n / 256 ^ (len - 1 - i) % 256 : Nat) : Int))
theorem bytesN_len (n len : Nat) : (bytesN n len).length = len := by unfold bytesN; rw [List.length_map, List.length_range]
theorem bvN_bytes : ∀ (m n : Nat), n < 256 ^ m → bvN ((bytesN n m).map (fun z => UInt8.ofNat z.toNat)) = n
  | 0, n, h => by rw [Nat.pow_zero] at h; show 0 = n; omega
  | m + 1, n, h => by
    have ih := bvN_bytes m (n / 256) (by rw [Nat.pow_succ] at h; exact Nat.div_lt_of_lt_mul (by rw [Nat.mul_comm]; exact h))
    have e : bytesN n (m + 1) = bytesN (n / 256) m ++ [((n % 256 : Nat) : Int)] := by
      unfold bytesN
      rw [List.range_succ, List.map_append]
      congr 1
      · apply List.map_congr_left
        intro i hi
        rw [List.mem_range] at hi
        rw [show m + 1 - 1 - i = (m - 1 - i) + 1 from by omega, Nat.pow_succ', ← Nat.div_div_eq_div_mul]
      · simp only [List.map_cons, List.map_nil]
        rw [show m + 1 - 1 - m = 0 from by omega, Nat.pow_zero, Nat.div_one]
    rw [e, List.map_append, List.map_cons, List.map_nil, bvN_snoc, ih, Int.toNat_natCast]
    rw [show (UInt8.ofNat (n % 256)).toNat = n % 256 from by rw [UInt8.toNat_ofNat']; omega]
    omega
theorem shr_u64 (x j : Nat) (hj : j < 64) : shr .u64 (x : Int) (j : Int) = ((x / 2 ^ j : Nat) : Int) := by
  unfold shr
  rw [show min (j : Int).toNat IntKind.u64.bits = j from by show min j 64 = j; omega]
  simp
theorem p256 (j : Nat) : 2 ^ (8 * j) = 256 ^ j := by rw [Nat.pow_mul]
theorem bytes_ev0 (n len : Nat) (hlen : len ≤ 8) : ∀ (d i : Nat), len - i = d → i ≤ len → Ev (fun k => address_bytes.l0 k (n : Int) (len : Int) ((bytesN n len).take i) (len : Int) (i : Int)) (strOfNums (bytesN n len))
  | 0, i, hd, hi => by
    refine Ev.step (f := fun _ => some (strOfNums (bytesN n len))) (fun k => ?_) (Ev.now _)
    rw [address_bytes.l0, if_neg (by omega), List.take_of_length_le (by rw [bytesN_len]; omega)]
  | d + 1, i, hd, hi => by
    have ih := bytes_ev0 n len hlen d (i + 1) (by omega) (by omega)
    refine Ev.step (fun k => ?_) ih
    have e : wrap64 (8 * wrap64 (wrap64 ((len : Int) - 1) - (i : Int))) = ((8 * (len - 1 - i) : Nat) : Int) := by
      rw [wid (x := (len : Int) - 1) (by omega) (by omega), wid (x := (len : Int) - 1 - i) (by omega) (by omega), wid (by omega) (by omega)]
      omega
    have hl : i < (bytesN n len).length := by rw [bytesN_len]; omega
    have hg : (bytesN n len)[i] = (((n / 256 ^ (len - 1 - i)) % 256 : Nat) : Int) := by
      simp [bytesN]
    rw [address_bytes.l0, if_pos (by omega), e, if_pos (by omega), if_pos (by rw [List.length_take, bytesN_len]; omega), shr_u64 _ _ (by omega), p256, up_i (by omega), List.take_succ_eq_append_getElem hl, hg]
    rfl
theorem bytes_ev (n len : Nat) (hlen : len ≤ 8) : Ev (fun k => address_bytes.f k (n : Int) (len : Int)) (strOfNums (bytesN n len)) := bytes_ev0 n len hlen _ 0 rfl (by omega)
theorem strOf_size (l : List Int) : (strOfNums l).size = l.length := by
  unfold strOfNums
  show (l.map _).toArray.size = _
  rw [List.size_toArray, List.length_map]
theorem strOf_app (l r : List Int) : strOfNums l ++ strOfNums r = strOfNums (l ++ r) := by
  unfold strOfNums
  rw [List.map_append]
  apply ByteArray.ext
  simp
def bytesA (a : Ad) : List Int := if a.f0 = true then bytesN a.f1.toNat 8 ++ bytesN a.f2.toNat 8 else bytesN a.f2.toNat 4
theorem aBytes_ev {a : Ad} (h : AW a) : Ev (fun k => address_Bytes.f k a.f0 a.f1 a.f2) (strOfNums (bytesA a)) := by
  obtain ⟨h1, h2, h3, h4⟩ := h
  obtain ⟨a0, a1, a2⟩ := a
  simp only at h1 h2 h3 h4
  obtain ⟨x, rfl⟩ : ∃ x : Nat, a1 = (x : Int) := ⟨a1.toNat, by omega⟩
  obtain ⟨y, rfl⟩ : ∃ y : Nat, a2 = (y : Int) := ⟨a2.toNat, by omega⟩
  unfold address_Bytes.f bytesA
  simp only [Int.toNat_natCast]
  cases a0
  · exact Ev.bind (bytes_ev y 4 (by omega)) (Ev.now _)
  · simp only [if_true]
    refine Ev.bind (bytes_ev x 8 (by omega)) (Ev.bind (bytes_ev y 8 (by omega)) ?_)
    rw [strOf_size, strOf_size, bytesN_len, bytesN_len]
    simp only [show (8 + 8 ≤ 9223372036854775807) = True from by simp, if_true]
    rw [strOf_app]
    exact Ev.now _
end Go.Proofs.YtlgfinnldhjgeaaDoor.Q
end

section
namespace Go.Proofs.YtlgfinnldhjgeaaDoor.Q
open Go.RowKit Go.Proofs.YtlgfinnldhjgeaaDoorW.PrintWords Go.Proofs.YtlgfinnldhjgeaaDoorW.PrintLast Go.Proofs.YtlgfinnldhjgeaaDoorW.PrintMore
attribute [local go_sem] max2_int min2_int max_two min_two max_three min_three max_four min_four
set_option linter.unusedVariables false
set_option linter.unusedSimpArgs false
def intrusionref06_Split.l0 : Nat → ByteArray → Int → List ByteArray → Int → Int → Option (List ByteArray)
  | 0, _, _, _, _, _ => none
  | k + 1, x0, x1, x5, x6, x7 => if x7 ≤ (x0.size : Int) then (if x7 = (x0.size : Int) then (if 0 ≤ x6 then (if x6 ≤ x7 then (if x5.length < 8796093022208 then (intrusionref06_Split.l0 k x0 x1 (x5 ++ [x0.extract (x6 : Int).toNat (x7 : Int).toNat]) (wrap64 (x7 + 1)) (wrap64 (x7 + 1))) else (none)) else (none)) else (none)) else (if 0 ≤ x7 then (if x7 < (x0.size : Int) then (if (bt x0 x7) = x1 then (if 0 ≤ x6 then (if x6 ≤ x7 then (if x5.length < 8796093022208 then (intrusionref06_Split.l0 k x0 x1 (x5 ++ [x0.extract (x6 : Int).toNat (x7 : Int).toNat]) (wrap64 (x7 + 1)) (wrap64 (x7 + 1))) else (none)) else (none)) else (none)) else (intrusionref06_Split.l0 k x0 x1 x5 x6 (wrap64 (x7 + 1)))) else (none)) else (none))) else (some x5)
def intrusionref06_Split.f (k : Nat) (a0 : ByteArray) (a1 : Int) : Option (List ByteArray) := intrusionref06_Split.l0 k a0 a1 ([] : List ByteArray) 0 0
theorem intrusionref06_Split.mono_l : ∀ k, (∀ y0 y1 y2 y3 y4, LeO (intrusionref06_Split.l0 k y0 y1 y2 y3 y4) (intrusionref06_Split.l0 (k + 1) y0 y1 y2 y3 y4))
  | 0 => fun _ _ _ _ _ r h => by simp [intrusionref06_Split.l0] at h
  | k + 1 => by
    have ih0 := intrusionref06_Split.mono_l k
    · intro y0 y1 y2 y3 y4
      unfold intrusionref06_Split.l0
      repeat' first
      | (with_reducible exact ih0 _ _ _ _ _)
      | (with_reducible exact LeO.refl _)
      | (with_reducible exact LeO.none _)
      | (with_reducible refine LeO.ite ?_ ?_)
      | (with_reducible refine LeO.bind ?_ (fun _ => ?_))
      | exact ih0 _ _ _ _ _
      | exact LeO.none _
      | refine LeO.ite ?_ ?_
      | refine LeO.bind ?_ (fun _ => ?_)
theorem intrusionref06_Split.mono : ∀ a0 a1 k, LeO (intrusionref06_Split.f k a0 a1) (intrusionref06_Split.f (k + 1) a0 a1) := by
  intro a0 a1 k
  have ih0 := intrusionref06_Split.mono_l k
  unfold intrusionref06_Split.f
  repeat' first
      | (with_reducible exact ih0 _ _ _ _ _)
      | (with_reducible exact LeO.refl _)
      | (with_reducible exact LeO.none _)
      | (with_reducible refine LeO.ite ?_ ?_)
      | (with_reducible refine LeO.bind ?_ (fun _ => ?_))
      | exact ih0 _ _ _ _ _
      | exact LeO.none _
      | refine LeO.ite ?_ ?_
      | refine LeO.bind ?_ (fun _ => ?_)
end Go.Proofs.YtlgfinnldhjgeaaDoor.Q
end

section
namespace Go.Proofs.YtlgfinnldhjgeaaDoor.Q
open Go.RowKit Go.Proofs.YtlgfinnldhjgeaaDoorW.PrintWords Go.Proofs.YtlgfinnldhjgeaaDoorW.PrintLast Go.Proofs.YtlgfinnldhjgeaaDoorW.PrintMore
attribute [local go_sem] max2_int min2_int max_two min_two max_three min_three max_four min_four
set_option linter.unusedVariables false
set_option linter.unusedSimpArgs false
mutual
def intrusionref06_Decimal.j0 : Nat → ByteArray → Int → Bool → Option (Int)
  | 0, _, _, _ => none
  | k + 1, x0, x1, x19 => if x19 = true then (some (-1)) else (intrusionref06_Decimal.l0 k x0 x1 0 0)
def intrusionref06_Decimal.l0 : Nat → ByteArray → Int → Int → Int → Option (Int)
  | 0, _, _, _, _ => none
  | k + 1, x0, x1, x5, x6 => if x6 < (x0.size : Int) then (if 0 ≤ x6 then (if (bt x0 x6) < 48 then (some (-1)) else (if (bt x0 x6) > 57 then (some (-1)) else (intrusionref06_Decimal.l0 k x0 x1 (mn (wrap64 ((wrap64 ((wrap64 (10 * x5)) + (wrap64 (bt x0 x6)))) - 48)) (wrap64 (x1 + 1))) (wrap64 (x6 + 1))))) else (none)) else (if x5 > x1 then (some (-2)) else (some x5))
end
def intrusionref06_Decimal.f (k : Nat) (a0 : ByteArray) (a1 : Int) : Option (Int) := if (a0.size : Int) = 0 then (intrusionref06_Decimal.j0 k a0 a1 true) else (if (a0.size : Int) > 1 then (if 0 < (a0.size : Int) then (intrusionref06_Decimal.j0 k a0 a1 ((bt a0 0) == 48)) else (none)) else (intrusionref06_Decimal.j0 k a0 a1 false))
theorem intrusionref06_Decimal.mono_l : ∀ k, (∀ y0 y1 y2, LeO (intrusionref06_Decimal.j0 k y0 y1 y2) (intrusionref06_Decimal.j0 (k + 1) y0 y1 y2)) ∧ (∀ y0 y1 y2 y3, LeO (intrusionref06_Decimal.l0 k y0 y1 y2 y3) (intrusionref06_Decimal.l0 (k + 1) y0 y1 y2 y3))
  | 0 => ⟨fun _ _ _ r h => by simp [intrusionref06_Decimal.j0] at h, fun _ _ _ _ r h => by simp [intrusionref06_Decimal.l0] at h⟩
  | k + 1 => by
    obtain ⟨ih0, ih1⟩ := intrusionref06_Decimal.mono_l k
    refine ⟨?_, ?_⟩
    · intro y0 y1 y2
      unfold intrusionref06_Decimal.j0
      repeat' first
      | (with_reducible exact ih0 _ _ _)
      | (with_reducible exact ih1 _ _ _ _)
      | (with_reducible exact LeO.refl _)
      | (with_reducible exact LeO.none _)
      | (with_reducible refine LeO.ite ?_ ?_)
      | (with_reducible refine LeO.bind ?_ (fun _ => ?_))
      | exact ih0 _ _ _
      | exact ih1 _ _ _ _
      | exact LeO.none _
      | refine LeO.ite ?_ ?_
      | refine LeO.bind ?_ (fun _ => ?_)
    · intro y0 y1 y2 y3
      unfold intrusionref06_Decimal.l0
      repeat' first
      | (with_reducible exact ih0 _ _ _)
      | (with_reducible exact ih1 _ _ _ _)
      | (with_reducible exact LeO.refl _)
      | (with_reducible exact LeO.none _)
      | (with_reducible refine LeO.ite ?_ ?_)
      | (with_reducible refine LeO.bind ?_ (fun _ => ?_))
      | exact ih0 _ _ _
      | exact ih1 _ _ _ _
      | exact LeO.none _
      | refine LeO.ite ?_ ?_
      | refine LeO.bind ?_ (fun _ => ?_)
theorem intrusionref06_Decimal.mono : ∀ a0 a1 k, LeO (intrusionref06_Decimal.f k a0 a1) (intrusionref06_Decimal.f (k + 1) a0 a1) := by
  intro a0 a1 k
  obtain ⟨ih0, ih1⟩ := intrusionref06_Decimal.mono_l k
  unfold intrusionref06_Decimal.f
  repeat' first
      | (with_reducible exact ih0 _ _ _)
      | (with_reducible exact ih1 _ _ _ _)
      | (with_reducible exact LeO.refl _)
      | (with_reducible exact LeO.none _)
      | (with_reducible refine LeO.ite ?_ ?_)
      | (with_reducible refine LeO.bind ?_ (fun _ => ?_))
      | exact ih0 _ _ _
      | exact ih1 _ _ _ _
      | exact LeO.none _
      | refine LeO.ite ?_ ?_
      | refine LeO.bind ?_ (fun _ => ?_)
end Go.Proofs.YtlgfinnldhjgeaaDoor.Q
end

section
namespace Go.Proofs.YtlgfinnldhjgeaaDoor.Q
open Go.RowKit Go.Proofs.YtlgfinnldhjgeaaDoorW.PrintWords Go.Proofs.YtlgfinnldhjgeaaDoorW.PrintLast Go.Proofs.YtlgfinnldhjgeaaDoorW.PrintMore
attribute [local go_sem] max2_int min2_int max_two min_two max_three min_three max_four min_four
set_option linter.unusedVariables false
set_option linter.unusedSimpArgs false
mutual
def intrusionref06_group.j0 : Nat → ByteArray → Bool → Option (Int)
  | 0, _, _ => none
  | k + 1, x0, x13 => if x13 = true then (some (-1)) else (intrusionref06_group.l0 k x0 0 0)
def intrusionref06_group.l0 : Nat → ByteArray → Int → Int → Option (Int)
  | 0, _, _, _ => none
  | k + 1, x0, x3, x4 => if x4 < (x0.size : Int) then (if 0 ≤ x4 then (if (bt x0 x4) ≥ 48 then (intrusionref06_group.j2 k x0 x3 x4 (-1) (decide ((bt x0 x4) ≤ 57))) else (intrusionref06_group.j2 k x0 x3 x4 (-1) false)) else (none)) else (some x3)
def intrusionref06_group.j2 : Nat → ByteArray → Int → Int → Int → Bool → Option (Int)
  | 0, _, _, _, _, _ => none
  | k + 1, x0, x3, x4, x5, x20 => if x20 = true then (if 0 ≤ x4 then (if x4 < (x0.size : Int) then (if (wrap64 ((wrap64 (bt x0 x4)) - 48)) < 0 then (some (-1)) else (intrusionref06_group.l0 k x0 (wrap64 ((wrap64 (16 * x3)) + (wrap64 ((wrap64 (bt x0 x4)) - 48)))) (wrap64 (x4 + 1)))) else (none)) else (none)) else (if 0 ≤ x4 then (if x4 < (x0.size : Int) then (if (bt x0 x4) ≥ 97 then (intrusionref06_group.j3 k x0 x3 x4 x5 (decide ((bt x0 x4) ≤ 102))) else (intrusionref06_group.j3 k x0 x3 x4 x5 false)) else (none)) else (none))
def intrusionref06_group.j3 : Nat → ByteArray → Int → Int → Int → Bool → Option (Int)
  | 0, _, _, _, _, _ => none
  | k + 1, x0, x3, x4, x5, x36 => if x36 = true then (if 0 ≤ x4 then (if x4 < (x0.size : Int) then (if (wrap64 ((wrap64 (bt x0 x4)) - 87)) < 0 then (some (-1)) else (intrusionref06_group.l0 k x0 (wrap64 ((wrap64 (16 * x3)) + (wrap64 ((wrap64 (bt x0 x4)) - 87)))) (wrap64 (x4 + 1)))) else (none)) else (none)) else (if 0 ≤ x4 then (if x4 < (x0.size : Int) then (if (bt x0 x4) ≥ 65 then (intrusionref06_group.j4 k x0 x3 x4 x5 (decide ((bt x0 x4) ≤ 70))) else (intrusionref06_group.j4 k x0 x3 x4 x5 false)) else (none)) else (none))
def intrusionref06_group.j4 : Nat → ByteArray → Int → Int → Int → Bool → Option (Int)
  | 0, _, _, _, _, _ => none
  | k + 1, x0, x3, x4, x5, x52 => if x52 = true then (if 0 ≤ x4 then (if x4 < (x0.size : Int) then (if (wrap64 ((wrap64 (bt x0 x4)) - 55)) < 0 then (some (-1)) else (intrusionref06_group.l0 k x0 (wrap64 ((wrap64 (16 * x3)) + (wrap64 ((wrap64 (bt x0 x4)) - 55)))) (wrap64 (x4 + 1)))) else (none)) else (none)) else (if x5 < 0 then (some (-1)) else (intrusionref06_group.l0 k x0 (wrap64 ((wrap64 (16 * x3)) + x5)) (wrap64 (x4 + 1))))
end
def intrusionref06_group.f (k : Nat) (a0 : ByteArray) : Option (Int) := if (a0.size : Int) < 1 then (intrusionref06_group.j0 k a0 true) else (intrusionref06_group.j0 k a0 (decide ((a0.size : Int) > 4)))
theorem intrusionref06_group.mono_l : ∀ k, (∀ y0 y1, LeO (intrusionref06_group.j0 k y0 y1) (intrusionref06_group.j0 (k + 1) y0 y1)) ∧ (∀ y0 y1 y2, LeO (intrusionref06_group.l0 k y0 y1 y2) (intrusionref06_group.l0 (k + 1) y0 y1 y2)) ∧ (∀ y0 y1 y2 y3 y4, LeO (intrusionref06_group.j2 k y0 y1 y2 y3 y4) (intrusionref06_group.j2 (k + 1) y0 y1 y2 y3 y4)) ∧ (∀ y0 y1 y2 y3 y4, LeO (intrusionref06_group.j3 k y0 y1 y2 y3 y4) (intrusionref06_group.j3 (k + 1) y0 y1 y2 y3 y4)) ∧ (∀ y0 y1 y2 y3 y4, LeO (intrusionref06_group.j4 k y0 y1 y2 y3 y4) (intrusionref06_group.j4 (k + 1) y0 y1 y2 y3 y4))
  | 0 => ⟨fun _ _ r h => by simp [intrusionref06_group.j0] at h, fun _ _ _ r h => by simp [intrusionref06_group.l0] at h, fun _ _ _ _ _ r h => by simp [intrusionref06_group.j2] at h, fun _ _ _ _ _ r h => by simp [intrusionref06_group.j3] at h, fun _ _ _ _ _ r h => by simp [intrusionref06_group.j4] at h⟩
  | k + 1 => by
    obtain ⟨ih0, ih1, ih2, ih3, ih4⟩ := intrusionref06_group.mono_l k
    refine ⟨?_, ?_, ?_, ?_, ?_⟩
    · intro y0 y1
      unfold intrusionref06_group.j0
      repeat' first
      | (with_reducible exact ih0 _ _)
      | (with_reducible exact ih1 _ _ _)
      | (with_reducible exact ih2 _ _ _ _ _)
      | (with_reducible exact ih3 _ _ _ _ _)
      | (with_reducible exact ih4 _ _ _ _ _)
      | (with_reducible exact LeO.refl _)
      | (with_reducible exact LeO.none _)
      | (with_reducible refine LeO.ite ?_ ?_)
      | (with_reducible refine LeO.bind ?_ (fun _ => ?_))
      | exact ih0 _ _
      | exact ih1 _ _ _
      | exact ih2 _ _ _ _ _
      | exact ih3 _ _ _ _ _
      | exact ih4 _ _ _ _ _
      | exact LeO.none _
      | refine LeO.ite ?_ ?_
      | refine LeO.bind ?_ (fun _ => ?_)
    · intro y0 y1 y2
      unfold intrusionref06_group.l0
      repeat' first
      | (with_reducible exact ih0 _ _)
      | (with_reducible exact ih1 _ _ _)
      | (with_reducible exact ih2 _ _ _ _ _)
      | (with_reducible exact ih3 _ _ _ _ _)
      | (with_reducible exact ih4 _ _ _ _ _)
      | (with_reducible exact LeO.refl _)
      | (with_reducible exact LeO.none _)
      | (with_reducible refine LeO.ite ?_ ?_)
      | (with_reducible refine LeO.bind ?_ (fun _ => ?_))
      | exact ih0 _ _
      | exact ih1 _ _ _
      | exact ih2 _ _ _ _ _
      | exact ih3 _ _ _ _ _
      | exact ih4 _ _ _ _ _
      | exact LeO.none _
      | refine LeO.ite ?_ ?_
      | refine LeO.bind ?_ (fun _ => ?_)
    · intro y0 y1 y2 y3 y4
      unfold intrusionref06_group.j2
      repeat' first
      | (with_reducible exact ih0 _ _)
      | (with_reducible exact ih1 _ _ _)
      | (with_reducible exact ih2 _ _ _ _ _)
      | (with_reducible exact ih3 _ _ _ _ _)
      | (with_reducible exact ih4 _ _ _ _ _)
      | (with_reducible exact LeO.refl _)
      | (with_reducible exact LeO.none _)
      | (with_reducible refine LeO.ite ?_ ?_)
      | (with_reducible refine LeO.bind ?_ (fun _ => ?_))
      | exact ih0 _ _
      | exact ih1 _ _ _
      | exact ih2 _ _ _ _ _
      | exact ih3 _ _ _ _ _
      | exact ih4 _ _ _ _ _
      | exact LeO.none _
      | refine LeO.ite ?_ ?_
      | refine LeO.bind ?_ (fun _ => ?_)
    · intro y0 y1 y2 y3 y4
      unfold intrusionref06_group.j3
      repeat' first
      | (with_reducible exact ih0 _ _)
      | (with_reducible exact ih1 _ _ _)
      | (with_reducible exact ih2 _ _ _ _ _)
      | (with_reducible exact ih3 _ _ _ _ _)
      | (with_reducible exact ih4 _ _ _ _ _)
      | (with_reducible exact LeO.refl _)
      | (with_reducible exact LeO.none _)
      | (with_reducible refine LeO.ite ?_ ?_)
      | (with_reducible refine LeO.bind ?_ (fun _ => ?_))
      | exact ih0 _ _
      | exact ih1 _ _ _
      | exact ih2 _ _ _ _ _
      | exact ih3 _ _ _ _ _
      | exact ih4 _ _ _ _ _
      | exact LeO.none _
      | refine LeO.ite ?_ ?_
      | refine LeO.bind ?_ (fun _ => ?_)
    · intro y0 y1 y2 y3 y4
      unfold intrusionref06_group.j4
      repeat' first
      | (with_reducible exact ih0 _ _)
      | (with_reducible exact ih1 _ _ _)
      | (with_reducible exact ih2 _ _ _ _ _)
      | (with_reducible exact ih3 _ _ _ _ _)
      | (with_reducible exact ih4 _ _ _ _ _)
      | (with_reducible exact LeO.refl _)
      | (with_reducible exact LeO.none _)
      | (with_reducible refine LeO.ite ?_ ?_)
      | (with_reducible refine LeO.bind ?_ (fun _ => ?_))
      | exact ih0 _ _
      | exact ih1 _ _ _
      | exact ih2 _ _ _ _ _
      | exact ih3 _ _ _ _ _
      | exact ih4 _ _ _ _ _
      | exact LeO.none _
      | refine LeO.ite ?_ ?_
      | refine LeO.bind ?_ (fun _ => ?_)
theorem intrusionref06_group.mono : ∀ a0 k, LeO (intrusionref06_group.f k a0) (intrusionref06_group.f (k + 1) a0) := by
  intro a0 k
  obtain ⟨ih0, ih1, ih2, ih3, ih4⟩ := intrusionref06_group.mono_l k
  unfold intrusionref06_group.f
  repeat' first
      | (with_reducible exact ih0 _ _)
      | (with_reducible exact ih1 _ _ _)
      | (with_reducible exact ih2 _ _ _ _ _)
      | (with_reducible exact ih3 _ _ _ _ _)
      | (with_reducible exact ih4 _ _ _ _ _)
      | (with_reducible exact LeO.refl _)
      | (with_reducible exact LeO.none _)
      | (with_reducible refine LeO.ite ?_ ?_)
      | (with_reducible refine LeO.bind ?_ (fun _ => ?_))
      | exact ih0 _ _
      | exact ih1 _ _ _
      | exact ih2 _ _ _ _ _
      | exact ih3 _ _ _ _ _
      | exact ih4 _ _ _ _ _
      | exact LeO.none _
      | refine LeO.ite ?_ ?_
      | refine LeO.bind ?_ (fun _ => ?_)
end Go.Proofs.YtlgfinnldhjgeaaDoor.Q
end

section
namespace Go.Proofs.YtlgfinnldhjgeaaDoor.Q
open Go.RowKit Go.Proofs.YtlgfinnldhjgeaaDoorW.PrintWords Go.Proofs.YtlgfinnldhjgeaaDoorW.PrintLast Go.Proofs.YtlgfinnldhjgeaaDoorW.PrintMore
attribute [local go_sem] max2_int min2_int max_two min_two max_three min_three max_four min_four
set_option linter.unusedVariables false
set_option linter.unusedSimpArgs false
def intrusionref06_gap.l0 : Nat → ByteArray → Int → Option (Int)
  | 0, _, _ => none
  | k + 1, x0, x3 => if (wrap64 (x3 + 1)) < (x0.size : Int) then (if 0 ≤ x3 then (if x3 < (x0.size : Int) then (if (bt x0 x3) = 58 then (if 0 ≤ (wrap64 (x3 + 1)) then (if (bt x0 (wrap64 (x3 + 1))) = 58 then (some x3) else (intrusionref06_gap.l0 k x0 (wrap64 (x3 + 1)))) else (none)) else (intrusionref06_gap.l0 k x0 (wrap64 (x3 + 1)))) else (none)) else (none)) else (some (-1))
def intrusionref06_gap.f (k : Nat) (a0 : ByteArray) : Option (Int) := intrusionref06_gap.l0 k a0 0
theorem intrusionref06_gap.mono_l : ∀ k, (∀ y0 y1, LeO (intrusionref06_gap.l0 k y0 y1) (intrusionref06_gap.l0 (k + 1) y0 y1))
  | 0 => fun _ _ r h => by simp [intrusionref06_gap.l0] at h
  | k + 1 => by
    have ih0 := intrusionref06_gap.mono_l k
    · intro y0 y1
      unfold intrusionref06_gap.l0
      repeat' first
      | (with_reducible exact ih0 _ _)
      | (with_reducible exact LeO.refl _)
      | (with_reducible exact LeO.none _)
      | (with_reducible refine LeO.ite ?_ ?_)
      | (with_reducible refine LeO.bind ?_ (fun _ => ?_))
      | exact ih0 _ _
      | exact LeO.none _
      | refine LeO.ite ?_ ?_
      | refine LeO.bind ?_ (fun _ => ?_)
theorem intrusionref06_gap.mono : ∀ a0 k, LeO (intrusionref06_gap.f k a0) (intrusionref06_gap.f (k + 1) a0) := by
  intro a0 k
  have ih0 := intrusionref06_gap.mono_l k
  unfold intrusionref06_gap.f
  repeat' first
      | (with_reducible exact ih0 _ _)
      | (with_reducible exact LeO.refl _)
      | (with_reducible exact LeO.none _)
      | (with_reducible refine LeO.ite ?_ ?_)
      | (with_reducible refine LeO.bind ?_ (fun _ => ?_))
      | exact ih0 _ _
      | exact LeO.none _
      | refine LeO.ite ?_ ?_
      | refine LeO.bind ?_ (fun _ => ?_)
end Go.Proofs.YtlgfinnldhjgeaaDoor.Q
end
