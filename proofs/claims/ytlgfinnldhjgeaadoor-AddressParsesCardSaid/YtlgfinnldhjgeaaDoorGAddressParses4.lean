/- The law AddressParses answers true for every input and leaves its arguments as they were. No condition. (Part 4 of 5: the kit's printed words and walks, hand-made contracts and plain laws, joined in build order, without what the theorem does not reach.) -/
import Derived.Deep.Slices
import Derived.ChangeArms
import Derived.WideShapes
import Derived.DataElems
import Derived.Lib.AppendIntMem
import Derived.IntWalk
import Derived.Test.YtlgfinnldhjgeaaDoorGAddressParses3
section
set_option linter.unusedVariables false
set_option linter.unusedSimpArgs false
namespace Go.Proofs.YtlgfinnldhjgeaaDoor.Q
open Go.RowKit Go.Proofs.YtlgfinnldhjgeaaDoorW.PrintWords Go.Proofs.YtlgfinnldhjgeaaDoorW.PrintLast Go.Proofs.YtlgfinnldhjgeaaDoorW.PrintMore
def hexD (n : Nat) : UInt8 := [48, 49, 50, 51, 52, 53, 54, 55, 56, 57, 97, 98, 99, 100, 101, 102].getD n 0
def hexL : Nat → Nat → List UInt8
  | 0, _ => []
  | k + 1, n => if n < 16 then [hexD n] else hexL k (n / 16) ++ [hexD (n % 16)]
theorem pow2_16 (w : World) : Calls Tryd.prog 100 #[.int .i64 16] w fun e w' => e = .returned (.bool true) ∧ Below w.heap.size w w' := by
  go_enter Tryd.func100, Tryd.ntmps100
  go_wp2
  go_ret
  exact ⟨rfl, by repeat (first | (with_reducible apply below_alloc) | (with_reducible apply pw_below_drewN) | (with_reducible apply below_drew1) | exact Below.refl _ _)⟩
theorem tz16 (w : World) (hW : WOK w) : Calls Tryd.prog 101 #[.int .u64 16] w fun e w' => e = .returned (.int .i64 4) ∧ Below w.heap.size w w' := by
  have h := Tryd.bits_TrailingZeros 16 (by decide) w (fun _ => hW.bit)
  rw [show Lib.ctz 64 16 = 4 from by decide] at h
  refine h.mono ?_
  rintro e w' ⟨rfl, rfl⟩
  exact ⟨rfl, Below.refl _ _⟩
theorem bits_and15 (x : Nat) (hx : x < 18446744073709551616) : Go.bits .and .u64 (x : Int) 15 = ((x % 16 : Nat) : Int) := by
  have e : ∀ y : Nat, y < 18446744073709551616 → (BitVec.ofInt 64 (y : Int)).toNat = y := fun y hy => by rw [BitVec.toNat_ofInt]; simp; omega
  unfold Go.bits
  show IntKind.u64.wrap ((((BitVec.ofInt 64 (x : Int)) &&& (BitVec.ofInt 64 ((15 : Nat) : Int))).toNat : Nat) : Int) = _
  rw [BitVec.toNat_and, e x hx, e 15 (by decide), show (15 : Nat) = 2 ^ 4 - 1 from rfl, Nat.and_two_pow_sub_one_eq_mod]
  exact IntWalk.u64_in _ ⟨by omega, by have := Nat.mod_lt x (show 0 < 2 ^ 4 by decide); omega⟩
structure HexAt (w0 : World) (g : Nat) (n0 : Nat) (wr : World) (i u : Nat) : Prop where
  arr : ∃ cs : Array Value, wr.heap[g]? = some (.cells cs 114 (0, 0)) ∧ cs.size = 65 ∧ ∃ ds : List UInt8, cs.toList.drop i = ds.map (fun d => Value.int .u8 d.toNat) ∧ ds.length = 65 - i ∧ hexL 4 n0 = hexL (i - 61) u ++ ds
  lo : 62 ≤ i
  hi : i ≤ 65
  small : u < 16 ^ (i - 61)
  bel : Below w0.heap.size w0 wr
theorem drop_set_self {l : List Value} {j : Nat} (hj : j < l.length) (v : Value) : (l.set j v).drop j = v :: l.drop (j + 1) := by
  rw [List.drop_eq_getElem_cons (by simpa using hj), List.getElem_set_self, List.drop_set_of_lt (by omega)]
theorem HexAt.put {w0 wr : World} {g n0 j n : Nat} (h : HexAt w0 g n0 wr (j + 1) n) (hn : 16 ≤ n) (hg : w0.heap.size ≤ g) (dv : UInt8) (hd : dv = hexD (n % 16)) : HexAt w0 g n0 (wr.setCell ⟨g, j, none⟩ (.int .u8 dv.toNat)) j (n / 16) := by
  obtain ⟨⟨cs, hx, hs, ds, hd1, hd2, hd3⟩, hlo, hhi, hsm, hbl⟩ := h
  have hj : 62 ≤ j := by
    rcases Nat.lt_or_ge j 62 with h | h
    · rw [show j + 1 - 61 = 1 from by omega] at hsm; omega
    · exact h
  have hk : j + 1 - 61 = (j - 61) + 1 := by omega
  rw [hk] at hsm hd3
  refine ⟨⟨_, blk_set hx j _, by simpa using hs, dv :: ds, ?_, by simp; omega, ?_⟩, hj, by omega, ?_, hbl.setCell hg _⟩
  · rw [Array.toList_setIfInBounds, drop_set_self (by simpa using by omega), hd1]
    rfl
  · rw [hd3, hexL, if_neg (by omega), hd, List.append_assoc]
    rfl
  · rw [Nat.pow_succ] at hsm
    exact Nat.div_lt_of_lt_mul (by rw [Nat.mul_comm]; exact hsm)
theorem HexAt.last {w0 wr : World} {g n0 j n : Nat} (h : HexAt w0 g n0 wr (j + 1) n) (hn : n < 16) (hg : w0.heap.size ≤ g) (dv : UInt8) (hd : dv = hexD n) :
    Below w0.heap.size w0 (wr.setCell ⟨g, j, none⟩ (.int .u8 dv.toNat)) ∧ ∃ cs : Array Value, (wr.setCell ⟨g, j, none⟩ (.int .u8 dv.toNat)).heap[g]? = some (.cells cs 114 (0, 0)) ∧ cs.size = 65 ∧ cs.toList.drop j = (hexL 4 n0).map (fun d => Value.int .u8 d.toNat) := by
  obtain ⟨⟨cs, hx, hs, ds, hd1, hd2, hd3⟩, hlo, hhi, hsm, hbl⟩ := h
  refine ⟨hbl.setCell hg _, _, blk_set hx j _, by simpa using hs, ?_⟩
  rw [Array.toList_setIfInBounds, drop_set_self (by simpa using by omega), hd1, hd3, show j + 1 - 61 = (j - 61) + 1 from by omega, hexL, if_pos hn, hd]
  rfl
theorem digit_ix : ∀ d : Nat, d < 16 → ∀ h, (⟨#[48, 49, 50, 51, 52, 53, 54, 55, 56, 57, 97, 98, 99, 100, 101, 102, 103, 104, 105, 106, 107, 108, 109, 110, 111, 112, 113, 114, 115, 116, 117, 118, 119, 120, 121, 122]⟩ : ByteArray)[d]'h = hexD d := by decide
theorem digit_at (n : Nat) (h : (Go.bits .and .u64 (n : Int) 15).toNat < (⟨#[48, 49, 50, 51, 52, 53, 54, 55, 56, 57, 97, 98, 99, 100, 101, 102, 103, 104, 105, 106, 107, 108, 109, 110, 111, 112, 113, 114, 115, 116, 117, 118, 119, 120, 121, 122]⟩ : ByteArray).size) (hb : Go.bits .and .u64 (n : Int) 15 = ((n % 16 : Nat) : Int)) :
    (⟨#[48, 49, 50, 51, 52, 53, 54, 55, 56, 57, 97, 98, 99, 100, 101, 102, 103, 104, 105, 106, 107, 108, 109, 110, 111, 112, 113, 114, 115, 116, 117, 118, 119, 120, 121, 122]⟩ : ByteArray)[(Go.bits .and .u64 (n : Int) 15).toNat]'h = hexD (n % 16) := by
  have e : (Go.bits .and .u64 (n : Int) 15).toNat = n % 16 := by rw [hb]; exact Int.toNat_natCast _
  have hlt : n % 16 < 16 := Nat.mod_lt _ (by decide)
  have key : ∀ m (hm : m < (⟨#[48, 49, 50, 51, 52, 53, 54, 55, 56, 57, 97, 98, 99, 100, 101, 102, 103, 104, 105, 106, 107, 108, 109, 110, 111, 112, 113, 114, 115, 116, 117, 118, 119, 120, 121, 122]⟩ : ByteArray).size), m = n % 16 → (⟨#[48, 49, 50, 51, 52, 53, 54, 55, 56, 57, 97, 98, 99, 100, 101, 102, 103, 104, 105, 106, 107, 108, 109, 110, 111, 112, 113, 114, 115, 116, 117, 118, 119, 120, 121, 122]⟩ : ByteArray)[m]'hm = hexD (n % 16) := fun m hm e2 => by subst e2; exact digit_ix _ hlt _
  exact key _ h e
theorem hex_slice (ga j : Nat) (hj : j < 65) (h0 : 0 < j) : ∀ W, (Instr.sliceAt 114 (.pointer (some ⟨ga, 0, none⟩)) (some (.int .i64 (j : Int))) none none).run Tryd.prog W = .ok (.slice (some ⟨ga, j, none⟩) (65 - j) (65 - j)) W := fun W => by
  have hal : Tryd.prog.arrayLen 114 = 65 := by kernel_rfl
  rw [run_sliceAt_array_l W 114 ⟨ga, 0, none⟩ (by kernel_rfl) .i64 (j : Int) (by omega) (by rw [hal]; omega), hal]
  go_simp
  omega
theorem hex_string {W : World} {ga j : Nat} {cs : Array Value} {l : List UInt8} (hx : W.heap[ga]? = some (.cells cs 114 (0, 0))) (hs : cs.size = 65) (hd : cs.toList.drop j = l.map (fun d => Value.int .u8 d.toNat)) (hj : j < 65) :
    (convert 75 9 (.slice (some ⟨ga, j, none⟩) (65 - j) (65 - j))).run Tryd.prog W = .ok (.string ⟨l.toArray⟩) W := by
  have hlen : l.length = 65 - j := by
    have := congrArg List.length hd
    simp only [List.length_drop, List.length_map, Array.length_toList] at this
    omega
  have hr : ReadsInt W .u8 (some ⟨ga, j, none⟩) (65 - j) (l.map (fun d => (d.toNat : Int))) := by
    refine ⟨by simp [hlen], by omega, fun _ => ⟨_, rfl, fun i hi => ?_⟩⟩
    have e : (⟨ga, j, none⟩ : Addr).add i = ⟨ga, j + i, none⟩ := by
      unfold Addr.add
      by_cases h0 : i = 0
      · rw [if_pos h0, h0]; rfl
      · rw [if_neg h0]
    rw [e]
    unfold World.cell?
    simp only [hx]
    have h2 := congrArg (fun q => q[i]?) hd
    simp only [List.getElem?_drop, List.getElem?_map] at h2
    rw [List.getElem?_eq_getElem (show i < l.length from by omega)] at h2
    simp only [Option.isSome_none, Bool.false_eq_true, if_false]
    rw [← Array.getElem?_toList, h2]
    simp [List.getElem?_eq_getElem (show i < l.length from by omega)]
  have := string_of_reads (P := Tryd.prog) (src := 75) (dst := 9) (e := 5) (c := 65 - j) (by kernel_rfl) (by kernel_rfl) (by kernel_rfl) hr
  have e : strOfNums (l.map (fun d => (d.toNat : Int))) = ⟨l.toArray⟩ := by
    have h2 : ∀ l : List UInt8, (l.map (fun d => (d.toNat : Int))).map (fun n => UInt8.ofNat n.toNat) = l := fun l => by
      induction l with
      | nil => rfl
      | cons a t ih => simp only [List.map_cons, ih, Int.toNat_natCast, UInt8.ofNat_toNat]
    unfold strOfNums
    rw [h2]
  rw [this, e]
set_option maxHeartbeats 4000000 in
set_option maxRecDepth 100000 in
theorem formatBits16 (u : Nat) (hu : u < 65536) (w : World) (hW : WOK w) : Calls Tryd.prog 87 #[.slice none 0 0, .int .u64 (u : Int), .int .i64 16, .bool false, .bool false] w fun e w' => e = .returned (.tuple #[.slice none 0 0, .string ⟨(hexL 4 u).toArray⟩]) ∧ Below w.heap.size w w' := by
  have HW := Aside0.mk hW
  clear hW
  go_enter Tryd.func87, Tryd.ntmps87
  go_wp2_with fail
  refine (pow2_16 _).mono ?_
  rintro e w2 ⟨rfl, hb⟩
  have hX := blk_below (heap_alloc_new w (.cells Tryd.zeroCells114 114)) hb
  have hB := (below_alloc (Below.refl w.heap.size w) (.cells Tryd.zeroCells114 114)).trans (hb.mono (by simp))
  have HX := Aside0.mk hX
  have HB := Aside0.mk hB
  have hG : w.heap.size ≤ w.heap.size := Nat.le_refl _
  revert HX hG
  clear hb hX hB
  generalize hga : w.heap.size = ga
  intro HX hG
  have HG : Aside0 (w.heap.size ≤ ga) := ⟨by omega⟩
  clear hG
  go_wp2_with fail
  refine (tz16 _ (HW.out.below (hga ▸ HB.out))).mono ?_
  rintro e w3 ⟨rfl, hb⟩
  have HX3 := Aside0.mk (blk_below HX.out hb)
  have HB3 := Aside0.mk (HB.out.trans (hb.mono (HB.out.size)))
  clear hb HX HB
  clear hga
  have H0 : Aside0 (HexAt w ga u w3 65 u) := ⟨⟨⟨_, HX3.out, by rfl, [], by rfl, rfl, by simp⟩, by omega, by omega, by simpa using hu, HB3.out⟩⟩
  clear HX3 HB3
  go_wp2_with fail
  go_loopg [1, 13] 65 (fun gg v1 v13 wr => ∃ (i n : Nat), i ≤ gg ∧ v1 = .int .u64 (n : Int) ∧ v13 = .int .i64 (i : Int) ∧ Aside0 (HexAt w ga u wr i n))
  case atStart => exact ⟨65, u, by omega, rfl, rfl, H0⟩
  case round =>
    obtain ⟨i, n, hig, rfl, rfl, HA⟩ := hrel
    clear H0
    by_cases hn : 16 ≤ n
    · have hn1 : ((n : Int) ≥ 16) = True := eq_true (by omega)
      have hn2 : decide ((n : Int) ≥ 16) = true := decide_eq_true (by omega)
      have hA := HA.out
      obtain ⟨⟨cs, hx, hs, ds, hd1, hd2, hd3⟩, hlo, hhi, hsm, hbl⟩ := hA
      have hi2 : 63 ≤ i := by
        rcases Nat.lt_or_ge i 63 with h | h
        · rw [show i - 61 = 1 from by omega] at hsm; omega
        · exact h
      obtain ⟨j, rfl⟩ : ∃ j, i = j + 1 := ⟨i - 1, by omega⟩
      have hw1 : wrap64 (j : Int) = (j : Int) := by unfold wrap64; omega
      have hw0 : ((j + 1 : Nat) : Int) - 1 = (j : Int) := by omega
      have hq0 : Go.bits .and .u64 (n : Int) 15 = ((n % 16 : Nat) : Int) := bits_and15 n (by
        have : 16 ^ (j + 1 - 61) ≤ 16 ^ 4 := Nat.pow_le_pow_right (by decide) (by omega)
        omega)
      have hq1 : (0 ≤ Go.bits .and .u64 (n : Int) 15 ∧ Go.bits .and .u64 (n : Int) 15 < 36) = True := eq_true (by rw [hq0]; omega)
      have hj1 : ((j : Int) < 65) = True := eq_true (by omega)
      have hc1 : ∃ old, wr.cell? ⟨ga, j, none⟩ = some old := by
        unfold World.cell?
        simp only [hx]
        exact ⟨_, Array.getElem?_eq_getElem (show j < cs.size from by omega)⟩
      obtain ⟨old, hc⟩ := hc1
      have hf : wr.frozen? ⟨ga, j, none⟩ = false := by
        unfold World.frozen?
        simp only [hx]
        simp
      clear hx hs hd1 hd2 hd3 hsm hbl
      have HQ0 := Aside0.mk hq0
      clear hq0
      go_wp2_with fail
      go_roundg j
      case measure => omega
      case rel => exact ⟨j, n / 16, Nat.le_refl _, by simp, rfl, ⟨HA.out.put hn HG.out _ (digit_at n _ HQ0.out)⟩⟩
    · have hA := HA.out
      obtain ⟨⟨cs, hx, hs, ds, hd1, hd2, hd3⟩, hlo, hhi, hsm, hbl⟩ := hA
      obtain ⟨j, rfl⟩ : ∃ j, i = j + 1 := ⟨i - 1, by omega⟩
      have hn1 : ((n : Int) ≥ 16) = False := eq_false (by omega)
      have hn2 : decide ((n : Int) ≥ 16) = false := decide_eq_false (by omega)
      have hw1 : wrap64 (j : Int) = (j : Int) := by unfold wrap64; omega
      have hw0 : ((j + 1 : Nat) : Int) - 1 = (j : Int) := by omega
      have hn36 : ((n : Int) < 36) = True := eq_true (by omega)
      have hj1 : ((j : Int) < 65) = True := eq_true (by omega)
      have hc1 : ∃ old, wr.cell? ⟨ga, j, none⟩ = some old := by
        unfold World.cell?
        simp only [hx]
        exact ⟨_, Array.getElem?_eq_getElem (show j < cs.size from by omega)⟩
      obtain ⟨old, hc⟩ := hc1
      have hf : wr.frozen? ⟨ga, j, none⟩ = false := by
        unfold World.frozen?
        simp only [hx]
        simp
      have HJ : Aside0 (62 ≤ j + 1 ∧ j + 1 ≤ 65) := ⟨hlo, hhi⟩
      clear hx hs hd1 hd2 hd3 hsm hbl
      go_upto_region 30 with (fail)
      have hD : ∀ h, (⟨#[48, 49, 50, 51, 52, 53, 54, 55, 56, 57, 97, 98, 99, 100, 101, 102, 103, 104, 105, 106, 107, 108, 109, 110, 111, 112, 113, 114, 115, 116, 117, 118, 119, 120, 121, 122]⟩ : ByteArray)[n]'h = hexD n := fun h => digit_ix n (by omega) h
      have hl := HA.out.last (by omega) HG.out (hexD n) rfl
      simp only [hD]
      obtain ⟨hb, cs, hx, hs, hd⟩ := hl
      have hj2 := HJ.out
      have hsl := hex_slice ga j (by omega) (by omega)
      have hst := hex_string hx hs hd (by omega)
      have HB := Aside0.mk hb
      clear hx hs hd hb hc hf HA hD
      generalize wr.setCell ⟨ga, j, none⟩ (.int .u8 (hexD n).toNat) = W at hst HB ⊢
      go_wp2_with fail
      exact bodyPost_ret (v := .tuple #[.slice none 0 0, .string ⟨(hexL 4 u).toArray⟩]) (by simp [results, Tryd.results87, go_sem]) rfl ⟨rfl, HB.out⟩
set_option maxHeartbeats 1000000 in
theorem formatUint16 (u : Nat) (hu : u < 65536) (w : World) (hW : WOK w) : Calls Tryd.prog 76 #[.int .u64 (u : Int), .int .i64 16] w fun e w' => e = .returned (.string ⟨(hexL 4 u).toArray⟩) ∧ Below w.heap.size w w' := by
  go_enter Tryd.func76, Tryd.ntmps76
  go_wp2_with fail
  refine (formatBits16 u hu _ (hW.below (by repeat (first | (with_reducible apply below_alloc) | (with_reducible apply pw_below_drewN) | (with_reducible apply below_drew1) | exact Below.refl _ _)))).mono ?_
  rintro e w2 ⟨rfl, hb⟩
  have HB := Aside0.mk hb
  clear hb
  go_wp2_with fail
  go_ret
  exact ⟨rfl, by first | exact HB.out | exact (below_alloc (Below.refl _ _) _).trans (HB.out.mono (by simp))⟩
set_option maxHeartbeats 1000000 in
theorem formatUint16p (u : Nat) (hu : u < 65536) (w : World) (hW : WOK w) : Calls Tryd.prog 58 #[.int .u64 (u : Int), .int .i64 16] w fun e w' => e = .returned (.string ⟨(hexL 4 u).toArray⟩) ∧ Below w.heap.size w w' := by
  go_enter Tryd.func58, Tryd.ntmps58
  go_wp2_with fail
  refine (formatUint16 u hu _ (hW.below (by repeat (first | (with_reducible apply below_alloc) | (with_reducible apply pw_below_drewN) | (with_reducible apply below_drew1) | exact Below.refl _ _)))).mono ?_
  rintro e w2 ⟨rfl, hb⟩
  have HB := Aside0.mk hb
  clear hb
  go_wp2_with fail
  go_ret
  exact ⟨rfl, by first | exact HB.out | exact (below_alloc (Below.refl _ _) _).trans (HB.out.mono (by simp))⟩
def strconv_FormatUint.f (i : Int) (base : Int) : Option ByteArray := if base = 16 then if 0 ≤ i ∧ i < 65536 then some ⟨(hexL 4 i.toNat).toArray⟩ else none else none
theorem strconv_FormatUint.calls (i base : Int) (r : ByteArray) (w : World) (h : strconv_FormatUint.f i base = some r) (hW : WOK w) :
    Calls Tryd.prog 58 #[.int .u64 i, .int .i64 base] w fun e w' => e = .returned (.string r) ∧ Below w.heap.size w w' := by
  unfold strconv_FormatUint.f at h
  split at h
  case isFalse => cases h
  rename_i hb
  subst hb
  split at h
  case isFalse => cases h
  rename_i hi
  injection h with h
  subst h
  have := formatUint16p i.toNat (by omega) w hW
  rw [show ((i.toNat : Nat) : Int) = i from by omega] at this
  exact this
end Go.Proofs.YtlgfinnldhjgeaaDoor.Q
end

section
set_option linter.unusedVariables false
set_option linter.unusedSimpArgs false
namespace Go.Proofs.YtlgfinnldhjgeaaDoor.Q
open Go.RowKit Go.Proofs.YtlgfinnldhjgeaaDoorW.PrintWords Go.Proofs.YtlgfinnldhjgeaaDoorW.PrintLast Go.Proofs.YtlgfinnldhjgeaaDoorW.PrintMore
theorem blk_apart {α : Type} {d : Kd α} {W w1 : World} {g base : Nat} {cs : Array Value} {t e : TypeId} {ok : Nat → Prop} {v : Value} {xs : List α} (hX : W.heap[g]? = some (.cells cs t (0, 0))) (ht : t ≠ e) (hR : d.R e W base ok v xs) (hg : W.grownBy w1 v.ownBlock) : w1.heap[g]? = some (.cells cs t (0, 0)) :=
  blk_grown hX hg (fun h => by
    obtain ⟨c, hc⟩ := Kd.R_typed hR g h.symm
    rw [hX] at hc
    injection hc with hc
    injection hc with _ hc
    exact ht hc)
def decB (n : Int) : ByteArray := ⟨(Lib.itoa n).toArray⟩
theorem itoa_b {x : Int} (h : 0 ≤ Go.bits .and .u64 x 255 ∧ Go.bits .and .u64 x 255 < 256) : strconv_Itoa.f (wrap64 (Go.bits .and .u64 x 255)) = some (decB (Go.bits .and .u64 x 255)) := by
  have e : wrap64 (Go.bits .and .u64 x 255) = Go.bits .and .u64 x 255 := by unfold wrap64; omega
  unfold strconv_Itoa.f decB
  rw [e, if_pos (by omega)]
theorem and255 (x : Int) : 0 ≤ Go.bits .and .u64 x 255 ∧ Go.bits .and .u64 x 255 < 256 := by
  unfold Go.bits
  have h1 : ((BitVec.ofInt 64 x) &&& (BitVec.ofInt 64 255)).toNat < 256 := by
    rw [BitVec.toNat_and, show (BitVec.ofInt 64 255).toNat = 2 ^ 8 - 1 from by decide, Nat.and_two_pow_sub_one_eq_mod]
    exact Nat.mod_lt _ (by decide)
  show 0 ≤ IntKind.u64.wrap _ ∧ IntKind.u64.wrap _ < 256
  rw [IntWalk.u64_in _ ⟨by show (0 : Int) ≤ (((BitVec.ofInt 64 x) &&& (BitVec.ofInt 64 255)).toNat : Int); omega, by show (((BitVec.ofInt 64 x) &&& (BitVec.ofInt 64 255)).toNat : Int) ≤ _; omega⟩]
  exact ⟨by show (0 : Int) ≤ (((BitVec.ofInt 64 x) &&& (BitVec.ofInt 64 255)).toNat : Int); omega, by show (((BitVec.ofInt 64 x) &&& (BitVec.ofInt 64 255)).toNat : Int) < 256; omega⟩
set_option maxHeartbeats 4000000 in
set_option maxRecDepth 100000 in
theorem format4 (hi lo : Int) (r : ByteArray) (w : World) (hr : strings_Join.f [decB (Go.bits .and .u64 (lo / 16777216) 255), decB (Go.bits .and .u64 (lo / 65536) 255), decB (Go.bits .and .u64 (lo / 256) 255), decB (Go.bits .and .u64 (lo) 255)] (⟨#[46]⟩ : ByteArray) = some r) (hW : WOK w) : Calls Tryd.prog 33 #[.agg #[.bool false, .int .u64 hi, .int .u64 lo]] w fun e w' => e = .returned (.string r) ∧ Below w.heap.size w w' := by
  have HW := Aside0.mk hW
  have HJ := Aside0.mk hr
  clear hW hr
  have HX : Aside0 ((w.alloc (.cells #[.bool false, .int .u64 hi, .int .u64 lo] 25)).heap[w.heap.size]? = some (.cells #[.bool false, .int .u64 hi, .int .u64 lo] 25 (0, 0))) := ⟨heap_alloc_new _ _⟩
  have HB : Aside0 (Below w.heap.size w (w.alloc (.cells #[.bool false, .int .u64 hi, .int .u64 lo] 25))) := ⟨below_alloc (Below.refl _ _) _⟩
  have HO : Aside0 (Kd.R Kd.string 9 (w.alloc (.cells #[.bool false, .int .u64 hi, .int .u64 lo] 25)) w.heap.size (fun _ => True) (.slice none 0 0) ([] : List ByteArray)) := ⟨Kd.R_nil _ _ _ _ _⟩
  go_enter Tryd.func33, Tryd.ntmps33
  go_upto_region 3 with (fail)
  obtain ⟨g, hg⟩ : ∃ g, w.heap.size = g := ⟨_, rfl⟩
  rw [hg] at HX
  simp only [hg]
  clear hg
  generalize w.alloc (.cells #[.bool false, .int .u64 hi, .int .u64 lo] 25) = W at HX HB HO ⊢
  go_upto_region 4 with (fail)
  refine wp_loop_rounds 5 ?_
  have hc : W.cell? ⟨g, 2, none⟩ = some (.int .u64 lo) := (blk_cell HX.out 2).trans rfl
  rw [rounds_succ]
  go_wp2_with fail
  clear hc
  refine (strconv_Itoa.calls _ _ _ (itoa_b (and255 _)) (HW.out.below HB.out)).mono ?_
  rintro e w2 ⟨rfl, hb⟩
  replace HX := Aside0.mk (blk_below HX.out hb)
  replace HO := Aside0.mk (Kd.R_below HO.out hb)
  replace HB := Aside0.mk (below_step HB.out hb)
  clear hb
  go_wp2_with (first | ((with_reducible refine gate_builtin (b := .append) (xs := #[.tmp 17, .tmp 27]) rfl ?_); at_builtin; refine Kd.R_append Kd.string (w0 := w) w.heap.size rfl (.tmp 17) (.tmp 27) 56 9 (.string ⟨#[]⟩) 16 rfl Tryd.underlying56 info9 rfl (by decide) (by omega) _ ([] : List ByteArray) (decB (Go.bits .and .u64 (lo / 16777216) 255)) [.string (decB (Go.bits .and .u64 (lo / 16777216) 255))] (fun _ => True) (fun _ => False) rfl rfl ?aP (fun _ hk => hk.elim) ?aF ?aO ?aB ?aS ?aL ?_; (case aP => exact rfl); (case aB => exact HB.out); (case aF => exact (fun _ _ => trivial)); (case aO => exact HO.out); (case aS => exact (below_size HB.out)); (case aL => simp); intro v0 W0 ho hb hg hat; replace HX := Aside0.mk (blk_apart HX.out (by decide) HO.out hg); replace HB := Aside0.mk hb; replace HO := Aside0.mk ho; clear ho hb hg hat))
  have hc : W0.cell? ⟨g, 2, none⟩ = some (.int .u64 lo) := (blk_cell HX.out 2).trans rfl
  rw [rounds_succ]
  go_wp2_with fail
  clear hc
  refine (strconv_Itoa.calls _ _ _ (itoa_b (and255 _)) (HW.out.below HB.out)).mono ?_
  rintro e w2 ⟨rfl, hb⟩
  replace HX := Aside0.mk (blk_below HX.out hb)
  replace HO := Aside0.mk (Kd.R_below HO.out hb)
  replace HB := Aside0.mk (below_step HB.out hb)
  clear hb
  go_wp2_with (first | ((with_reducible refine gate_builtin (b := .append) (xs := #[.tmp 17, .tmp 27]) rfl ?_); at_builtin; refine Kd.R_append Kd.string (w0 := w) w.heap.size rfl (.tmp 17) (.tmp 27) 56 9 (.string ⟨#[]⟩) 16 rfl Tryd.underlying56 info9 rfl (by decide) (by omega) _ [decB (Go.bits .and .u64 (lo / 16777216) 255)] (decB (Go.bits .and .u64 (lo / 65536) 255)) [.string (decB (Go.bits .and .u64 (lo / 65536) 255))] (fun _ => True) (fun _ => False) rfl rfl ?aP (fun _ hk => hk.elim) ?aF ?aO ?aB ?aS ?aL ?_; (case aP => exact rfl); (case aB => exact HB.out); (case aF => exact (fun _ _ => trivial)); (case aO => exact HO.out); (case aS => exact (below_size HB.out)); (case aL => simp); intro v1 W1 ho hb hg hat; replace HX := Aside0.mk (blk_apart HX.out (by decide) HO.out hg); replace HB := Aside0.mk hb; replace HO := Aside0.mk ho; clear ho hb hg hat))
  have hc : W1.cell? ⟨g, 2, none⟩ = some (.int .u64 lo) := (blk_cell HX.out 2).trans rfl
  rw [rounds_succ]
  go_wp2_with fail
  clear hc
  refine (strconv_Itoa.calls _ _ _ (itoa_b (and255 _)) (HW.out.below HB.out)).mono ?_
  rintro e w2 ⟨rfl, hb⟩
  replace HX := Aside0.mk (blk_below HX.out hb)
  replace HO := Aside0.mk (Kd.R_below HO.out hb)
  replace HB := Aside0.mk (below_step HB.out hb)
  clear hb
  go_wp2_with (first | ((with_reducible refine gate_builtin (b := .append) (xs := #[.tmp 17, .tmp 27]) rfl ?_); at_builtin; refine Kd.R_append Kd.string (w0 := w) w.heap.size rfl (.tmp 17) (.tmp 27) 56 9 (.string ⟨#[]⟩) 16 rfl Tryd.underlying56 info9 rfl (by decide) (by omega) _ [decB (Go.bits .and .u64 (lo / 16777216) 255), decB (Go.bits .and .u64 (lo / 65536) 255)] (decB (Go.bits .and .u64 (lo / 256) 255)) [.string (decB (Go.bits .and .u64 (lo / 256) 255))] (fun _ => True) (fun _ => False) rfl rfl ?aP (fun _ hk => hk.elim) ?aF ?aO ?aB ?aS ?aL ?_; (case aP => exact rfl); (case aB => exact HB.out); (case aF => exact (fun _ _ => trivial)); (case aO => exact HO.out); (case aS => exact (below_size HB.out)); (case aL => simp); intro v2 W2 ho hb hg hat; replace HX := Aside0.mk (blk_apart HX.out (by decide) HO.out hg); replace HB := Aside0.mk hb; replace HO := Aside0.mk ho; clear ho hb hg hat))
  have hc : W2.cell? ⟨g, 2, none⟩ = some (.int .u64 lo) := (blk_cell HX.out 2).trans rfl
  rw [rounds_succ]
  go_wp2_with fail
  clear hc
  refine (strconv_Itoa.calls _ _ _ (itoa_b (and255 _)) (HW.out.below HB.out)).mono ?_
  rintro e w2 ⟨rfl, hb⟩
  replace HX := Aside0.mk (blk_below HX.out hb)
  replace HO := Aside0.mk (Kd.R_below HO.out hb)
  replace HB := Aside0.mk (below_step HB.out hb)
  clear hb
  go_wp2_with (first | ((with_reducible refine gate_builtin (b := .append) (xs := #[.tmp 17, .tmp 27]) rfl ?_); at_builtin; refine Kd.R_append Kd.string (w0 := w) w.heap.size rfl (.tmp 17) (.tmp 27) 56 9 (.string ⟨#[]⟩) 16 rfl Tryd.underlying56 info9 rfl (by decide) (by omega) _ [decB (Go.bits .and .u64 (lo / 16777216) 255), decB (Go.bits .and .u64 (lo / 65536) 255), decB (Go.bits .and .u64 (lo / 256) 255)] (decB (Go.bits .and .u64 (lo) 255)) [.string (decB (Go.bits .and .u64 (lo) 255))] (fun _ => True) (fun _ => False) rfl rfl ?aP (fun _ hk => hk.elim) ?aF ?aO ?aB ?aS ?aL ?_; (case aP => exact rfl); (case aB => exact HB.out); (case aF => exact (fun _ _ => trivial)); (case aO => exact HO.out); (case aS => exact (below_size HB.out)); (case aL => simp); intro v3 W3 ho hb hg hat; replace HX := Aside0.mk (blk_apart HX.out (by decide) HO.out hg); replace HB := Aside0.mk hb; replace HO := Aside0.mk ho; clear ho hb hg hat))
  rw [rounds_succ]
  obtain ⟨A, c, e⟩ := Kd.R_slice HO.out
  subst e
  go_wp2_with fail
  refine (strings_Join.calls A c _ _ r _ (Kd.R_reads' HO.out).2.2 (Kd.R_reads' HO.out).2.1 HJ.out).mono ?_
  rintro e w2 ⟨rfl, hb⟩
  replace HB := Aside0.mk (below_step HB.out hb)
  clear hb
  go_wp2_with fail
  exact bodyPost_ret (v := .string r) (by simp [results, Tryd.results33, go_sem]) rfl ⟨rfl, HB.out⟩
theorem and65535 (x : Int) : 0 ≤ Go.bits .and .u64 x 65535 ∧ Go.bits .and .u64 x 65535 < 65536 := by
  unfold Go.bits
  have h1 : ((BitVec.ofInt 64 x) &&& (BitVec.ofInt 64 65535)).toNat < 65536 := by
    rw [BitVec.toNat_and, show (BitVec.ofInt 64 65535).toNat = 2 ^ 16 - 1 from by decide, Nat.and_two_pow_sub_one_eq_mod]
    exact Nat.mod_lt _ (by decide)
  show 0 ≤ IntKind.u64.wrap _ ∧ IntKind.u64.wrap _ < 65536
  rw [IntWalk.u64_in _ ⟨by show (0 : Int) ≤ (((BitVec.ofInt 64 x) &&& (BitVec.ofInt 64 65535)).toNat : Int); omega, by show (((BitVec.ofInt 64 x) &&& (BitVec.ofInt 64 65535)).toNat : Int) ≤ _; omega⟩]
  exact ⟨by show (0 : Int) ≤ (((BitVec.ofInt 64 x) &&& (BitVec.ofInt 64 65535)).toNat : Int); omega, by show (((BitVec.ofInt 64 x) &&& (BitVec.ofInt 64 65535)).toNat : Int) < 65536; omega⟩
def grpL (hi lo : Int) : List Int := [Go.bits .and .u64 (hi / 281474976710656) 65535, Go.bits .and .u64 (hi / 4294967296) 65535, Go.bits .and .u64 (hi / 65536) 65535, Go.bits .and .u64 (hi) 65535, Go.bits .and .u64 (lo / 281474976710656) 65535, Go.bits .and .u64 (lo / 4294967296) 65535, Go.bits .and .u64 (lo / 65536) 65535, Go.bits .and .u64 (lo) 65535]
def fmtT (l : List Int) (p q : Nat) : Nat → Nat → ByteArray → ByteArray
  | 0, _, o => o
  | d + 1, i, o => if i < 8 then (if i = p ∧ 1 < q - p then fmtT l p q d q (o ++ ⟨#[58, 58]⟩) else fmtT l p q d (i + 1) ((if o.toList ≠ [] ∧ Lib.hasSuffix o.data.toList [58] = false then o ++ ⟨#[58]⟩ else o) ++ ⟨(hexL 4 (l.getD i 0).toNat).toArray⟩)) else o
theorem runF_le (l : List Int) : ∀ (d i a b : Nat), a ≤ b → b ≤ 8 → i + d ≤ 8 → (runF l d i (a, b)).1 ≤ (runF l d i (a, b)).2 ∧ (runF l d i (a, b)).2 ≤ 8
  | 0, i, a, b, h1, h2, _ => ⟨h1, h2⟩
  | d + 1, i, a, b, h1, h2, h3 => by
    unfold runF
    split
    · have := zEnd_le l (8 - i) i
      exact runF_le l d (i + 1) _ _ this.1 (by omega) (by omega)
    · exact runF_le l d (i + 1) _ _ h1 h2 (by omega)
theorem runF_ok (l : List Int) : (runF l 8 0 (0, 0)).1 ≤ (runF l 8 0 (0, 0)).2 ∧ (runF l 8 0 (0, 0)).2 ≤ 8 := runF_le l 8 0 0 0 (by omega) (by omega) (by omega)
structure TxtI (l : List Int) (p q gg i : Nat) (o r : ByteArray) : Prop where
  m : 8 - i ≤ gg
  i8 : i ≤ 8
  res : fmtT l p q gg i o = r
  sz : o.size + 8 * gg ≤ 64
theorem TxtI.pos {l : List Int} {p q gg i : Nat} {o r : ByteArray} (h : TxtI l p q gg i o r) (hi : i < 8) : ∃ m, gg = m + 1 := ⟨gg - 1, by have := h.m; omega⟩
theorem TxtI.fin {l : List Int} {p q gg i : Nat} {o r : ByteArray} (h : TxtI l p q gg i o r) (hi : ¬ i < 8) : o = r := by
  have := h.res
  cases gg with
  | zero => exact this
  | succ d => rw [fmtT, if_neg hi] at this; exact this
theorem TxtI.gap {l : List Int} {p q d i : Nat} {o r : ByteArray} (h : TxtI l p q (d + 1) i o r) (hi : i < 8) (hp : i = p) (hq : 1 < q - p) (hq8 : q ≤ 8) : TxtI l p q d q (o ++ ⟨#[58, 58]⟩) r := by
  obtain ⟨h1, h2, h3, h4⟩ := h
  refine ⟨by omega, hq8, ?_, ?_⟩
  · rw [fmtT, if_pos hi, if_pos ⟨hp, hq⟩] at h3; exact h3
  · rw [ByteArray.size_append, show (⟨#[58, 58]⟩ : ByteArray).size = 2 from rfl]; omega
theorem hexL_len : ∀ (k n : Nat), (hexL k n).length ≤ k
  | 0, _ => Nat.le_refl _
  | k + 1, n => by
    unfold hexL
    split
    · simp
    · have := hexL_len k (n / 16); simp; omega
theorem hexL_size (k n : Nat) : (⟨(hexL k n).toArray⟩ : ByteArray).size ≤ k := by
  show (hexL k n).toArray.size ≤ k
  rw [List.size_toArray]
  exact hexL_len k n
theorem TxtI.hexA {l : List Int} {p q d i : Nat} {o r : ByteArray} {x : Int} (hx : l.getD i 0 = x) (h : TxtI l p q (d + 1) i o r) (hi : i < 8) (hp : ¬ (i = p ∧ 1 < q - p)) (hs : ¬ (o.toList ≠ [] ∧ Lib.hasSuffix o.data.toList [58] = false)) : TxtI l p q d (i + 1) (o ++ ⟨(hexL 4 x.toNat).toArray⟩) r := by
  subst hx
  obtain ⟨h1, h2, h3, h4⟩ := h
  refine ⟨by omega, by omega, ?_, ?_⟩
  · rw [fmtT, if_pos hi, if_neg hp, if_neg hs] at h3; exact h3
  · have := hexL_size 4 (l.getD i 0).toNat
    rw [ByteArray.size_append]; omega
theorem TxtI.hexB {l : List Int} {p q d i : Nat} {o r : ByteArray} {x : Int} (hx : l.getD i 0 = x) (h : TxtI l p q (d + 1) i o r) (hi : i < 8) (hp : ¬ (i = p ∧ 1 < q - p)) (hs : o.toList ≠ [] ∧ Lib.hasSuffix o.data.toList [58] = false) : TxtI l p q d (i + 1) (o ++ ⟨#[58]⟩ ++ ⟨(hexL 4 x.toNat).toArray⟩) r := by
  subst hx
  obtain ⟨h1, h2, h3, h4⟩ := h
  refine ⟨by omega, by omega, ?_, ?_⟩
  · rw [fmtT, if_pos hi, if_neg hp, if_pos hs] at h3; exact h3
  · have := hexL_size 4 (l.getD i 0).toNat
    rw [ByteArray.size_append, ByteArray.size_append, show (⟨#[58]⟩ : ByteArray).size = 1 from rfl]; omega
theorem hex_u {x : Int} (h : 0 ≤ x ∧ x < 65536) : strconv_FormatUint.f x 16 = some ⟨(hexL 4 x.toNat).toArray⟩ := by unfold strconv_FormatUint.f; rw [if_pos rfl, if_pos h]
theorem suf_u {o : ByteArray} (h : o.size ≤ 64) : strings_HasSuffix.f o ⟨#[58]⟩ = some (Lib.hasSuffix o.data.toList [58]) := by unfold strings_HasSuffix.f; rw [if_pos (by omega)]
theorem i_eq {i p : Nat} (h : i = p) : ((i : Int) == (p : Int)) = true := by simp [h]
theorem i_ne {i p : Nat} (h : ¬ i = p) : ((i : Int) == (p : Int)) = false := beq_eq_false_iff_ne.mpr (fun e => h (by omega))
theorem i_eqd {i p : Nat} (h : i = p) : decide ((i : Int) = (p : Int)) = true := by simp [h]
theorem i_ned {i p : Nat} (h : ¬ i = p) : decide ((i : Int) = (p : Int)) = false := decide_eq_false (fun e => h (by omega))
theorem q_gt {p q : Nat} (h : 1 < q - p) (h8 : q ≤ 8) : decide (wrap64 ((q : Int) - (p : Int)) > 1) = true := decide_eq_true (by unfold wrap64; omega)
theorem q_ngt {p q : Nat} (h : ¬ 1 < q - p) (h8 : p ≤ q ∧ q ≤ 8) : decide (wrap64 ((q : Int) - (p : Int)) > 1) = false := decide_eq_false (by unfold wrap64; omega)
theorem sz_2 {l : List Int} {p q d i : Nat} {o r : ByteArray} (h : TxtI l p q d i o r) : (9223372036854775807 < o.size + 2) = False := eq_false (by have := h.sz; omega)
theorem sz_1 {l : List Int} {p q d i : Nat} {o r : ByteArray} (h : TxtI l p q d i o r) : (9223372036854775807 < o.size + 1) = False := eq_false (by have := h.sz; omega)
theorem sz_h {l : List Int} {p q d i : Nat} {o t r : ByteArray} (h : TxtI l p q d i (o ++ t) r) : (9223372036854775807 < o.size + t.size) = False := eq_false (by have := h.sz; rw [ByteArray.size_append] at this; omega)
theorem q_next {p q : Nat} (h : 1 < q - p) (h8 : q ≤ 8) : wrap64 (wrap64 ((q : Int) - 1) + 1) = (q : Int) := by unfold wrap64; omega
theorem run_g (hi lo : Int) (w : World) : Calls Tryd.prog 56 #[.agg #[.int .u64 (Go.bits .and .u64 (hi / 281474976710656) 65535), .int .u64 (Go.bits .and .u64 (hi / 4294967296) 65535), .int .u64 (Go.bits .and .u64 (hi / 65536) 65535), .int .u64 (Go.bits .and .u64 (hi) 65535), .int .u64 (Go.bits .and .u64 (lo / 281474976710656) 65535), .int .u64 (Go.bits .and .u64 (lo / 4294967296) 65535), .int .u64 (Go.bits .and .u64 (lo / 65536) 65535), .int .u64 (Go.bits .and .u64 (lo) 65535)]] w fun e w' => e = .returned (.tuple #[.int .i64 ((runF (grpL hi lo) 8 0 (0, 0)).1 : Nat), .int .i64 ((runF (grpL hi lo) 8 0 (0, 0)).2 : Nat)]) ∧ Below w.heap.size w w' := address_run.calls _ _ _ _ _ _ _ _ w
def fmt6 (hi lo : Int) : ByteArray := fmtT (grpL hi lo) (runF (grpL hi lo) 8 0 (0, 0)).1 (runF (grpL hi lo) 8 0 (0, 0)).2 8 0 ⟨#[]⟩
def fmt.T13 : Bool × List (List Nat × List Nat) := (true, [([], []), ([], []), ([1], [1]), ([], []), ([3], [3]), ([], []), ([5], [5]), ([6], [6]), ([4, 7], [4, 7]), ([8], [8]), ([], []), ([10], [10]), ([], []), ([12], [12]), ([13], [13]), ([11, 14], [11, 14]), ([15], [15]), ([0, 0, 3, 4, 5, 6, 7, 8, 9], [0]), ([17, 9, 0, 3, 4, 5, 6, 7, 8, 9], [9, 17]), ([2, 0, 1, 2, 3, 4, 5, 6, 7, 8, 9, 10, 11, 12, 13, 14, 15, 16, 17, 18], [2]), ([19, 16, 18, 0, 1, 2, 3, 4, 5, 6, 7, 8, 9, 10, 11, 12, 13, 14, 15, 16, 17, 18], [16, 19])])
def fmt.B13 : List Nat := [0, 0, 2, 0, 8, 0, 32, 96, 248, 504, 0, 1024, 0, 4096, 12288, 31744, 64512, 1017, 132089, 524287, 1048575]
theorem fmt.tab13 : rtab .any (opsOf Tryd.f33 13) = fmt.T13 := by kernel_rfl
theorem fmt.bits13 : waitsOk fmt.T13.2 fmt.B13 = true := by kernel_rfl
set_option maxHeartbeats 4000000 in
set_option maxRecDepth 100000 in
theorem format6 (hi lo : Int) (w : World) (hW : WOK w) : Calls Tryd.prog 33 #[.agg #[.bool true, .int .u64 hi, .int .u64 lo]] w fun e w' => e = .returned (.string (fmt6 hi lo)) ∧ Below w.heap.size w w' := by
  have HW := Aside0.mk hW
  clear hW
  obtain ⟨r, hr⟩ : ∃ r, fmt6 hi lo = r := ⟨_, rfl⟩
  have HR := Aside0.mk hr
  rw [hr]
  clear hr
  have HX : Aside0 ((w.alloc (.cells #[.bool true, .int .u64 hi, .int .u64 lo] 25)).heap[w.heap.size]? = some (.cells #[.bool true, .int .u64 hi, .int .u64 lo] 25 (0, 0))) := ⟨heap_alloc_new _ _⟩
  have HB : Aside0 (Below w.heap.size w (w.alloc (.cells #[.bool true, .int .u64 hi, .int .u64 lo] 25))) := ⟨below_alloc (Below.refl _ _) _⟩
  go_enter Tryd.func33, Tryd.ntmps33
  go_upto_region 9 with (fail)
  obtain ⟨g, hg⟩ : ∃ g, w.heap.size = g := ⟨_, rfl⟩
  rw [hg] at HX
  simp only [hg]
  clear hg
  generalize w.alloc (.cells #[.bool true, .int .u64 hi, .int .u64 lo] 25) = W at HX HB ⊢
  have HY : Aside0 ((W.alloc (.cells #[.int .u64 0, .int .u64 0, .int .u64 0, .int .u64 0, .int .u64 0, .int .u64 0, .int .u64 0, .int .u64 0] 68)).heap[W.heap.size]? = some (.cells #[.int .u64 0, .int .u64 0, .int .u64 0, .int .u64 0, .int .u64 0, .int .u64 0, .int .u64 0, .int .u64 0] 68 (0, 0))) := ⟨heap_alloc_new _ _⟩
  have HL := Aside0.mk (blk_lt HX.out)
  replace HX := Aside0.mk (blk_alloc HX.out (.cells #[.int .u64 0, .int .u64 0, .int .u64 0, .int .u64 0, .int .u64 0, .int .u64 0, .int .u64 0, .int .u64 0] 68))
  have HG := Aside0.mk HB.out.size
  replace HB := Aside0.mk (below_alloc HB.out (.cells #[.int .u64 0, .int .u64 0, .int .u64 0, .int .u64 0, .int .u64 0, .int .u64 0, .int .u64 0, .int .u64 0] 68))
  go_upto_region 11 with (fail)
  obtain ⟨ga, hga⟩ : ∃ ga, W.heap.size = ga := ⟨_, rfl⟩
  rw [hga] at HY HG HL
  simp only [hga]
  clear hga
  have HN := Aside0.mk (Nat.ne_of_lt HL.out)
  clear HL
  generalize W.alloc (.cells #[.int .u64 0, .int .u64 0, .int .u64 0, .int .u64 0, .int .u64 0, .int .u64 0, .int .u64 0, .int .u64 0] 68) = W0 at HX HY HB ⊢
  refine wp_loop_rounds 5 ?_
  rw [rounds_succ]
  go_upto_region 13 with (fail)
  refine start_ (n := 21) (S := fun w' => w'.cell? ⟨g, 1, none⟩ = some (.int .u64 hi) ∧ w'.cell? ⟨g, 2, none⟩ = some (.int .u64 lo)) (ds := [20]) #[false, false, false, false, false, false, false, false, false, false, false, false, false, false, false, false, false, false, false, false, false] (by kernel_rfl) rfl rfl ⟨(blk_cell (blk_drew HX.out) 1).trans rfl, (blk_cell (blk_drew HX.out) 2).trans rfl⟩ (fun hHeld => ?_)
  refine with_tabW fmt.tab13 fmt.bits13 (fun HT_ HW_ => ?_)
  replace HX := Aside0.mk (blk_drew HX.out)
  replace HY := Aside0.mk (blk_drew HY.out)
  replace HB := Aside0.mk (below_drew1 HB.out)
  generalize W0.drew = V0 at HX HY HB hHeld ⊢
  refine zp 0 35 HT_ ?_; refine zp 1 36 HT_ ?_; refine zp (v := .int .i64 4) 2 37 HT_ ?_ (hy := fun _ => rfl); refine zp 3 38 HT_ ?_; refine zt 4 39 HT_ HW_ hHeld ?_; refine zp 5 40 HT_ ?_; refine zp (v := .int .i64 0) 6 41 HT_ ?_ (hy := fun _ => rfl); refine zp (v := .int .i64 48) 7 42 HT_ ?_ (hy := fun _ => rfl); refine zp 8 43 HT_ ?_; refine zp 9 44 HT_ ?_; refine zp 10 45 HT_ ?_; refine zt 11 46 HT_ HW_ hHeld ?_; refine zp 12 47 HT_ ?_; refine zp (v := .int .i64 0) 13 48 HT_ ?_ (hy := fun _ => rfl); refine zp (v := .int .i64 48) 14 49 HT_ ?_ (hy := fun _ => rfl); refine zp 15 50 HT_ ?_; refine zp 16 51 HT_ ?_; refine zp 17 52 HT_ ?_
  have hc : V0.cell? ⟨ga, 0, none⟩ = some (.int .u64 0) := (blk_cell HY.out 0).trans rfl
  have hf : V0.frozen? ⟨ga, 0, none⟩ = false := blk_frozen HY.out 0
  refine one_ (i := 18) (N := none) #[true, true, true, true, true, true, true, true, true, true, true, true, true, true, true, true, true, true, true, false, false] rfl rfl (one_of HT_.out (by kernel_rfl)) (by decide) (fun K hK => ?_)
  refine skip_ (w1 := V0.setCell ⟨ga, 0, none⟩ (.int .u64 (Go.bits .and .u64 (hi / 281474976710656) 65535))) (by rfl) rfl (by go_simp) ?_
  clear hc hf
  replace HX := Aside0.mk (blk_far HX.out (p := ⟨ga, 0, none⟩) HN.out (.int .u64 (Go.bits .and .u64 (hi / 281474976710656) 65535)))
  replace HY : Aside0 ((V0.setCell ⟨ga, 0, none⟩ (.int .u64 (Go.bits .and .u64 (hi / 281474976710656) 65535))).heap[ga]? = some (.cells #[.int .u64 (Go.bits .and .u64 (hi / 281474976710656) 65535), .int .u64 0, .int .u64 0, .int .u64 0, .int .u64 0, .int .u64 0, .int .u64 0, .int .u64 0] 68 (0, 0))) := ⟨blk_put (cs := #[.int .u64 0, .int .u64 0, .int .u64 0, .int .u64 0, .int .u64 0, .int .u64 0, .int .u64 0, .int .u64 0]) HY.out 0 _ rfl⟩
  replace HB := Aside0.mk (HB.out.setCell (p := ⟨ga, 0, none⟩) HG.out (.int .u64 (Go.bits .and .u64 (hi / 281474976710656) 65535)))
  generalize V0.setCell ⟨ga, 0, none⟩ (.int .u64 (Go.bits .and .u64 (hi / 281474976710656) 65535)) = U0 at HX HY HB ⊢
  refine hK.out _ _ ⟨(blk_cell HX.out 1).trans rfl, (blk_cell HX.out 2).trans rfl⟩ (fun _ => ?_)
  clear hK K
  refine zp 19 53 HT_ ?_
  have hc : U0.cell? ⟨ga, 4, none⟩ = some (.int .u64 0) := (blk_cell HY.out 4).trans rfl
  have hf : U0.frozen? ⟨ga, 4, none⟩ = false := blk_frozen HY.out 4
  refine last_ (i := 20) (N := none) #[true, true, true, true, true, true, true, true, true, true, true, true, true, true, true, true, true, true, true, true, true] rfl rfl (one_of HT_.out (by kernel_rfl)) (by decide) (fun K hK => ?_)
  refine skip_ (w1 := U0.setCell ⟨ga, 4, none⟩ (.int .u64 (Go.bits .and .u64 (lo / 281474976710656) 65535))) (by rfl) rfl (by go_simp) ?_
  clear hc hf
  replace HX := Aside0.mk (blk_far HX.out (p := ⟨ga, 4, none⟩) HN.out (.int .u64 (Go.bits .and .u64 (lo / 281474976710656) 65535)))
  replace HY : Aside0 ((U0.setCell ⟨ga, 4, none⟩ (.int .u64 (Go.bits .and .u64 (lo / 281474976710656) 65535))).heap[ga]? = some (.cells #[.int .u64 (Go.bits .and .u64 (hi / 281474976710656) 65535), .int .u64 0, .int .u64 0, .int .u64 0, .int .u64 (Go.bits .and .u64 (lo / 281474976710656) 65535), .int .u64 0, .int .u64 0, .int .u64 0] 68 (0, 0))) := ⟨blk_put (cs := #[.int .u64 (Go.bits .and .u64 (hi / 281474976710656) 65535), .int .u64 0, .int .u64 0, .int .u64 0, .int .u64 0, .int .u64 0, .int .u64 0, .int .u64 0]) HY.out 4 _ rfl⟩
  replace HB := Aside0.mk (HB.out.setCell (p := ⟨ga, 4, none⟩) HG.out (.int .u64 (Go.bits .and .u64 (lo / 281474976710656) 65535)))
  generalize U0.setCell ⟨ga, 4, none⟩ (.int .u64 (Go.bits .and .u64 (lo / 281474976710656) 65535)) = W1 at HX HY HB ⊢
  refine hK.out _ _ ?_
  clear hK K
  refine zd HT_ ?_
  clear hHeld HT_ HW_
  go_wp2_with fail
  rw [rounds_succ]
  go_upto_region 13 with (fail)
  refine start_ (n := 21) (S := fun w' => w'.cell? ⟨g, 1, none⟩ = some (.int .u64 hi) ∧ w'.cell? ⟨g, 2, none⟩ = some (.int .u64 lo)) (ds := [20]) #[false, false, false, false, false, false, false, false, false, false, false, false, false, false, false, false, false, false, false, false, false] (by kernel_rfl) rfl rfl ⟨(blk_cell (blk_drew HX.out) 1).trans rfl, (blk_cell (blk_drew HX.out) 2).trans rfl⟩ (fun hHeld => ?_)
  refine with_tabW fmt.tab13 fmt.bits13 (fun HT_ HW_ => ?_)
  replace HX := Aside0.mk (blk_drew HX.out)
  replace HY := Aside0.mk (blk_drew HY.out)
  replace HB := Aside0.mk (below_drew1 HB.out)
  generalize W1.drew = V1 at HX HY HB hHeld ⊢
  refine zp 0 35 HT_ ?_; refine zp 1 36 HT_ ?_; refine zp (v := .int .i64 5) 2 37 HT_ ?_ (hy := fun _ => rfl); refine zp 3 38 HT_ ?_; refine zt 4 39 HT_ HW_ hHeld ?_; refine zp 5 40 HT_ ?_; refine zp (v := .int .i64 16) 6 41 HT_ ?_ (hy := fun _ => rfl); refine zp (v := .int .i64 32) 7 42 HT_ ?_ (hy := fun _ => rfl); refine zp 8 43 HT_ ?_; refine zp 9 44 HT_ ?_; refine zp 10 45 HT_ ?_; refine zt 11 46 HT_ HW_ hHeld ?_; refine zp 12 47 HT_ ?_; refine zp (v := .int .i64 16) 13 48 HT_ ?_ (hy := fun _ => rfl); refine zp (v := .int .i64 32) 14 49 HT_ ?_ (hy := fun _ => rfl); refine zp 15 50 HT_ ?_; refine zp 16 51 HT_ ?_; refine zp 17 52 HT_ ?_
  have hc : V1.cell? ⟨ga, 1, none⟩ = some (.int .u64 0) := (blk_cell HY.out 1).trans rfl
  have hf : V1.frozen? ⟨ga, 1, none⟩ = false := blk_frozen HY.out 1
  refine one_ (i := 18) (N := none) #[true, true, true, true, true, true, true, true, true, true, true, true, true, true, true, true, true, true, true, false, false] rfl rfl (one_of HT_.out (by kernel_rfl)) (by decide) (fun K hK => ?_)
  refine skip_ (w1 := V1.setCell ⟨ga, 1, none⟩ (.int .u64 (Go.bits .and .u64 (hi / 4294967296) 65535))) (by rfl) rfl (by go_simp) ?_
  clear hc hf
  replace HX := Aside0.mk (blk_far HX.out (p := ⟨ga, 1, none⟩) HN.out (.int .u64 (Go.bits .and .u64 (hi / 4294967296) 65535)))
  replace HY : Aside0 ((V1.setCell ⟨ga, 1, none⟩ (.int .u64 (Go.bits .and .u64 (hi / 4294967296) 65535))).heap[ga]? = some (.cells #[.int .u64 (Go.bits .and .u64 (hi / 281474976710656) 65535), .int .u64 (Go.bits .and .u64 (hi / 4294967296) 65535), .int .u64 0, .int .u64 0, .int .u64 (Go.bits .and .u64 (lo / 281474976710656) 65535), .int .u64 0, .int .u64 0, .int .u64 0] 68 (0, 0))) := ⟨blk_put (cs := #[.int .u64 (Go.bits .and .u64 (hi / 281474976710656) 65535), .int .u64 0, .int .u64 0, .int .u64 0, .int .u64 (Go.bits .and .u64 (lo / 281474976710656) 65535), .int .u64 0, .int .u64 0, .int .u64 0]) HY.out 1 _ rfl⟩
  replace HB := Aside0.mk (HB.out.setCell (p := ⟨ga, 1, none⟩) HG.out (.int .u64 (Go.bits .and .u64 (hi / 4294967296) 65535)))
  generalize V1.setCell ⟨ga, 1, none⟩ (.int .u64 (Go.bits .and .u64 (hi / 4294967296) 65535)) = U1 at HX HY HB ⊢
  refine hK.out _ _ ⟨(blk_cell HX.out 1).trans rfl, (blk_cell HX.out 2).trans rfl⟩ (fun _ => ?_)
  clear hK K
  refine zp 19 53 HT_ ?_
  have hc : U1.cell? ⟨ga, 5, none⟩ = some (.int .u64 0) := (blk_cell HY.out 5).trans rfl
  have hf : U1.frozen? ⟨ga, 5, none⟩ = false := blk_frozen HY.out 5
  refine last_ (i := 20) (N := none) #[true, true, true, true, true, true, true, true, true, true, true, true, true, true, true, true, true, true, true, true, true] rfl rfl (one_of HT_.out (by kernel_rfl)) (by decide) (fun K hK => ?_)
  refine skip_ (w1 := U1.setCell ⟨ga, 5, none⟩ (.int .u64 (Go.bits .and .u64 (lo / 4294967296) 65535))) (by rfl) rfl (by go_simp) ?_
  clear hc hf
  replace HX := Aside0.mk (blk_far HX.out (p := ⟨ga, 5, none⟩) HN.out (.int .u64 (Go.bits .and .u64 (lo / 4294967296) 65535)))
  replace HY : Aside0 ((U1.setCell ⟨ga, 5, none⟩ (.int .u64 (Go.bits .and .u64 (lo / 4294967296) 65535))).heap[ga]? = some (.cells #[.int .u64 (Go.bits .and .u64 (hi / 281474976710656) 65535), .int .u64 (Go.bits .and .u64 (hi / 4294967296) 65535), .int .u64 0, .int .u64 0, .int .u64 (Go.bits .and .u64 (lo / 281474976710656) 65535), .int .u64 (Go.bits .and .u64 (lo / 4294967296) 65535), .int .u64 0, .int .u64 0] 68 (0, 0))) := ⟨blk_put (cs := #[.int .u64 (Go.bits .and .u64 (hi / 281474976710656) 65535), .int .u64 (Go.bits .and .u64 (hi / 4294967296) 65535), .int .u64 0, .int .u64 0, .int .u64 (Go.bits .and .u64 (lo / 281474976710656) 65535), .int .u64 0, .int .u64 0, .int .u64 0]) HY.out 5 _ rfl⟩
  replace HB := Aside0.mk (HB.out.setCell (p := ⟨ga, 5, none⟩) HG.out (.int .u64 (Go.bits .and .u64 (lo / 4294967296) 65535)))
  generalize U1.setCell ⟨ga, 5, none⟩ (.int .u64 (Go.bits .and .u64 (lo / 4294967296) 65535)) = W2 at HX HY HB ⊢
  refine hK.out _ _ ?_
  clear hK K
  refine zd HT_ ?_
  clear hHeld HT_ HW_
  go_wp2_with fail
  rw [rounds_succ]
  go_upto_region 13 with (fail)
  refine start_ (n := 21) (S := fun w' => w'.cell? ⟨g, 1, none⟩ = some (.int .u64 hi) ∧ w'.cell? ⟨g, 2, none⟩ = some (.int .u64 lo)) (ds := [20]) #[false, false, false, false, false, false, false, false, false, false, false, false, false, false, false, false, false, false, false, false, false] (by kernel_rfl) rfl rfl ⟨(blk_cell (blk_drew HX.out) 1).trans rfl, (blk_cell (blk_drew HX.out) 2).trans rfl⟩ (fun hHeld => ?_)
  refine with_tabW fmt.tab13 fmt.bits13 (fun HT_ HW_ => ?_)
  replace HX := Aside0.mk (blk_drew HX.out)
  replace HY := Aside0.mk (blk_drew HY.out)
  replace HB := Aside0.mk (below_drew1 HB.out)
  generalize W2.drew = V2 at HX HY HB hHeld ⊢
  refine zp 0 35 HT_ ?_; refine zp 1 36 HT_ ?_; refine zp (v := .int .i64 6) 2 37 HT_ ?_ (hy := fun _ => rfl); refine zp 3 38 HT_ ?_; refine zt 4 39 HT_ HW_ hHeld ?_; refine zp 5 40 HT_ ?_; refine zp (v := .int .i64 32) 6 41 HT_ ?_ (hy := fun _ => rfl); refine zp (v := .int .i64 16) 7 42 HT_ ?_ (hy := fun _ => rfl); refine zp 8 43 HT_ ?_; refine zp 9 44 HT_ ?_; refine zp 10 45 HT_ ?_; refine zt 11 46 HT_ HW_ hHeld ?_; refine zp 12 47 HT_ ?_; refine zp (v := .int .i64 32) 13 48 HT_ ?_ (hy := fun _ => rfl); refine zp (v := .int .i64 16) 14 49 HT_ ?_ (hy := fun _ => rfl); refine zp 15 50 HT_ ?_; refine zp 16 51 HT_ ?_; refine zp 17 52 HT_ ?_
  have hc : V2.cell? ⟨ga, 2, none⟩ = some (.int .u64 0) := (blk_cell HY.out 2).trans rfl
  have hf : V2.frozen? ⟨ga, 2, none⟩ = false := blk_frozen HY.out 2
  refine one_ (i := 18) (N := none) #[true, true, true, true, true, true, true, true, true, true, true, true, true, true, true, true, true, true, true, false, false] rfl rfl (one_of HT_.out (by kernel_rfl)) (by decide) (fun K hK => ?_)
  refine skip_ (w1 := V2.setCell ⟨ga, 2, none⟩ (.int .u64 (Go.bits .and .u64 (hi / 65536) 65535))) (by rfl) rfl (by go_simp) ?_
  clear hc hf
  replace HX := Aside0.mk (blk_far HX.out (p := ⟨ga, 2, none⟩) HN.out (.int .u64 (Go.bits .and .u64 (hi / 65536) 65535)))
  replace HY : Aside0 ((V2.setCell ⟨ga, 2, none⟩ (.int .u64 (Go.bits .and .u64 (hi / 65536) 65535))).heap[ga]? = some (.cells #[.int .u64 (Go.bits .and .u64 (hi / 281474976710656) 65535), .int .u64 (Go.bits .and .u64 (hi / 4294967296) 65535), .int .u64 (Go.bits .and .u64 (hi / 65536) 65535), .int .u64 0, .int .u64 (Go.bits .and .u64 (lo / 281474976710656) 65535), .int .u64 (Go.bits .and .u64 (lo / 4294967296) 65535), .int .u64 0, .int .u64 0] 68 (0, 0))) := ⟨blk_put (cs := #[.int .u64 (Go.bits .and .u64 (hi / 281474976710656) 65535), .int .u64 (Go.bits .and .u64 (hi / 4294967296) 65535), .int .u64 0, .int .u64 0, .int .u64 (Go.bits .and .u64 (lo / 281474976710656) 65535), .int .u64 (Go.bits .and .u64 (lo / 4294967296) 65535), .int .u64 0, .int .u64 0]) HY.out 2 _ rfl⟩
  replace HB := Aside0.mk (HB.out.setCell (p := ⟨ga, 2, none⟩) HG.out (.int .u64 (Go.bits .and .u64 (hi / 65536) 65535)))
  generalize V2.setCell ⟨ga, 2, none⟩ (.int .u64 (Go.bits .and .u64 (hi / 65536) 65535)) = U2 at HX HY HB ⊢
  refine hK.out _ _ ⟨(blk_cell HX.out 1).trans rfl, (blk_cell HX.out 2).trans rfl⟩ (fun _ => ?_)
  clear hK K
  refine zp 19 53 HT_ ?_
  have hc : U2.cell? ⟨ga, 6, none⟩ = some (.int .u64 0) := (blk_cell HY.out 6).trans rfl
  have hf : U2.frozen? ⟨ga, 6, none⟩ = false := blk_frozen HY.out 6
  refine last_ (i := 20) (N := none) #[true, true, true, true, true, true, true, true, true, true, true, true, true, true, true, true, true, true, true, true, true] rfl rfl (one_of HT_.out (by kernel_rfl)) (by decide) (fun K hK => ?_)
  refine skip_ (w1 := U2.setCell ⟨ga, 6, none⟩ (.int .u64 (Go.bits .and .u64 (lo / 65536) 65535))) (by rfl) rfl (by go_simp) ?_
  clear hc hf
  replace HX := Aside0.mk (blk_far HX.out (p := ⟨ga, 6, none⟩) HN.out (.int .u64 (Go.bits .and .u64 (lo / 65536) 65535)))
  replace HY : Aside0 ((U2.setCell ⟨ga, 6, none⟩ (.int .u64 (Go.bits .and .u64 (lo / 65536) 65535))).heap[ga]? = some (.cells #[.int .u64 (Go.bits .and .u64 (hi / 281474976710656) 65535), .int .u64 (Go.bits .and .u64 (hi / 4294967296) 65535), .int .u64 (Go.bits .and .u64 (hi / 65536) 65535), .int .u64 0, .int .u64 (Go.bits .and .u64 (lo / 281474976710656) 65535), .int .u64 (Go.bits .and .u64 (lo / 4294967296) 65535), .int .u64 (Go.bits .and .u64 (lo / 65536) 65535), .int .u64 0] 68 (0, 0))) := ⟨blk_put (cs := #[.int .u64 (Go.bits .and .u64 (hi / 281474976710656) 65535), .int .u64 (Go.bits .and .u64 (hi / 4294967296) 65535), .int .u64 (Go.bits .and .u64 (hi / 65536) 65535), .int .u64 0, .int .u64 (Go.bits .and .u64 (lo / 281474976710656) 65535), .int .u64 (Go.bits .and .u64 (lo / 4294967296) 65535), .int .u64 0, .int .u64 0]) HY.out 6 _ rfl⟩
  replace HB := Aside0.mk (HB.out.setCell (p := ⟨ga, 6, none⟩) HG.out (.int .u64 (Go.bits .and .u64 (lo / 65536) 65535)))
  generalize U2.setCell ⟨ga, 6, none⟩ (.int .u64 (Go.bits .and .u64 (lo / 65536) 65535)) = W3 at HX HY HB ⊢
  refine hK.out _ _ ?_
  clear hK K
  refine zd HT_ ?_
  clear hHeld HT_ HW_
  go_wp2_with fail
  rw [rounds_succ]
  go_upto_region 13 with (fail)
  refine start_ (n := 21) (S := fun w' => w'.cell? ⟨g, 1, none⟩ = some (.int .u64 hi) ∧ w'.cell? ⟨g, 2, none⟩ = some (.int .u64 lo)) (ds := [20]) #[false, false, false, false, false, false, false, false, false, false, false, false, false, false, false, false, false, false, false, false, false] (by kernel_rfl) rfl rfl ⟨(blk_cell (blk_drew HX.out) 1).trans rfl, (blk_cell (blk_drew HX.out) 2).trans rfl⟩ (fun hHeld => ?_)
  refine with_tabW fmt.tab13 fmt.bits13 (fun HT_ HW_ => ?_)
  replace HX := Aside0.mk (blk_drew HX.out)
  replace HY := Aside0.mk (blk_drew HY.out)
  replace HB := Aside0.mk (below_drew1 HB.out)
  generalize W3.drew = V3 at HX HY HB hHeld ⊢
  refine zp 0 35 HT_ ?_; refine zp 1 36 HT_ ?_; refine zp (v := .int .i64 7) 2 37 HT_ ?_ (hy := fun _ => rfl); refine zp 3 38 HT_ ?_; refine zt 4 39 HT_ HW_ hHeld ?_; refine zp 5 40 HT_ ?_; refine zp (v := .int .i64 48) 6 41 HT_ ?_ (hy := fun _ => rfl); refine zp (v := .int .i64 0) 7 42 HT_ ?_ (hy := fun _ => rfl); refine zp 8 43 HT_ ?_; refine zp 9 44 HT_ ?_; refine zp 10 45 HT_ ?_; refine zt 11 46 HT_ HW_ hHeld ?_; refine zp 12 47 HT_ ?_; refine zp (v := .int .i64 48) 13 48 HT_ ?_ (hy := fun _ => rfl); refine zp (v := .int .i64 0) 14 49 HT_ ?_ (hy := fun _ => rfl); refine zp 15 50 HT_ ?_; refine zp 16 51 HT_ ?_; refine zp 17 52 HT_ ?_
  have hc : V3.cell? ⟨ga, 3, none⟩ = some (.int .u64 0) := (blk_cell HY.out 3).trans rfl
  have hf : V3.frozen? ⟨ga, 3, none⟩ = false := blk_frozen HY.out 3
  refine one_ (i := 18) (N := none) #[true, true, true, true, true, true, true, true, true, true, true, true, true, true, true, true, true, true, true, false, false] rfl rfl (one_of HT_.out (by kernel_rfl)) (by decide) (fun K hK => ?_)
  refine skip_ (w1 := V3.setCell ⟨ga, 3, none⟩ (.int .u64 (Go.bits .and .u64 (hi) 65535))) (by rfl) rfl (by go_simp) ?_
  clear hc hf
  replace HX := Aside0.mk (blk_far HX.out (p := ⟨ga, 3, none⟩) HN.out (.int .u64 (Go.bits .and .u64 (hi) 65535)))
  replace HY : Aside0 ((V3.setCell ⟨ga, 3, none⟩ (.int .u64 (Go.bits .and .u64 (hi) 65535))).heap[ga]? = some (.cells #[.int .u64 (Go.bits .and .u64 (hi / 281474976710656) 65535), .int .u64 (Go.bits .and .u64 (hi / 4294967296) 65535), .int .u64 (Go.bits .and .u64 (hi / 65536) 65535), .int .u64 (Go.bits .and .u64 (hi) 65535), .int .u64 (Go.bits .and .u64 (lo / 281474976710656) 65535), .int .u64 (Go.bits .and .u64 (lo / 4294967296) 65535), .int .u64 (Go.bits .and .u64 (lo / 65536) 65535), .int .u64 0] 68 (0, 0))) := ⟨blk_put (cs := #[.int .u64 (Go.bits .and .u64 (hi / 281474976710656) 65535), .int .u64 (Go.bits .and .u64 (hi / 4294967296) 65535), .int .u64 (Go.bits .and .u64 (hi / 65536) 65535), .int .u64 0, .int .u64 (Go.bits .and .u64 (lo / 281474976710656) 65535), .int .u64 (Go.bits .and .u64 (lo / 4294967296) 65535), .int .u64 (Go.bits .and .u64 (lo / 65536) 65535), .int .u64 0]) HY.out 3 _ rfl⟩
  replace HB := Aside0.mk (HB.out.setCell (p := ⟨ga, 3, none⟩) HG.out (.int .u64 (Go.bits .and .u64 (hi) 65535)))
  generalize V3.setCell ⟨ga, 3, none⟩ (.int .u64 (Go.bits .and .u64 (hi) 65535)) = U3 at HX HY HB ⊢
  refine hK.out _ _ ⟨(blk_cell HX.out 1).trans rfl, (blk_cell HX.out 2).trans rfl⟩ (fun _ => ?_)
  clear hK K
  refine zp 19 53 HT_ ?_
  have hc : U3.cell? ⟨ga, 7, none⟩ = some (.int .u64 0) := (blk_cell HY.out 7).trans rfl
  have hf : U3.frozen? ⟨ga, 7, none⟩ = false := blk_frozen HY.out 7
  refine last_ (i := 20) (N := none) #[true, true, true, true, true, true, true, true, true, true, true, true, true, true, true, true, true, true, true, true, true] rfl rfl (one_of HT_.out (by kernel_rfl)) (by decide) (fun K hK => ?_)
  refine skip_ (w1 := U3.setCell ⟨ga, 7, none⟩ (.int .u64 (Go.bits .and .u64 (lo) 65535))) (by rfl) rfl (by go_simp) ?_
  clear hc hf
  replace HX := Aside0.mk (blk_far HX.out (p := ⟨ga, 7, none⟩) HN.out (.int .u64 (Go.bits .and .u64 (lo) 65535)))
  replace HY : Aside0 ((U3.setCell ⟨ga, 7, none⟩ (.int .u64 (Go.bits .and .u64 (lo) 65535))).heap[ga]? = some (.cells #[.int .u64 (Go.bits .and .u64 (hi / 281474976710656) 65535), .int .u64 (Go.bits .and .u64 (hi / 4294967296) 65535), .int .u64 (Go.bits .and .u64 (hi / 65536) 65535), .int .u64 (Go.bits .and .u64 (hi) 65535), .int .u64 (Go.bits .and .u64 (lo / 281474976710656) 65535), .int .u64 (Go.bits .and .u64 (lo / 4294967296) 65535), .int .u64 (Go.bits .and .u64 (lo / 65536) 65535), .int .u64 (Go.bits .and .u64 (lo) 65535)] 68 (0, 0))) := ⟨blk_put (cs := #[.int .u64 (Go.bits .and .u64 (hi / 281474976710656) 65535), .int .u64 (Go.bits .and .u64 (hi / 4294967296) 65535), .int .u64 (Go.bits .and .u64 (hi / 65536) 65535), .int .u64 (Go.bits .and .u64 (hi) 65535), .int .u64 (Go.bits .and .u64 (lo / 281474976710656) 65535), .int .u64 (Go.bits .and .u64 (lo / 4294967296) 65535), .int .u64 (Go.bits .and .u64 (lo / 65536) 65535), .int .u64 0]) HY.out 7 _ rfl⟩
  replace HB := Aside0.mk (HB.out.setCell (p := ⟨ga, 7, none⟩) HG.out (.int .u64 (Go.bits .and .u64 (lo) 65535)))
  generalize U3.setCell ⟨ga, 7, none⟩ (.int .u64 (Go.bits .and .u64 (lo) 65535)) = W4 at HX HY HB ⊢
  refine hK.out _ _ ?_
  clear hK K
  refine zd HT_ ?_
  clear hHeld HT_ HW_
  go_wp2_with fail
  rw [rounds_succ]
  have hc0 : W4.cell? ⟨ga, 0, none⟩ = some (.int .u64 (Go.bits .and .u64 (hi / 281474976710656) 65535)) := (blk_cell HY.out 0).trans rfl
  have hc1 : W4.cell? ⟨ga, 1, none⟩ = some (.int .u64 (Go.bits .and .u64 (hi / 4294967296) 65535)) := (blk_cell HY.out 1).trans rfl
  have hc2 : W4.cell? ⟨ga, 2, none⟩ = some (.int .u64 (Go.bits .and .u64 (hi / 65536) 65535)) := (blk_cell HY.out 2).trans rfl
  have hc3 : W4.cell? ⟨ga, 3, none⟩ = some (.int .u64 (Go.bits .and .u64 (hi) 65535)) := (blk_cell HY.out 3).trans rfl
  have hc4 : W4.cell? ⟨ga, 4, none⟩ = some (.int .u64 (Go.bits .and .u64 (lo / 281474976710656) 65535)) := (blk_cell HY.out 4).trans rfl
  have hc5 : W4.cell? ⟨ga, 5, none⟩ = some (.int .u64 (Go.bits .and .u64 (lo / 4294967296) 65535)) := (blk_cell HY.out 5).trans rfl
  have hc6 : W4.cell? ⟨ga, 6, none⟩ = some (.int .u64 (Go.bits .and .u64 (lo / 65536) 65535)) := (blk_cell HY.out 6).trans rfl
  have hc7 : W4.cell? ⟨ga, 7, none⟩ = some (.int .u64 (Go.bits .and .u64 (lo) 65535)) := (blk_cell HY.out 7).trans rfl
  go_wp2_with fail
  clear hc0 hc1 hc2 hc3 hc4 hc5 hc6 hc7
  refine (run_g hi lo _).mono ?_
  rintro e w2 ⟨rfl, hb⟩
  replace HX := Aside0.mk (blk_below HX.out hb)
  replace HY := Aside0.mk (blk_below HY.out hb)
  replace HB := Aside0.mk (below_step HB.out hb)
  clear hb
  have HC : Aside0 (∀ k : Nat, k < 8 → (#[.int .u64 (Go.bits .and .u64 (hi / 281474976710656) 65535), .int .u64 (Go.bits .and .u64 (hi / 4294967296) 65535), .int .u64 (Go.bits .and .u64 (hi / 65536) 65535), .int .u64 (Go.bits .and .u64 (hi) 65535), .int .u64 (Go.bits .and .u64 (lo / 281474976710656) 65535), .int .u64 (Go.bits .and .u64 (lo / 4294967296) 65535), .int .u64 (Go.bits .and .u64 (lo / 65536) 65535), .int .u64 (Go.bits .and .u64 (lo) 65535)] : Array Value)[k]? = some (.int .u64 ((grpL hi lo).getD k 0))) := ⟨fun k hk => by
    rcases k with _ | _ | _ | _ | _ | _ | _ | _ | k <;> first | omega | rfl⟩
  have HH : Aside0 (∀ k : Nat, k < 8 → 0 ≤ (grpL hi lo).getD k 0 ∧ (grpL hi lo).getD k 0 < 65536) := ⟨fun k hk => by
    rcases k with _ | _ | _ | _ | _ | _ | _ | _ | k <;> first | omega | exact and65535 _⟩
  have HP := Aside0.mk (runF_ok (grpL hi lo))
  have H0 : Aside0 (TxtI (grpL hi lo) (runF (grpL hi lo) 8 0 (0, 0)).1 (runF (grpL hi lo) 8 0 (0, 0)).2 8 0 ⟨#[]⟩ r) := ⟨⟨by omega, by omega, HR.out, by decide⟩⟩
  clear HR
  generalize grpL hi lo = l at HC HH HP H0 ⊢
  generalize (#[.int .u64 (Go.bits .and .u64 (hi / 281474976710656) 65535), .int .u64 (Go.bits .and .u64 (hi / 4294967296) 65535), .int .u64 (Go.bits .and .u64 (hi / 65536) 65535), .int .u64 (Go.bits .and .u64 (hi) 65535), .int .u64 (Go.bits .and .u64 (lo / 281474976710656) 65535), .int .u64 (Go.bits .and .u64 (lo / 4294967296) 65535), .int .u64 (Go.bits .and .u64 (lo / 65536) 65535), .int .u64 (Go.bits .and .u64 (lo) 65535)] : Array Value) = C at HC HY
  obtain ⟨pq, hpq⟩ : ∃ pq, runF l 8 0 (0, 0) = pq := ⟨_, rfl⟩
  rw [hpq] at HP H0
  simp only [hpq]
  clear hpq
  obtain ⟨p, q⟩ := pq
  dsimp only at HP H0 ⊢
  go_wp2_with fail
  go_loopg [9, 10] 8 (fun gg v9 v10 wr => ∃ (i : Nat) (o : ByteArray), v9 = .string o ∧ v10 = .int .i64 (i : Int) ∧ Aside0 (TxtI l p q gg i o r) ∧ Aside0 (wr.heap[ga]? = some (.cells C 68 (0, 0))) ∧ Aside0 (Below w.heap.size w wr))
  case atStart => exact ⟨0, _, rfl, rfl, H0, HY, HB⟩
  case round =>
    obtain ⟨i, o, rfl, rfl, HT, HY, HB⟩ := hrel
    clear H0
    by_cases hi8 : i < 8
    · obtain ⟨m, rfl⟩ := HT.out.pos hi8
      have hlt := r_lt hi8
      have hlt2 := r_ltd hi8
      have hc : wr.cell? ⟨ga, i, none⟩ = some (.int .u64 (l.getD i 0)) := (blk_cell HY.out i).trans (HC.out i hi8)
      have HV := Aside0.mk (HH.out i hi8)
      obtain ⟨x, hx⟩ : ∃ x, l.getD i 0 = x := ⟨_, rfl⟩
      rw [hx] at hc HV
      have HS := Aside0.mk (r_suc (Nat.le_of_lt hi8))
      have HE := Aside0.mk hx
      clear hx
      have HI := Aside0.mk hi8
      clear hi8
      by_cases hip : i = p
      · have he1 := i_eq hip
        have he2 := i_eqd hip
        by_cases hq : 1 < q - p
        · have hg1 := q_gt hq HP.out.2
          have HN := Aside0.mk (HT.out.gap HI.out hip hq HP.out.2)
          have hs2 := sz_2 HT.out
          have HS2 := Aside0.mk (q_next hq HP.out.2)
          clear hip hq
          go_wp2_with fail
          go_roundg m
          case measure => exact Nat.lt_succ_self m
          case rel => exact ⟨q, _, rfl, by rw [HS2.out], HN, HY, HB⟩
        · have hg1 := q_ngt hq HP.out
          have HNP : Aside0 (¬ (i = p ∧ 1 < q - p)) := ⟨fun h => hq h.2⟩
          clear hip hq
          by_cases ho : o.toList = []
          · have ho1 : (o.toList == ([] : List UInt8)) = true := beq_iff_eq.mpr ho
            have ho2 : (o.toList != ([] : List UInt8)) = false := bne_eq_false_iff_eq.mpr ho
            have HN := Aside0.mk (HT.out.hexA HE.out HI.out HNP.out (fun h => h.1 ho))
            clear ho
            go_wp2_with fail
            refine (strconv_FormatUint.calls _ _ _ _ (hex_u HV.out) (HW.out.below HB.out)).mono ?_
            rintro e w4 ⟨rfl, hb⟩
            replace HY := Aside0.mk (blk_below HY.out hb)
            replace HB := Aside0.mk (below_step HB.out hb)
            clear hb
            generalize (⟨(hexL 4 x.toNat).toArray⟩ : ByteArray) = hx at HN ⊢
            have hs4 := sz_h HN.out
            try rw [ByteArray.size_append, show (⟨#[58]⟩ : ByteArray).size = 1 from rfl] at hs4
            go_wp2_with fail
            go_roundg m
            case measure => exact Nat.lt_succ_self m
            case rel => exact ⟨i + 1, _, rfl, by rw [HS.out], HN, HY, HB⟩
          · have ho1 : (o.toList == ([] : List UInt8)) = false := beq_eq_false_iff_ne.mpr ho
            have ho2 : (o.toList != ([] : List UInt8)) = true := bne_iff_ne.mpr ho
            have HO := Aside0.mk ho
            clear ho
            go_wp2_with fail
            refine (strings_HasSuffix.calls _ _ _ _ (suf_u (Nat.le_trans (Nat.le_add_right _ _) HT.out.sz))).mono ?_
            rintro e w3 ⟨rfl, hb⟩
            replace HY := Aside0.mk (blk_below HY.out hb)
            replace HB := Aside0.mk (below_step HB.out hb)
            clear hb hc
            have hc : w3.cell? ⟨ga, i, none⟩ = some (.int .u64 x) := (blk_cell HY.out i).trans ((HC.out i HI.out).trans (by rw [HE.out]))
            cases hs : Lib.hasSuffix o.data.toList [58] with
            | true =>
              have HN := Aside0.mk (HT.out.hexA HE.out HI.out HNP.out (fun h => Bool.noConfusion (hs.symm.trans h.2)))
              clear hs
              go_wp2_with fail
              refine (strconv_FormatUint.calls _ _ _ _ (hex_u HV.out) (HW.out.below HB.out)).mono ?_
              rintro e w4 ⟨rfl, hb⟩
              replace HY := Aside0.mk (blk_below HY.out hb)
              replace HB := Aside0.mk (below_step HB.out hb)
              clear hb
              generalize (⟨(hexL 4 x.toNat).toArray⟩ : ByteArray) = hx at HN ⊢
              have hs4 := sz_h HN.out
              try rw [ByteArray.size_append, show (⟨#[58]⟩ : ByteArray).size = 1 from rfl] at hs4
              go_wp2_with fail
              go_roundg m
              case measure => exact Nat.lt_succ_self m
              case rel => exact ⟨i + 1, _, rfl, by rw [HS.out], HN, HY, HB⟩
            | false =>
              have HN := Aside0.mk (HT.out.hexB HE.out HI.out HNP.out ⟨HO.out, hs⟩)
              have hs1 := sz_1 HT.out
              clear hs
              go_wp2_with fail
              refine (strconv_FormatUint.calls _ _ _ _ (hex_u HV.out) (HW.out.below HB.out)).mono ?_
              rintro e w4 ⟨rfl, hb⟩
              replace HY := Aside0.mk (blk_below HY.out hb)
              replace HB := Aside0.mk (below_step HB.out hb)
              clear hb
              generalize (⟨(hexL 4 x.toNat).toArray⟩ : ByteArray) = hx at HN ⊢
              have hs4 := sz_h HN.out
              try rw [ByteArray.size_append, show (⟨#[58]⟩ : ByteArray).size = 1 from rfl] at hs4
              go_wp2_with fail
              go_roundg m
              case measure => exact Nat.lt_succ_self m
              case rel => exact ⟨i + 1, _, rfl, by rw [HS.out], HN, HY, HB⟩
      · have he1 := i_ne hip
        have he2 := i_ned hip
        have HNP : Aside0 (¬ (i = p ∧ 1 < q - p)) := ⟨fun h => hip h.1⟩
        clear hip
        by_cases ho : o.toList = []
        · have ho1 : (o.toList == ([] : List UInt8)) = true := beq_iff_eq.mpr ho
          have ho2 : (o.toList != ([] : List UInt8)) = false := bne_eq_false_iff_eq.mpr ho
          have HN := Aside0.mk (HT.out.hexA HE.out HI.out HNP.out (fun h => h.1 ho))
          clear ho
          go_wp2_with fail
          refine (strconv_FormatUint.calls _ _ _ _ (hex_u HV.out) (HW.out.below HB.out)).mono ?_
          rintro e w4 ⟨rfl, hb⟩
          replace HY := Aside0.mk (blk_below HY.out hb)
          replace HB := Aside0.mk (below_step HB.out hb)
          clear hb
          generalize (⟨(hexL 4 x.toNat).toArray⟩ : ByteArray) = hx at HN ⊢
          have hs4 := sz_h HN.out
          try rw [ByteArray.size_append, show (⟨#[58]⟩ : ByteArray).size = 1 from rfl] at hs4
          go_wp2_with fail
          go_roundg m
          case measure => exact Nat.lt_succ_self m
          case rel => exact ⟨i + 1, _, rfl, by rw [HS.out], HN, HY, HB⟩
        · have ho1 : (o.toList == ([] : List UInt8)) = false := beq_eq_false_iff_ne.mpr ho
          have ho2 : (o.toList != ([] : List UInt8)) = true := bne_iff_ne.mpr ho
          have HO := Aside0.mk ho
          clear ho
          go_wp2_with fail
          refine (strings_HasSuffix.calls _ _ _ _ (suf_u (Nat.le_trans (Nat.le_add_right _ _) HT.out.sz))).mono ?_
          rintro e w3 ⟨rfl, hb⟩
          replace HY := Aside0.mk (blk_below HY.out hb)
          replace HB := Aside0.mk (below_step HB.out hb)
          clear hb hc
          have hc : w3.cell? ⟨ga, i, none⟩ = some (.int .u64 x) := (blk_cell HY.out i).trans ((HC.out i HI.out).trans (by rw [HE.out]))
          cases hs : Lib.hasSuffix o.data.toList [58] with
          | true =>
            have HN := Aside0.mk (HT.out.hexA HE.out HI.out HNP.out (fun h => Bool.noConfusion (hs.symm.trans h.2)))
            clear hs
            go_wp2_with fail
            refine (strconv_FormatUint.calls _ _ _ _ (hex_u HV.out) (HW.out.below HB.out)).mono ?_
            rintro e w4 ⟨rfl, hb⟩
            replace HY := Aside0.mk (blk_below HY.out hb)
            replace HB := Aside0.mk (below_step HB.out hb)
            clear hb
            generalize (⟨(hexL 4 x.toNat).toArray⟩ : ByteArray) = hx at HN ⊢
            have hs4 := sz_h HN.out
            try rw [ByteArray.size_append, show (⟨#[58]⟩ : ByteArray).size = 1 from rfl] at hs4
            go_wp2_with fail
            go_roundg m
            case measure => exact Nat.lt_succ_self m
            case rel => exact ⟨i + 1, _, rfl, by rw [HS.out], HN, HY, HB⟩
          | false =>
            have HN := Aside0.mk (HT.out.hexB HE.out HI.out HNP.out ⟨HO.out, hs⟩)
            have hs1 := sz_1 HT.out
            clear hs
            go_wp2_with fail
            refine (strconv_FormatUint.calls _ _ _ _ (hex_u HV.out) (HW.out.below HB.out)).mono ?_
            rintro e w4 ⟨rfl, hb⟩
            replace HY := Aside0.mk (blk_below HY.out hb)
            replace HB := Aside0.mk (below_step HB.out hb)
            clear hb
            generalize (⟨(hexL 4 x.toNat).toArray⟩ : ByteArray) = hx at HN ⊢
            have hs4 := sz_h HN.out
            try rw [ByteArray.size_append, show (⟨#[58]⟩ : ByteArray).size = 1 from rfl] at hs4
            go_wp2_with fail
            go_roundg m
            case measure => exact Nat.lt_succ_self m
            case rel => exact ⟨i + 1, _, rfl, by rw [HS.out], HN, HY, HB⟩
    · have hlt := r_ge hi8
      have hlt2 := r_ged hi8
      have e := HT.out.fin hi8
      subst e
      clear hi8
      go_wp2_with fail
      exact bodyPost_ret (v := .string o) (by simp [results, Tryd.results33, go_sem]) rfl ⟨rfl, HB.out⟩
def address_Format.f (a0 : Bool) (a1 a2 : Int) : Option ByteArray := if a0 = true then some (fmt6 a1 a2) else strings_Join.f [decB (Go.bits .and .u64 (a2 / 16777216) 255), decB (Go.bits .and .u64 (a2 / 65536) 255), decB (Go.bits .and .u64 (a2 / 256) 255), decB (Go.bits .and .u64 (a2) 255)] (⟨#[46]⟩ : ByteArray)
theorem address_Format.calls (a0 : Bool) (a1 a2 : Int) (r : ByteArray) (w : World) (h : address_Format.f a0 a1 a2 = some r) (hW : WOK w) :
    Calls Tryd.prog 33 #[.agg #[.bool a0, .int .u64 a1, .int .u64 a2]] w fun e w' => e = .returned (.string r) ∧ Below w.heap.size w w' := by
  unfold address_Format.f at h
  cases a0 with
  | true =>
    rw [if_pos rfl] at h
    injection h with h
    subst h
    exact format6 a1 a2 w hW
  | false =>
    rw [if_neg (by decide)] at h
    exact format4 a1 a2 r w h hW
end Go.Proofs.YtlgfinnldhjgeaaDoor.Q
end

section
set_option linter.unusedVariables false
set_option linter.unusedSimpArgs false
namespace Go.Proofs.YtlgfinnldhjgeaaDoor.Q
open Go.RowKit Go.Proofs.YtlgfinnldhjgeaaDoorW.PrintWords Go.Proofs.YtlgfinnldhjgeaaDoorW.PrintLast Go.Proofs.YtlgfinnldhjgeaaDoorW.PrintMore
theorem lives06.e1 : address_Parse.f 40 (⟨#[58, 58, 49, 58, 48]⟩ : ByteArray) = some (true, 0, 65536, 0) := by kernel_rfl
theorem lives06.e2 : address_ParsePrefix.f 40 (⟨#[49, 48, 46, 48, 46, 48, 46, 48, 47, 56]⟩ : ByteArray) = some (false, 0, 167772160, 8, 0) := by kernel_rfl
theorem lives06.e3 : address_Parse.f 40 (⟨#[49, 48, 46, 49, 46, 50, 46, 51]⟩ : ByteArray) = some (false, 0, 167838211, 0) := by kernel_rfl
theorem lives06.e4 : address_Next.f false 0 255 = some (false, 0, 256, true) := by kernel_rfl
theorem lives06.e5 : address_Contains.f false 0 167772160 8 false 0 167838211 = some true := by kernel_rfl
theorem lives06.e6 : address_Format.f false 0 167838211 = some ⟨#[49, 48, 46, 49, 46, 50, 46, 51]⟩ := by kernel_rfl
theorem lives06.e7 : address_Format.f true 0 65536 = some ⟨#[58, 58, 49, 58, 48]⟩ := by kernel_rfl
theorem lives06.e8 : address_Compare.f false 0 167838211 true 0 65536 = some (-1) := by kernel_rfl
theorem lives06.e9 : address_Valid.f false 0 167838211 = some true := by kernel_rfl
def intrusionlaw06_lives.f : Option Bool := some true
set_option maxHeartbeats 4000000 in
set_option maxRecDepth 100000 in
theorem intrusionlaw06_lives.calls (r : Bool) (w : World) (h : intrusionlaw06_lives.f = some r) (hW : WOK w) :
    Calls Tryd.prog 10 #[] w fun e w' => e = .returned (.bool r) ∧ Below w.heap.size w w' := by
  injection h with h
  subst h
  have HW := Aside0.mk hW
  have HB : Aside0 (Below w.heap.size w w) := ⟨Below.refl _ _⟩
  clear hW
  go_enter Tryd.func10, Tryd.ntmps10
  go_wp2_with fail
  refine (address_Parse.calls 40 _ _ _ _ _ _ lives06.e1 (HW.out.below HB.out)).mono ?_
  rintro e w1 ⟨rfl, hb⟩
  replace HB := Aside0.mk (below_step HB.out hb)
  clear hb
  have HXa : Aside0 ((w1.alloc (.cells #[.bool true, .int .u64 0, .int .u64 65536] 25)).heap[w1.heap.size]? = some (.cells #[.bool true, .int .u64 0, .int .u64 65536] 25 (0, 0))) := ⟨heap_alloc_new _ _⟩
  replace HB := Aside0.mk (below_alloc HB.out (.cells #[.bool true, .int .u64 0, .int .u64 65536] 25))
  go_wp2_with fail
  obtain ⟨ga, hg⟩ : ∃ g, w1.heap.size = g := ⟨_, rfl⟩
  rw [hg] at HXa
  simp only [hg]
  clear hg
  generalize w1.alloc (.cells #[.bool true, .int .u64 0, .int .u64 65536] 25) = Wa at HXa HB ⊢
  refine (address_ParsePrefix.calls 40 _ _ _ _ _ _ _ lives06.e2 (HW.out.below HB.out)).mono ?_
  rintro e w2 ⟨rfl, hb⟩
  replace HB := Aside0.mk (below_step HB.out hb)
  replace HXa := Aside0.mk (blk_below HXa.out hb)
  clear hb
  have HXp : Aside0 ((w2.alloc (.cells #[.bool false, .int .u64 0, .int .u64 167772160, .int .i64 8] 30)).heap[w2.heap.size]? = some (.cells #[.bool false, .int .u64 0, .int .u64 167772160, .int .i64 8] 30 (0, 0))) := ⟨heap_alloc_new _ _⟩
  replace HXa := Aside0.mk (blk_alloc HXa.out (.cells #[.bool false, .int .u64 0, .int .u64 167772160, .int .i64 8] 30))
  replace HB := Aside0.mk (below_alloc HB.out (.cells #[.bool false, .int .u64 0, .int .u64 167772160, .int .i64 8] 30))
  go_wp2_with fail
  obtain ⟨gp, hg⟩ : ∃ g, w2.heap.size = g := ⟨_, rfl⟩
  rw [hg] at HXp
  simp only [hg]
  clear hg
  generalize w2.alloc (.cells #[.bool false, .int .u64 0, .int .u64 167772160, .int .i64 8] 30) = Wp at HXa HXp HB ⊢
  refine (address_Parse.calls 40 _ _ _ _ _ _ lives06.e3 (HW.out.below HB.out)).mono ?_
  rintro e w3 ⟨rfl, hb⟩
  replace HB := Aside0.mk (below_step HB.out hb)
  replace HXa := Aside0.mk (blk_below HXa.out hb)
  replace HXp := Aside0.mk (blk_below HXp.out hb)
  clear hb
  have HXb : Aside0 ((w3.alloc (.cells #[.bool false, .int .u64 0, .int .u64 167838211] 25)).heap[w3.heap.size]? = some (.cells #[.bool false, .int .u64 0, .int .u64 167838211] 25 (0, 0))) := ⟨heap_alloc_new _ _⟩
  replace HXa := Aside0.mk (blk_alloc HXa.out (.cells #[.bool false, .int .u64 0, .int .u64 167838211] 25))
  replace HXp := Aside0.mk (blk_alloc HXp.out (.cells #[.bool false, .int .u64 0, .int .u64 167838211] 25))
  replace HB := Aside0.mk (below_alloc HB.out (.cells #[.bool false, .int .u64 0, .int .u64 167838211] 25))
  go_wp2_with fail
  obtain ⟨gb, hg⟩ : ∃ g, w3.heap.size = g := ⟨_, rfl⟩
  rw [hg] at HXb
  simp only [hg]
  clear hg
  generalize w3.alloc (.cells #[.bool false, .int .u64 0, .int .u64 167838211] 25) = Wb at HXa HXp HXb HB ⊢
  refine (address_Next.calls _ _ _ _ _ _ _ _ lives06.e4).mono ?_
  rintro e w4 ⟨rfl, hb⟩
  replace HB := Aside0.mk (below_step HB.out hb)
  replace HXa := Aside0.mk (blk_below HXa.out hb)
  replace HXp := Aside0.mk (blk_below HXp.out hb)
  replace HXb := Aside0.mk (blk_below HXb.out hb)
  clear hb
  have HXn : Aside0 ((w4.alloc (.cells #[.bool false, .int .u64 0, .int .u64 256] 25)).heap[w4.heap.size]? = some (.cells #[.bool false, .int .u64 0, .int .u64 256] 25 (0, 0))) := ⟨heap_alloc_new _ _⟩
  replace HXa := Aside0.mk (blk_alloc HXa.out (.cells #[.bool false, .int .u64 0, .int .u64 256] 25))
  replace HXp := Aside0.mk (blk_alloc HXp.out (.cells #[.bool false, .int .u64 0, .int .u64 256] 25))
  replace HXb := Aside0.mk (blk_alloc HXb.out (.cells #[.bool false, .int .u64 0, .int .u64 256] 25))
  replace HB := Aside0.mk (below_alloc HB.out (.cells #[.bool false, .int .u64 0, .int .u64 256] 25))
  go_upto_region 5 with (fail)
  obtain ⟨gn, hg⟩ : ∃ g, w4.heap.size = g := ⟨_, rfl⟩
  rw [hg] at HXn
  simp only [hg]
  clear hg
  generalize w4.alloc (.cells #[.bool false, .int .u64 0, .int .u64 256] 25) = Wn at HXa HXp HXb HXn HB ⊢
  obtain ⟨ca0, ca1, ca2⟩ := zc3 HXa
  obtain ⟨cp0, cp1, cp2, cp3⟩ := zc4 HXp
  obtain ⟨cb0, cb1, cb2⟩ := zc3 HXb
  obtain ⟨cn0, cn1, cn2⟩ := zc3 HXn
  go_wp2_with fail
  clear ca0 ca1 ca2
  clear cp0 cp1 cp2 cp3
  clear cb0 cb1 cb2
  clear cn0 cn1 cn2
  refine (address_Contains.calls _ _ _ _ _ _ _ _ _ lives06.e5).mono ?_
  rintro e w5 ⟨rfl, hb⟩
  replace HB := Aside0.mk (below_step HB.out hb)
  replace HXa := Aside0.mk (blk_below HXa.out hb)
  replace HXp := Aside0.mk (blk_below HXp.out hb)
  replace HXb := Aside0.mk (blk_below HXb.out hb)
  replace HXn := Aside0.mk (blk_below HXn.out hb)
  clear hb
  obtain ⟨ca0, ca1, ca2⟩ := zc3 HXa
  obtain ⟨cp0, cp1, cp2, cp3⟩ := zc4 HXp
  obtain ⟨cb0, cb1, cb2⟩ := zc3 HXb
  obtain ⟨cn0, cn1, cn2⟩ := zc3 HXn
  go_wp2_with fail
  clear ca0 ca1 ca2
  clear cp0 cp1 cp2 cp3
  clear cb0 cb1 cb2
  clear cn0 cn1 cn2
  refine (address_Valid.calls _ _ _ _ _ lives06.e9).mono ?_
  rintro e w6 ⟨rfl, hb⟩
  replace HB := Aside0.mk (below_step HB.out hb)
  replace HXa := Aside0.mk (blk_below HXa.out hb)
  replace HXp := Aside0.mk (blk_below HXp.out hb)
  replace HXb := Aside0.mk (blk_below HXb.out hb)
  replace HXn := Aside0.mk (blk_below HXn.out hb)
  clear hb
  obtain ⟨ca0, ca1, ca2⟩ := zc3 HXa
  obtain ⟨cp0, cp1, cp2, cp3⟩ := zc4 HXp
  obtain ⟨cb0, cb1, cb2⟩ := zc3 HXb
  obtain ⟨cn0, cn1, cn2⟩ := zc3 HXn
  go_wp2_with fail
  clear ca0 ca1 ca2
  clear cp0 cp1 cp2 cp3
  clear cb0 cb1 cb2
  clear cn0 cn1 cn2
  refine (address_Format.calls _ _ _ _ _ lives06.e6 (HW.out.below HB.out)).mono ?_
  rintro e w7 ⟨rfl, hb⟩
  replace HB := Aside0.mk (below_step HB.out hb)
  replace HXa := Aside0.mk (blk_below HXa.out hb)
  replace HXp := Aside0.mk (blk_below HXp.out hb)
  replace HXb := Aside0.mk (blk_below HXb.out hb)
  replace HXn := Aside0.mk (blk_below HXn.out hb)
  clear hb
  obtain ⟨ca0, ca1, ca2⟩ := zc3 HXa
  obtain ⟨cp0, cp1, cp2, cp3⟩ := zc4 HXp
  obtain ⟨cb0, cb1, cb2⟩ := zc3 HXb
  obtain ⟨cn0, cn1, cn2⟩ := zc3 HXn
  go_wp2_with fail
  clear ca0 ca1 ca2
  clear cp0 cp1 cp2 cp3
  clear cb0 cb1 cb2
  clear cn0 cn1 cn2
  refine (address_Format.calls _ _ _ _ _ lives06.e7 (HW.out.below HB.out)).mono ?_
  rintro e w8 ⟨rfl, hb⟩
  replace HB := Aside0.mk (below_step HB.out hb)
  replace HXa := Aside0.mk (blk_below HXa.out hb)
  replace HXp := Aside0.mk (blk_below HXp.out hb)
  replace HXb := Aside0.mk (blk_below HXb.out hb)
  replace HXn := Aside0.mk (blk_below HXn.out hb)
  clear hb
  obtain ⟨ca0, ca1, ca2⟩ := zc3 HXa
  obtain ⟨cp0, cp1, cp2, cp3⟩ := zc4 HXp
  obtain ⟨cb0, cb1, cb2⟩ := zc3 HXb
  obtain ⟨cn0, cn1, cn2⟩ := zc3 HXn
  go_wp2_with fail
  clear ca0 ca1 ca2
  clear cp0 cp1 cp2 cp3
  clear cb0 cb1 cb2
  clear cn0 cn1 cn2
  refine (address_Compare.calls _ _ _ _ _ _ _ _ lives06.e8).mono ?_
  rintro e w9 ⟨rfl, hb⟩
  replace HB := Aside0.mk (below_step HB.out hb)
  replace HXa := Aside0.mk (blk_below HXa.out hb)
  replace HXp := Aside0.mk (blk_below HXp.out hb)
  replace HXb := Aside0.mk (blk_below HXb.out hb)
  replace HXn := Aside0.mk (blk_below HXn.out hb)
  clear hb
  obtain ⟨ca0, ca1, ca2⟩ := zc3 HXa
  obtain ⟨cp0, cp1, cp2, cp3⟩ := zc4 HXp
  obtain ⟨cb0, cb1, cb2⟩ := zc3 HXb
  obtain ⟨cn0, cn1, cn2⟩ := zc3 HXn
  go_wp2_with fail
  exact bodyPost_ret (v := .bool true) (by simp [results, Tryd.results10, go_sem]) rfl ⟨rfl, HB.out⟩
end Go.Proofs.YtlgfinnldhjgeaaDoor.Q
end

section
namespace Go.Proofs.YtlgfinnldhjgeaaDoor.Q
open Go.RowKit Go.Proofs.YtlgfinnldhjgeaaDoorW.PrintWords Go.Proofs.YtlgfinnldhjgeaaDoorW.PrintLast Go.Proofs.YtlgfinnldhjgeaaDoorW.PrintMore
attribute [local go_sem] max2_int min2_int max_two min_two max_three min_three max_four min_four
set_option linter.unusedVariables false
set_option linter.unusedSimpArgs false
attribute [local go_sem high] eqA25 eqA30
def intrusionlaw06_AddressParses.f (k : Nat) (a0 : ByteArray) : Option (Bool) := if (a0.size : Int) > 80 then ((intrusionlaw06_lives.f).bind fun t269 => (some t269)) else ((address_Parse.f k a0).bind fun bt270 => ((intrusionref06_Parse.f k a0).bind fun bt275 => ((address_ParsePrefix.f k a0).bind fun bt280 => ((intrusionref06_ParsePrefix.f k a0).bind fun bt286 => (if (bt270.1 == bt275.1 && (bt270.2.1 == bt275.2.1 && (bt270.2.2.1 == bt275.2.2.1))) = true then (if bt270.2.2.2 = bt275.2.2.2 then (if ((bt280.1 == bt286.1 && (bt280.2.1 == bt286.2.1 && (bt280.2.2.1 == bt286.2.2.1))) && (bt280.2.2.2.1 == bt286.2.2.2.1)) = true then (if bt280.2.2.2.2 = bt286.2.2.2.2 then ((intrusionlaw06_lives.f).bind fun t292 => (some t292)) else (some false)) else (some false)) else (some false)) else (some false))))))
theorem intrusionlaw06_AddressParses.mono : ∀ a0 k, LeO (intrusionlaw06_AddressParses.f k a0) (intrusionlaw06_AddressParses.f (k + 1) a0) := by
  intro a0 k
  unfold intrusionlaw06_AddressParses.f
  repeat' first
      | (with_reducible exact address_Parse.mono _ _)
      | (with_reducible exact address_ParsePrefix.mono _ _)
      | (with_reducible exact intrusionref06_Parse.mono _ _)
      | (with_reducible exact intrusionref06_ParsePrefix.mono _ _)
      | (with_reducible exact LeO.refl _)
      | (with_reducible exact LeO.none _)
      | (with_reducible refine LeO.ite ?_ ?_)
      | (with_reducible refine LeO.bind ?_ (fun _ => ?_))
      | exact address_Parse.mono _ _
      | exact address_ParsePrefix.mono _ _
      | exact intrusionref06_Parse.mono _ _
      | exact intrusionref06_ParsePrefix.mono _ _
      | exact LeO.none _
      | refine LeO.ite ?_ ?_
      | refine LeO.bind ?_ (fun _ => ?_)
set_option maxHeartbeats 8000000 in
set_option maxRecDepth 100000 in
theorem intrusionlaw06_AddressParses.calls (k : Nat) (a0 : ByteArray) (r : Bool) (w : World) (h : intrusionlaw06_AddressParses.f k a0 = some r) (hW_ : WOK w) :
 Calls Tryd.prog 3 #[.string a0] w fun e w' => e = .returned (.bool r) ∧ Below w.heap.size w w' := by
 have hu25 := Tryd.underlying25
 have hu30 := Tryd.underlying30
 have HB := Aside0.mk (Below.refl w.heap.size w)
 unfold intrusionlaw06_AddressParses.f at h; have H := h
 clear h
 by_cases c2 : (a0.size : Int) > 80
 · rw [if_pos c2] at H
   have c2b0 : decide (80 < (a0.size : Int)) = true := decide_eq_true c2
   have c2b1 : decide (80 < a0.size) = true := decide_eq_true (by omega)
   clear c2
   replace H := Option.bind_eq_some_iff.mp H
   obtain ⟨t269, A30, H⟩ := H
   try dsimp only at H
   have A3 := Aside0.mk A30
   clear A30
   obtain rfl := Option.some.inj H
   go_enter Tryd.func3, Tryd.ntmps3
   go_wp2_with (first | ((with_reducible refine gate_callee (f := 10) rfl ?_); refine goesL_ (some 14) rfl rfl Tryd.func10 (by kernel_rfl) rfl #[] rfl (by (try simp only [List.map_toArray, List.map_cons, List.map_nil]); first | done | rfl | (simp only [List.length_drop, List.length_take]; rfl)) ?_; (with_reducible refine (intrusionlaw06_lives.calls  t269 _ A3.out (WOK.below hW_ (zB HB))).mono ?_); rintro e w4 ⟨rfl, hb⟩; refine ⟨_, rfl, ?_⟩; replace HB := Aside0.mk (below_step (zB HB) hb); (try clear hb)))
   go_ret
   exact ⟨by first | rfl | (simp [errW_none, errW_some] <;> rfl) | (simp [*, errW_none, errW_some] <;> rfl), by repeat (first | (with_reducible first | exact HB.out | apply below_alloc | apply pw_below_drewN | apply below_drew1) | exact HB.out)⟩
 · rw [if_neg c2] at H
   have c2b0 : decide (80 < (a0.size : Int)) = false := decide_eq_false c2
   have c2b1 : decide (80 < a0.size) = false := decide_eq_false (by omega)
   clear c2
   replace H := Option.bind_eq_some_iff.mp H
   obtain ⟨⟨t270, t271, t272, t273⟩, A50, H⟩ := H
   try dsimp only at H
   have A5 := Aside0.mk A50
   clear A50
   replace H := Option.bind_eq_some_iff.mp H
   obtain ⟨⟨t275, t276, t277, t278⟩, A60, H⟩ := H
   try dsimp only at H
   have A6 := Aside0.mk A60
   clear A60
   replace H := Option.bind_eq_some_iff.mp H
   obtain ⟨⟨t280, t281, t282, t283, t284⟩, A70, H⟩ := H
   try dsimp only at H
   have A7 := Aside0.mk A70
   clear A70
   replace H := Option.bind_eq_some_iff.mp H
   obtain ⟨⟨t286, t287, t288, t289, t290⟩, A80, H⟩ := H
   try dsimp only at H
   have A8 := Aside0.mk A80
   clear A80
   by_cases c9 : (t270 == t275 && (t271 == t276 && (t272 == t277))) = true
   · rw [if_pos c9] at H
     have c9b0 : (t270 == t275 && (t271 == t276 && (t272 == t277))) = true := c9
     (try (have c9b1 : decide (t270 = t275 && (t271 == t276 && (t272 == t277))) = true := by first | (simpa using c9) | exact decide_eq_true (Decidable.not_not.1 (fun hn => c9 (bne_iff_ne.2 hn))) | exact beq_iff_eq.2 (Decidable.not_not.1 (fun hn => c9 (bne_iff_ne.2 hn))) | exact decide_eq_false (bne_iff_ne.1 c9) | exact beq_eq_false_iff_ne.2 (bne_iff_ne.1 c9) | exact bne_iff_ne.1 c9))
     (try (have c9b2 : (t270 == t275 && (t271 == t276 && (t272 == t277))) = true := by first | (simpa using c9) | exact decide_eq_true (Decidable.not_not.1 (fun hn => c9 (bne_iff_ne.2 hn))) | exact beq_iff_eq.2 (Decidable.not_not.1 (fun hn => c9 (bne_iff_ne.2 hn))) | exact decide_eq_false (bne_iff_ne.1 c9) | exact beq_eq_false_iff_ne.2 (bne_iff_ne.1 c9) | exact bne_iff_ne.1 c9))
     clear c9
     by_cases c10 : t273 = t278
     · rw [if_pos c10] at H
       have c10b0 : (t273 == t278) = true := beq_iff_eq.mpr c10
       have c10b1 : (t273 != t278) = false := bne_eq_false_iff_eq.mpr c10
       clear c10
       by_cases c11 : ((t280 == t286 && (t281 == t287 && (t282 == t288))) && (t283 == t289)) = true
       · rw [if_pos c11] at H
         have c11b0 : ((t280 == t286 && (t281 == t287 && (t282 == t288))) && (t283 == t289)) = true := c11
         clear c11
         by_cases c12 : t284 = t290
         · rw [if_pos c12] at H
           have c12b0 : (t284 == t290) = true := beq_iff_eq.mpr c12
           have c12b1 : (t284 != t290) = false := bne_eq_false_iff_eq.mpr c12
           clear c12
           replace H := Option.bind_eq_some_iff.mp H
           obtain ⟨t292, A130, H⟩ := H
           try dsimp only at H
           have A13 := Aside0.mk A130
           clear A130
           obtain rfl := Option.some.inj H
           go_enter Tryd.func3, Tryd.ntmps3
           go_wp2_with (first | ((with_reducible refine gate_callee (f := 11) rfl ?_); refine goesL_ (some 17) rfl rfl Tryd.func11 (by kernel_rfl) rfl #[.string a0] rfl (by (try simp only [List.map_toArray, List.map_cons, List.map_nil]); first | done | rfl | (simp only [List.length_drop, List.length_take]; rfl)) ?_; (with_reducible refine (address_Parse.calls k a0 t270 t271 t272 t273 _ A5.out (WOK.below hW_ (zB HB))).mono ?_); rintro e w14 ⟨rfl, hb⟩; refine ⟨_, rfl, ?_⟩; replace HB := Aside0.mk (below_step (zB HB) hb); (try clear hb)) | ((with_reducible refine gate_dst (N := 3) rfl ?_); refine zx 3 #[.bool false, .int .u64 0, .int .u64 0] 25 ?_; intro gb274 hg w15 hbox hb; have BK274 := Aside0.mk (hbox); have GW274 := Aside0.mk ((by rw [hg]; exact (below_size (zB HB)) : w.heap.size ≤ gb274)); have GE274 := Aside0.mk ((by rw [hg]; exact (below_size (zB HB)) : w.heap.size ≤ gb274)); replace HB := Aside0.mk (below_step (zB HB) hb); clear hb hbox hg; obtain ⟨hcz16_0, hcz16_1, hcz16_2⟩ := zc3 BK274; obtain ⟨hfz16_0, hfz16_1, hfz16_2⟩ := zf3 BK274) | ((with_reducible refine gate_callee (f := 12) rfl ?_); refine goesL_ (some 22) rfl rfl Tryd.func12 (by kernel_rfl) rfl #[.string a0] rfl (by (try simp only [List.map_toArray, List.map_cons, List.map_nil]); first | done | rfl | (simp only [List.length_drop, List.length_take]; rfl)) ?_; (with_reducible refine (intrusionref06_Parse.calls k a0 t275 t276 t277 t278 _ A6.out).mono ?_); rintro e w17 ⟨rfl, hb⟩; refine ⟨_, rfl, ?_⟩; replace BK274 := Aside0.mk (blk_below (g := gb274) (o := .cells #[.bool t270, .int .u64 t271, .int .u64 t272] 25 (0, 0)) (by refine zL ?_; refine blk_put (cs := #[.bool t270, .int .u64 t271, .int .u64 0]) ?_ 2 _ rfl; refine zL ?_; refine blk_put (cs := #[.bool t270, .int .u64 0, .int .u64 0]) ?_ 1 _ rfl; refine zL ?_; refine blk_put (cs := #[.bool false, .int .u64 0, .int .u64 0]) ?_ 0 _ rfl; refine zL ?_; exact BK274.out) hb); replace HB := Aside0.mk (below_step (zB HB) hb); (try clear hb)) | ((with_reducible refine gate_dst (N := 5) rfl ?_); refine zx 5 #[.bool false, .int .u64 0, .int .u64 0] 25 ?_; intro gb279 hg w18 hbox hb; have BK279 := Aside0.mk (hbox); have GW279 := Aside0.mk ((by rw [hg]; exact (below_size (zB HB)) : w.heap.size ≤ gb279)); have GE279 := Aside0.mk ((by rw [hg]; exact (below_size (zB HB)) : w.heap.size ≤ gb279)); replace HB := Aside0.mk (below_step (zB HB) hb); have NB274_279 := Aside0.mk ((by rw [hg]; exact Nat.ne_of_lt (blk_lt (g := gb274) (o := .cells #[.bool t270, .int .u64 t271, .int .u64 t272] 25 (0, 0)) (zK BK274)) : gb274 ≠ gb279)); have NB279_274 := Aside0.mk ((by rw [hg]; exact Nat.ne_of_gt (blk_lt (g := gb274) (o := .cells #[.bool t270, .int .u64 t271, .int .u64 t272] 25 (0, 0)) (zK BK274)) : gb279 ≠ gb274)); replace BK274 := Aside0.mk (blk_below (g := gb274) (o := .cells #[.bool t270, .int .u64 t271, .int .u64 t272] 25 (0, 0)) (zK BK274) hb); clear hb hbox hg; have hnb19 := NB279_274.out; have hnc19 := NB274_279.out; obtain ⟨hcz20_0, hcz20_1, hcz20_2⟩ := zc3 BK279; obtain ⟨hfz20_0, hfz20_1, hfz20_2⟩ := zf3 BK279) | ((with_reducible refine gate_callee (f := 13) rfl ?_); refine goesL_ (some 27) rfl rfl Tryd.func13 (by kernel_rfl) rfl #[.string a0] rfl (by (try simp only [List.map_toArray, List.map_cons, List.map_nil]); first | done | rfl | (simp only [List.length_drop, List.length_take]; rfl)) ?_; (with_reducible refine (address_ParsePrefix.calls k a0 t280 t281 t282 t283 t284 _ A7.out (WOK.below hW_ (zB HB))).mono ?_); rintro e w21 ⟨rfl, hb⟩; refine ⟨_, rfl, ?_⟩; replace BK274 := Aside0.mk (blk_below (g := gb274) (o := .cells #[.bool t270, .int .u64 t271, .int .u64 t272] 25 (0, 0)) (by refine zL ?_; refine blk_far ?_ NB274_279.out _; refine zL ?_; refine blk_far ?_ NB274_279.out _; refine zL ?_; refine blk_far ?_ NB274_279.out _; refine zL ?_; exact BK274.out) hb); replace BK279 := Aside0.mk (blk_below (g := gb279) (o := .cells #[.bool t275, .int .u64 t276, .int .u64 t277] 25 (0, 0)) (by refine zL ?_; refine blk_put (cs := #[.bool t275, .int .u64 t276, .int .u64 0]) ?_ 2 _ rfl; refine zL ?_; refine blk_put (cs := #[.bool t275, .int .u64 0, .int .u64 0]) ?_ 1 _ rfl; refine zL ?_; refine blk_put (cs := #[.bool false, .int .u64 0, .int .u64 0]) ?_ 0 _ rfl; refine zL ?_; exact BK279.out) hb); replace HB := Aside0.mk (below_step (zB HB) hb); (try clear hb)) | ((with_reducible refine gate_dst (N := 7) rfl ?_); refine zx 7 #[.bool false, .int .u64 0, .int .u64 0, .int .i64 0] 30 ?_; intro gb285 hg w22 hbox hb; have BK285 := Aside0.mk (hbox); have GW285 := Aside0.mk ((by rw [hg]; exact (below_size (zB HB)) : w.heap.size ≤ gb285)); have GE285 := Aside0.mk ((by rw [hg]; exact (below_size (zB HB)) : w.heap.size ≤ gb285)); replace HB := Aside0.mk (below_step (zB HB) hb); have NB274_285 := Aside0.mk ((by rw [hg]; exact Nat.ne_of_lt (blk_lt (g := gb274) (o := .cells #[.bool t270, .int .u64 t271, .int .u64 t272] 25 (0, 0)) (zK BK274)) : gb274 ≠ gb285)); have NB285_274 := Aside0.mk ((by rw [hg]; exact Nat.ne_of_gt (blk_lt (g := gb274) (o := .cells #[.bool t270, .int .u64 t271, .int .u64 t272] 25 (0, 0)) (zK BK274)) : gb285 ≠ gb274)); replace BK274 := Aside0.mk (blk_below (g := gb274) (o := .cells #[.bool t270, .int .u64 t271, .int .u64 t272] 25 (0, 0)) (zK BK274) hb); have NB279_285 := Aside0.mk ((by rw [hg]; exact Nat.ne_of_lt (blk_lt (g := gb279) (o := .cells #[.bool t275, .int .u64 t276, .int .u64 t277] 25 (0, 0)) (zK BK279)) : gb279 ≠ gb285)); have NB285_279 := Aside0.mk ((by rw [hg]; exact Nat.ne_of_gt (blk_lt (g := gb279) (o := .cells #[.bool t275, .int .u64 t276, .int .u64 t277] 25 (0, 0)) (zK BK279)) : gb285 ≠ gb279)); replace BK279 := Aside0.mk (blk_below (g := gb279) (o := .cells #[.bool t275, .int .u64 t276, .int .u64 t277] 25 (0, 0)) (zK BK279) hb); clear hb hbox hg; have hnb23 := NB285_274.out; have hnc23 := NB274_285.out; have hnb24 := NB285_279.out; have hnc24 := NB279_285.out; obtain ⟨hcz25_0, hcz25_1, hcz25_2, hcz25_3⟩ := zc4 BK285; obtain ⟨hfz25_0, hfz25_1, hfz25_2, hfz25_3⟩ := zf4 BK285) | ((with_reducible refine gate_callee (f := 14) rfl ?_); refine goesL_ (some 32) rfl rfl Tryd.func14 (by kernel_rfl) rfl #[.string a0] rfl (by (try simp only [List.map_toArray, List.map_cons, List.map_nil]); first | done | rfl | (simp only [List.length_drop, List.length_take]; rfl)) ?_; (with_reducible refine (intrusionref06_ParsePrefix.calls k a0 t286 t287 t288 t289 t290 _ A8.out).mono ?_); rintro e w26 ⟨rfl, hb⟩; refine ⟨_, rfl, ?_⟩; replace BK274 := Aside0.mk (blk_below (g := gb274) (o := .cells #[.bool t270, .int .u64 t271, .int .u64 t272] 25 (0, 0)) (by refine zL ?_; refine blk_far ?_ NB274_285.out _; refine zL ?_; refine blk_far ?_ NB274_285.out _; refine zL ?_; refine blk_far ?_ NB274_285.out _; refine zL ?_; refine blk_far ?_ NB274_285.out _; refine zL ?_; exact BK274.out) hb); replace BK279 := Aside0.mk (blk_below (g := gb279) (o := .cells #[.bool t275, .int .u64 t276, .int .u64 t277] 25 (0, 0)) (by refine zL ?_; refine blk_far ?_ NB279_285.out _; refine zL ?_; refine blk_far ?_ NB279_285.out _; refine zL ?_; refine blk_far ?_ NB279_285.out _; refine zL ?_; refine blk_far ?_ NB279_285.out _; refine zL ?_; exact BK279.out) hb); replace BK285 := Aside0.mk (blk_below (g := gb285) (o := .cells #[.bool t280, .int .u64 t281, .int .u64 t282, .int .i64 t283] 30 (0, 0)) (by refine zL ?_; refine blk_put (cs := #[.bool t280, .int .u64 t281, .int .u64 t282, .int .i64 0]) ?_ 3 _ rfl; refine zL ?_; refine blk_put (cs := #[.bool t280, .int .u64 t281, .int .u64 0, .int .i64 0]) ?_ 2 _ rfl; refine zL ?_; refine blk_put (cs := #[.bool t280, .int .u64 0, .int .u64 0, .int .i64 0]) ?_ 1 _ rfl; refine zL ?_; refine blk_put (cs := #[.bool false, .int .u64 0, .int .u64 0, .int .i64 0]) ?_ 0 _ rfl; refine zL ?_; exact BK285.out) hb); replace HB := Aside0.mk (below_step (zB HB) hb); (try clear hb)) | ((with_reducible refine gate_dst (N := 9) rfl ?_); refine zx 9 #[.bool false, .int .u64 0, .int .u64 0, .int .i64 0] 30 ?_; intro gb291 hg w27 hbox hb; have BK291 := Aside0.mk (hbox); have GW291 := Aside0.mk ((by rw [hg]; exact (below_size (zB HB)) : w.heap.size ≤ gb291)); have GE291 := Aside0.mk ((by rw [hg]; exact (below_size (zB HB)) : w.heap.size ≤ gb291)); replace HB := Aside0.mk (below_step (zB HB) hb); have NB274_291 := Aside0.mk ((by rw [hg]; exact Nat.ne_of_lt (blk_lt (g := gb274) (o := .cells #[.bool t270, .int .u64 t271, .int .u64 t272] 25 (0, 0)) (zK BK274)) : gb274 ≠ gb291)); have NB291_274 := Aside0.mk ((by rw [hg]; exact Nat.ne_of_gt (blk_lt (g := gb274) (o := .cells #[.bool t270, .int .u64 t271, .int .u64 t272] 25 (0, 0)) (zK BK274)) : gb291 ≠ gb274)); replace BK274 := Aside0.mk (blk_below (g := gb274) (o := .cells #[.bool t270, .int .u64 t271, .int .u64 t272] 25 (0, 0)) (zK BK274) hb); have NB279_291 := Aside0.mk ((by rw [hg]; exact Nat.ne_of_lt (blk_lt (g := gb279) (o := .cells #[.bool t275, .int .u64 t276, .int .u64 t277] 25 (0, 0)) (zK BK279)) : gb279 ≠ gb291)); have NB291_279 := Aside0.mk ((by rw [hg]; exact Nat.ne_of_gt (blk_lt (g := gb279) (o := .cells #[.bool t275, .int .u64 t276, .int .u64 t277] 25 (0, 0)) (zK BK279)) : gb291 ≠ gb279)); replace BK279 := Aside0.mk (blk_below (g := gb279) (o := .cells #[.bool t275, .int .u64 t276, .int .u64 t277] 25 (0, 0)) (zK BK279) hb); have NB285_291 := Aside0.mk ((by rw [hg]; exact Nat.ne_of_lt (blk_lt (g := gb285) (o := .cells #[.bool t280, .int .u64 t281, .int .u64 t282, .int .i64 t283] 30 (0, 0)) (zK BK285)) : gb285 ≠ gb291)); have NB291_285 := Aside0.mk ((by rw [hg]; exact Nat.ne_of_gt (blk_lt (g := gb285) (o := .cells #[.bool t280, .int .u64 t281, .int .u64 t282, .int .i64 t283] 30 (0, 0)) (zK BK285)) : gb291 ≠ gb285)); replace BK285 := Aside0.mk (blk_below (g := gb285) (o := .cells #[.bool t280, .int .u64 t281, .int .u64 t282, .int .i64 t283] 30 (0, 0)) (zK BK285) hb); clear hb hbox hg; have hnb28 := NB291_274.out; have hnc28 := NB274_291.out; have hnb29 := NB291_279.out; have hnc29 := NB279_291.out; have hnb30 := NB291_285.out; have hnc30 := NB285_291.out; obtain ⟨hcz31_0, hcz31_1, hcz31_2, hcz31_3⟩ := zc4 BK291; obtain ⟨hfz31_0, hfz31_1, hfz31_2, hfz31_3⟩ := zf4 BK291; obtain ⟨hcz32_0, hcz32_1, hcz32_2⟩ := zc3 BK274; obtain ⟨hfz32_0, hfz32_1, hfz32_2⟩ := zf3 BK274; obtain ⟨hcz33_0, hcz33_1, hcz33_2⟩ := zc3 BK279; obtain ⟨hfz33_0, hfz33_1, hfz33_2⟩ := zf3 BK279; obtain ⟨hcz34_0, hcz34_1, hcz34_2, hcz34_3⟩ := zc4 BK285; obtain ⟨hfz34_0, hfz34_1, hfz34_2, hfz34_3⟩ := zf4 BK285) | (go_at_call 10; (with_reducible refine (intrusionlaw06_lives.calls  t292 _ A13.out (WOK.below hW_ (zB HB))).mono ?_); rintro e w35 ⟨rfl, hb⟩; replace BK274 := Aside0.mk (blk_below (g := gb274) (o := .cells #[.bool t270, .int .u64 t271, .int .u64 t272] 25 (0, 0)) (by refine zL ?_; refine blk_far ?_ NB274_291.out _; refine zL ?_; refine blk_far ?_ NB274_291.out _; refine zL ?_; refine blk_far ?_ NB274_291.out _; refine zL ?_; refine blk_far ?_ NB274_291.out _; refine zL ?_; exact BK274.out) hb); replace BK279 := Aside0.mk (blk_below (g := gb279) (o := .cells #[.bool t275, .int .u64 t276, .int .u64 t277] 25 (0, 0)) (by refine zL ?_; refine blk_far ?_ NB279_291.out _; refine zL ?_; refine blk_far ?_ NB279_291.out _; refine zL ?_; refine blk_far ?_ NB279_291.out _; refine zL ?_; refine blk_far ?_ NB279_291.out _; refine zL ?_; exact BK279.out) hb); replace BK285 := Aside0.mk (blk_below (g := gb285) (o := .cells #[.bool t280, .int .u64 t281, .int .u64 t282, .int .i64 t283] 30 (0, 0)) (by refine zL ?_; refine blk_far ?_ NB285_291.out _; refine zL ?_; refine blk_far ?_ NB285_291.out _; refine zL ?_; refine blk_far ?_ NB285_291.out _; refine zL ?_; refine blk_far ?_ NB285_291.out _; refine zL ?_; exact BK285.out) hb); replace BK291 := Aside0.mk (blk_below (g := gb291) (o := .cells #[.bool t286, .int .u64 t287, .int .u64 t288, .int .i64 t289] 30 (0, 0)) (by refine zL ?_; refine blk_put (cs := #[.bool t286, .int .u64 t287, .int .u64 t288, .int .i64 0]) ?_ 3 _ rfl; refine zL ?_; refine blk_put (cs := #[.bool t286, .int .u64 t287, .int .u64 0, .int .i64 0]) ?_ 2 _ rfl; refine zL ?_; refine blk_put (cs := #[.bool t286, .int .u64 0, .int .u64 0, .int .i64 0]) ?_ 1 _ rfl; refine zL ?_; refine blk_put (cs := #[.bool false, .int .u64 0, .int .u64 0, .int .i64 0]) ?_ 0 _ rfl; refine zL ?_; exact BK291.out) hb); replace HB := Aside0.mk (below_step (zB HB) hb); (try clear hb)))
           go_ret
           exact ⟨by first | rfl | (simp [errW_none, errW_some] <;> rfl) | (simp [*, errW_none, errW_some] <;> rfl), by repeat (first | (with_reducible first | exact HB.out | apply below_alloc | apply pw_below_drewN | apply below_drew1 | refine below_set ?_ GE274.out | refine below_set ?_ GE279.out | refine below_set ?_ GE285.out | refine below_set ?_ GE291.out) | exact HB.out)⟩
         · rw [if_neg c12] at H
           have c12b0 : (t284 == t290) = false := beq_eq_false_iff_ne.mpr c12
           have c12b1 : (t284 != t290) = true := bne_iff_ne.mpr c12
           obtain rfl := Option.some.inj H
           go_enter Tryd.func3, Tryd.ntmps3
           go_wp2_with (first | ((with_reducible refine gate_callee (f := 11) rfl ?_); refine goesL_ (some 17) rfl rfl Tryd.func11 (by kernel_rfl) rfl #[.string a0] rfl (by (try simp only [List.map_toArray, List.map_cons, List.map_nil]); first | done | rfl | (simp only [List.length_drop, List.length_take]; rfl)) ?_; (with_reducible refine (address_Parse.calls k a0 t270 t271 t272 t273 _ A5.out (WOK.below hW_ (zB HB))).mono ?_); rintro e w36 ⟨rfl, hb⟩; refine ⟨_, rfl, ?_⟩; replace HB := Aside0.mk (below_step (zB HB) hb); (try clear hb)) | ((with_reducible refine gate_dst (N := 3) rfl ?_); refine zx 3 #[.bool false, .int .u64 0, .int .u64 0] 25 ?_; intro gb274 hg w37 hbox hb; have BK274 := Aside0.mk (hbox); have GW274 := Aside0.mk ((by rw [hg]; exact (below_size (zB HB)) : w.heap.size ≤ gb274)); have GE274 := Aside0.mk ((by rw [hg]; exact (below_size (zB HB)) : w.heap.size ≤ gb274)); replace HB := Aside0.mk (below_step (zB HB) hb); clear hb hbox hg; obtain ⟨hcz38_0, hcz38_1, hcz38_2⟩ := zc3 BK274; obtain ⟨hfz38_0, hfz38_1, hfz38_2⟩ := zf3 BK274) | ((with_reducible refine gate_callee (f := 12) rfl ?_); refine goesL_ (some 22) rfl rfl Tryd.func12 (by kernel_rfl) rfl #[.string a0] rfl (by (try simp only [List.map_toArray, List.map_cons, List.map_nil]); first | done | rfl | (simp only [List.length_drop, List.length_take]; rfl)) ?_; (with_reducible refine (intrusionref06_Parse.calls k a0 t275 t276 t277 t278 _ A6.out).mono ?_); rintro e w39 ⟨rfl, hb⟩; refine ⟨_, rfl, ?_⟩; replace BK274 := Aside0.mk (blk_below (g := gb274) (o := .cells #[.bool t270, .int .u64 t271, .int .u64 t272] 25 (0, 0)) (by refine zL ?_; refine blk_put (cs := #[.bool t270, .int .u64 t271, .int .u64 0]) ?_ 2 _ rfl; refine zL ?_; refine blk_put (cs := #[.bool t270, .int .u64 0, .int .u64 0]) ?_ 1 _ rfl; refine zL ?_; refine blk_put (cs := #[.bool false, .int .u64 0, .int .u64 0]) ?_ 0 _ rfl; refine zL ?_; exact BK274.out) hb); replace HB := Aside0.mk (below_step (zB HB) hb); (try clear hb)) | ((with_reducible refine gate_dst (N := 5) rfl ?_); refine zx 5 #[.bool false, .int .u64 0, .int .u64 0] 25 ?_; intro gb279 hg w40 hbox hb; have BK279 := Aside0.mk (hbox); have GW279 := Aside0.mk ((by rw [hg]; exact (below_size (zB HB)) : w.heap.size ≤ gb279)); have GE279 := Aside0.mk ((by rw [hg]; exact (below_size (zB HB)) : w.heap.size ≤ gb279)); replace HB := Aside0.mk (below_step (zB HB) hb); have NB274_279 := Aside0.mk ((by rw [hg]; exact Nat.ne_of_lt (blk_lt (g := gb274) (o := .cells #[.bool t270, .int .u64 t271, .int .u64 t272] 25 (0, 0)) (zK BK274)) : gb274 ≠ gb279)); have NB279_274 := Aside0.mk ((by rw [hg]; exact Nat.ne_of_gt (blk_lt (g := gb274) (o := .cells #[.bool t270, .int .u64 t271, .int .u64 t272] 25 (0, 0)) (zK BK274)) : gb279 ≠ gb274)); replace BK274 := Aside0.mk (blk_below (g := gb274) (o := .cells #[.bool t270, .int .u64 t271, .int .u64 t272] 25 (0, 0)) (zK BK274) hb); clear hb hbox hg; have hnb41 := NB279_274.out; have hnc41 := NB274_279.out; obtain ⟨hcz42_0, hcz42_1, hcz42_2⟩ := zc3 BK279; obtain ⟨hfz42_0, hfz42_1, hfz42_2⟩ := zf3 BK279) | ((with_reducible refine gate_callee (f := 13) rfl ?_); refine goesL_ (some 27) rfl rfl Tryd.func13 (by kernel_rfl) rfl #[.string a0] rfl (by (try simp only [List.map_toArray, List.map_cons, List.map_nil]); first | done | rfl | (simp only [List.length_drop, List.length_take]; rfl)) ?_; (with_reducible refine (address_ParsePrefix.calls k a0 t280 t281 t282 t283 t284 _ A7.out (WOK.below hW_ (zB HB))).mono ?_); rintro e w43 ⟨rfl, hb⟩; refine ⟨_, rfl, ?_⟩; replace BK274 := Aside0.mk (blk_below (g := gb274) (o := .cells #[.bool t270, .int .u64 t271, .int .u64 t272] 25 (0, 0)) (by refine zL ?_; refine blk_far ?_ NB274_279.out _; refine zL ?_; refine blk_far ?_ NB274_279.out _; refine zL ?_; refine blk_far ?_ NB274_279.out _; refine zL ?_; exact BK274.out) hb); replace BK279 := Aside0.mk (blk_below (g := gb279) (o := .cells #[.bool t275, .int .u64 t276, .int .u64 t277] 25 (0, 0)) (by refine zL ?_; refine blk_put (cs := #[.bool t275, .int .u64 t276, .int .u64 0]) ?_ 2 _ rfl; refine zL ?_; refine blk_put (cs := #[.bool t275, .int .u64 0, .int .u64 0]) ?_ 1 _ rfl; refine zL ?_; refine blk_put (cs := #[.bool false, .int .u64 0, .int .u64 0]) ?_ 0 _ rfl; refine zL ?_; exact BK279.out) hb); replace HB := Aside0.mk (below_step (zB HB) hb); (try clear hb)) | ((with_reducible refine gate_dst (N := 7) rfl ?_); refine zx 7 #[.bool false, .int .u64 0, .int .u64 0, .int .i64 0] 30 ?_; intro gb285 hg w44 hbox hb; have BK285 := Aside0.mk (hbox); have GW285 := Aside0.mk ((by rw [hg]; exact (below_size (zB HB)) : w.heap.size ≤ gb285)); have GE285 := Aside0.mk ((by rw [hg]; exact (below_size (zB HB)) : w.heap.size ≤ gb285)); replace HB := Aside0.mk (below_step (zB HB) hb); have NB274_285 := Aside0.mk ((by rw [hg]; exact Nat.ne_of_lt (blk_lt (g := gb274) (o := .cells #[.bool t270, .int .u64 t271, .int .u64 t272] 25 (0, 0)) (zK BK274)) : gb274 ≠ gb285)); have NB285_274 := Aside0.mk ((by rw [hg]; exact Nat.ne_of_gt (blk_lt (g := gb274) (o := .cells #[.bool t270, .int .u64 t271, .int .u64 t272] 25 (0, 0)) (zK BK274)) : gb285 ≠ gb274)); replace BK274 := Aside0.mk (blk_below (g := gb274) (o := .cells #[.bool t270, .int .u64 t271, .int .u64 t272] 25 (0, 0)) (zK BK274) hb); have NB279_285 := Aside0.mk ((by rw [hg]; exact Nat.ne_of_lt (blk_lt (g := gb279) (o := .cells #[.bool t275, .int .u64 t276, .int .u64 t277] 25 (0, 0)) (zK BK279)) : gb279 ≠ gb285)); have NB285_279 := Aside0.mk ((by rw [hg]; exact Nat.ne_of_gt (blk_lt (g := gb279) (o := .cells #[.bool t275, .int .u64 t276, .int .u64 t277] 25 (0, 0)) (zK BK279)) : gb285 ≠ gb279)); replace BK279 := Aside0.mk (blk_below (g := gb279) (o := .cells #[.bool t275, .int .u64 t276, .int .u64 t277] 25 (0, 0)) (zK BK279) hb); clear hb hbox hg; have hnb45 := NB285_274.out; have hnc45 := NB274_285.out; have hnb46 := NB285_279.out; have hnc46 := NB279_285.out; obtain ⟨hcz47_0, hcz47_1, hcz47_2, hcz47_3⟩ := zc4 BK285; obtain ⟨hfz47_0, hfz47_1, hfz47_2, hfz47_3⟩ := zf4 BK285) | ((with_reducible refine gate_callee (f := 14) rfl ?_); refine goesL_ (some 32) rfl rfl Tryd.func14 (by kernel_rfl) rfl #[.string a0] rfl (by (try simp only [List.map_toArray, List.map_cons, List.map_nil]); first | done | rfl | (simp only [List.length_drop, List.length_take]; rfl)) ?_; (with_reducible refine (intrusionref06_ParsePrefix.calls k a0 t286 t287 t288 t289 t290 _ A8.out).mono ?_); rintro e w48 ⟨rfl, hb⟩; refine ⟨_, rfl, ?_⟩; replace BK274 := Aside0.mk (blk_below (g := gb274) (o := .cells #[.bool t270, .int .u64 t271, .int .u64 t272] 25 (0, 0)) (by refine zL ?_; refine blk_far ?_ NB274_285.out _; refine zL ?_; refine blk_far ?_ NB274_285.out _; refine zL ?_; refine blk_far ?_ NB274_285.out _; refine zL ?_; refine blk_far ?_ NB274_285.out _; refine zL ?_; exact BK274.out) hb); replace BK279 := Aside0.mk (blk_below (g := gb279) (o := .cells #[.bool t275, .int .u64 t276, .int .u64 t277] 25 (0, 0)) (by refine zL ?_; refine blk_far ?_ NB279_285.out _; refine zL ?_; refine blk_far ?_ NB279_285.out _; refine zL ?_; refine blk_far ?_ NB279_285.out _; refine zL ?_; refine blk_far ?_ NB279_285.out _; refine zL ?_; exact BK279.out) hb); replace BK285 := Aside0.mk (blk_below (g := gb285) (o := .cells #[.bool t280, .int .u64 t281, .int .u64 t282, .int .i64 t283] 30 (0, 0)) (by refine zL ?_; refine blk_put (cs := #[.bool t280, .int .u64 t281, .int .u64 t282, .int .i64 0]) ?_ 3 _ rfl; refine zL ?_; refine blk_put (cs := #[.bool t280, .int .u64 t281, .int .u64 0, .int .i64 0]) ?_ 2 _ rfl; refine zL ?_; refine blk_put (cs := #[.bool t280, .int .u64 0, .int .u64 0, .int .i64 0]) ?_ 1 _ rfl; refine zL ?_; refine blk_put (cs := #[.bool false, .int .u64 0, .int .u64 0, .int .i64 0]) ?_ 0 _ rfl; refine zL ?_; exact BK285.out) hb); replace HB := Aside0.mk (below_step (zB HB) hb); (try clear hb)) | ((with_reducible refine gate_dst (N := 9) rfl ?_); refine zx 9 #[.bool false, .int .u64 0, .int .u64 0, .int .i64 0] 30 ?_; intro gb291 hg w49 hbox hb; have BK291 := Aside0.mk (hbox); have GW291 := Aside0.mk ((by rw [hg]; exact (below_size (zB HB)) : w.heap.size ≤ gb291)); have GE291 := Aside0.mk ((by rw [hg]; exact (below_size (zB HB)) : w.heap.size ≤ gb291)); replace HB := Aside0.mk (below_step (zB HB) hb); have NB274_291 := Aside0.mk ((by rw [hg]; exact Nat.ne_of_lt (blk_lt (g := gb274) (o := .cells #[.bool t270, .int .u64 t271, .int .u64 t272] 25 (0, 0)) (zK BK274)) : gb274 ≠ gb291)); have NB291_274 := Aside0.mk ((by rw [hg]; exact Nat.ne_of_gt (blk_lt (g := gb274) (o := .cells #[.bool t270, .int .u64 t271, .int .u64 t272] 25 (0, 0)) (zK BK274)) : gb291 ≠ gb274)); replace BK274 := Aside0.mk (blk_below (g := gb274) (o := .cells #[.bool t270, .int .u64 t271, .int .u64 t272] 25 (0, 0)) (zK BK274) hb); have NB279_291 := Aside0.mk ((by rw [hg]; exact Nat.ne_of_lt (blk_lt (g := gb279) (o := .cells #[.bool t275, .int .u64 t276, .int .u64 t277] 25 (0, 0)) (zK BK279)) : gb279 ≠ gb291)); have NB291_279 := Aside0.mk ((by rw [hg]; exact Nat.ne_of_gt (blk_lt (g := gb279) (o := .cells #[.bool t275, .int .u64 t276, .int .u64 t277] 25 (0, 0)) (zK BK279)) : gb291 ≠ gb279)); replace BK279 := Aside0.mk (blk_below (g := gb279) (o := .cells #[.bool t275, .int .u64 t276, .int .u64 t277] 25 (0, 0)) (zK BK279) hb); have NB285_291 := Aside0.mk ((by rw [hg]; exact Nat.ne_of_lt (blk_lt (g := gb285) (o := .cells #[.bool t280, .int .u64 t281, .int .u64 t282, .int .i64 t283] 30 (0, 0)) (zK BK285)) : gb285 ≠ gb291)); have NB291_285 := Aside0.mk ((by rw [hg]; exact Nat.ne_of_gt (blk_lt (g := gb285) (o := .cells #[.bool t280, .int .u64 t281, .int .u64 t282, .int .i64 t283] 30 (0, 0)) (zK BK285)) : gb291 ≠ gb285)); replace BK285 := Aside0.mk (blk_below (g := gb285) (o := .cells #[.bool t280, .int .u64 t281, .int .u64 t282, .int .i64 t283] 30 (0, 0)) (zK BK285) hb); clear hb hbox hg; have hnb50 := NB291_274.out; have hnc50 := NB274_291.out; have hnb51 := NB291_279.out; have hnc51 := NB279_291.out; have hnb52 := NB291_285.out; have hnc52 := NB285_291.out; obtain ⟨hcz53_0, hcz53_1, hcz53_2, hcz53_3⟩ := zc4 BK291; obtain ⟨hfz53_0, hfz53_1, hfz53_2, hfz53_3⟩ := zf4 BK291; obtain ⟨hcz54_0, hcz54_1, hcz54_2⟩ := zc3 BK274; obtain ⟨hfz54_0, hfz54_1, hfz54_2⟩ := zf3 BK274; obtain ⟨hcz55_0, hcz55_1, hcz55_2⟩ := zc3 BK279; obtain ⟨hfz55_0, hfz55_1, hfz55_2⟩ := zf3 BK279; obtain ⟨hcz56_0, hcz56_1, hcz56_2, hcz56_3⟩ := zc4 BK285; obtain ⟨hfz56_0, hfz56_1, hfz56_2, hfz56_3⟩ := zf4 BK285))
           go_ret
           exact ⟨by first | rfl | (simp [errW_none, errW_some] <;> rfl) | (simp [*, errW_none, errW_some] <;> rfl), by repeat (first | (with_reducible first | exact HB.out | apply below_alloc | apply pw_below_drewN | apply below_drew1 | refine below_set ?_ GE274.out | refine below_set ?_ GE279.out | refine below_set ?_ GE285.out | refine below_set ?_ GE291.out) | exact HB.out)⟩
       · rw [if_neg c11] at H
         have c11b0 : ((t280 == t286 && (t281 == t287 && (t282 == t288))) && (t283 == t289)) = false := by simpa using c11
         clear c11
         obtain rfl := Option.some.inj H
         go_enter Tryd.func3, Tryd.ntmps3
         go_wp2_with (first | ((with_reducible refine gate_callee (f := 11) rfl ?_); refine goesL_ (some 17) rfl rfl Tryd.func11 (by kernel_rfl) rfl #[.string a0] rfl (by (try simp only [List.map_toArray, List.map_cons, List.map_nil]); first | done | rfl | (simp only [List.length_drop, List.length_take]; rfl)) ?_; (with_reducible refine (address_Parse.calls k a0 t270 t271 t272 t273 _ A5.out (WOK.below hW_ (zB HB))).mono ?_); rintro e w57 ⟨rfl, hb⟩; refine ⟨_, rfl, ?_⟩; replace HB := Aside0.mk (below_step (zB HB) hb); (try clear hb)) | ((with_reducible refine gate_dst (N := 3) rfl ?_); refine zx 3 #[.bool false, .int .u64 0, .int .u64 0] 25 ?_; intro gb274 hg w58 hbox hb; have BK274 := Aside0.mk (hbox); have GW274 := Aside0.mk ((by rw [hg]; exact (below_size (zB HB)) : w.heap.size ≤ gb274)); have GE274 := Aside0.mk ((by rw [hg]; exact (below_size (zB HB)) : w.heap.size ≤ gb274)); replace HB := Aside0.mk (below_step (zB HB) hb); clear hb hbox hg; obtain ⟨hcz59_0, hcz59_1, hcz59_2⟩ := zc3 BK274; obtain ⟨hfz59_0, hfz59_1, hfz59_2⟩ := zf3 BK274) | ((with_reducible refine gate_callee (f := 12) rfl ?_); refine goesL_ (some 22) rfl rfl Tryd.func12 (by kernel_rfl) rfl #[.string a0] rfl (by (try simp only [List.map_toArray, List.map_cons, List.map_nil]); first | done | rfl | (simp only [List.length_drop, List.length_take]; rfl)) ?_; (with_reducible refine (intrusionref06_Parse.calls k a0 t275 t276 t277 t278 _ A6.out).mono ?_); rintro e w60 ⟨rfl, hb⟩; refine ⟨_, rfl, ?_⟩; replace BK274 := Aside0.mk (blk_below (g := gb274) (o := .cells #[.bool t270, .int .u64 t271, .int .u64 t272] 25 (0, 0)) (by refine zL ?_; refine blk_put (cs := #[.bool t270, .int .u64 t271, .int .u64 0]) ?_ 2 _ rfl; refine zL ?_; refine blk_put (cs := #[.bool t270, .int .u64 0, .int .u64 0]) ?_ 1 _ rfl; refine zL ?_; refine blk_put (cs := #[.bool false, .int .u64 0, .int .u64 0]) ?_ 0 _ rfl; refine zL ?_; exact BK274.out) hb); replace HB := Aside0.mk (below_step (zB HB) hb); (try clear hb)) | ((with_reducible refine gate_dst (N := 5) rfl ?_); refine zx 5 #[.bool false, .int .u64 0, .int .u64 0] 25 ?_; intro gb279 hg w61 hbox hb; have BK279 := Aside0.mk (hbox); have GW279 := Aside0.mk ((by rw [hg]; exact (below_size (zB HB)) : w.heap.size ≤ gb279)); have GE279 := Aside0.mk ((by rw [hg]; exact (below_size (zB HB)) : w.heap.size ≤ gb279)); replace HB := Aside0.mk (below_step (zB HB) hb); have NB274_279 := Aside0.mk ((by rw [hg]; exact Nat.ne_of_lt (blk_lt (g := gb274) (o := .cells #[.bool t270, .int .u64 t271, .int .u64 t272] 25 (0, 0)) (zK BK274)) : gb274 ≠ gb279)); have NB279_274 := Aside0.mk ((by rw [hg]; exact Nat.ne_of_gt (blk_lt (g := gb274) (o := .cells #[.bool t270, .int .u64 t271, .int .u64 t272] 25 (0, 0)) (zK BK274)) : gb279 ≠ gb274)); replace BK274 := Aside0.mk (blk_below (g := gb274) (o := .cells #[.bool t270, .int .u64 t271, .int .u64 t272] 25 (0, 0)) (zK BK274) hb); clear hb hbox hg; have hnb62 := NB279_274.out; have hnc62 := NB274_279.out; obtain ⟨hcz63_0, hcz63_1, hcz63_2⟩ := zc3 BK279; obtain ⟨hfz63_0, hfz63_1, hfz63_2⟩ := zf3 BK279) | ((with_reducible refine gate_callee (f := 13) rfl ?_); refine goesL_ (some 27) rfl rfl Tryd.func13 (by kernel_rfl) rfl #[.string a0] rfl (by (try simp only [List.map_toArray, List.map_cons, List.map_nil]); first | done | rfl | (simp only [List.length_drop, List.length_take]; rfl)) ?_; (with_reducible refine (address_ParsePrefix.calls k a0 t280 t281 t282 t283 t284 _ A7.out (WOK.below hW_ (zB HB))).mono ?_); rintro e w64 ⟨rfl, hb⟩; refine ⟨_, rfl, ?_⟩; replace BK274 := Aside0.mk (blk_below (g := gb274) (o := .cells #[.bool t270, .int .u64 t271, .int .u64 t272] 25 (0, 0)) (by refine zL ?_; refine blk_far ?_ NB274_279.out _; refine zL ?_; refine blk_far ?_ NB274_279.out _; refine zL ?_; refine blk_far ?_ NB274_279.out _; refine zL ?_; exact BK274.out) hb); replace BK279 := Aside0.mk (blk_below (g := gb279) (o := .cells #[.bool t275, .int .u64 t276, .int .u64 t277] 25 (0, 0)) (by refine zL ?_; refine blk_put (cs := #[.bool t275, .int .u64 t276, .int .u64 0]) ?_ 2 _ rfl; refine zL ?_; refine blk_put (cs := #[.bool t275, .int .u64 0, .int .u64 0]) ?_ 1 _ rfl; refine zL ?_; refine blk_put (cs := #[.bool false, .int .u64 0, .int .u64 0]) ?_ 0 _ rfl; refine zL ?_; exact BK279.out) hb); replace HB := Aside0.mk (below_step (zB HB) hb); (try clear hb)) | ((with_reducible refine gate_dst (N := 7) rfl ?_); refine zx 7 #[.bool false, .int .u64 0, .int .u64 0, .int .i64 0] 30 ?_; intro gb285 hg w65 hbox hb; have BK285 := Aside0.mk (hbox); have GW285 := Aside0.mk ((by rw [hg]; exact (below_size (zB HB)) : w.heap.size ≤ gb285)); have GE285 := Aside0.mk ((by rw [hg]; exact (below_size (zB HB)) : w.heap.size ≤ gb285)); replace HB := Aside0.mk (below_step (zB HB) hb); have NB274_285 := Aside0.mk ((by rw [hg]; exact Nat.ne_of_lt (blk_lt (g := gb274) (o := .cells #[.bool t270, .int .u64 t271, .int .u64 t272] 25 (0, 0)) (zK BK274)) : gb274 ≠ gb285)); have NB285_274 := Aside0.mk ((by rw [hg]; exact Nat.ne_of_gt (blk_lt (g := gb274) (o := .cells #[.bool t270, .int .u64 t271, .int .u64 t272] 25 (0, 0)) (zK BK274)) : gb285 ≠ gb274)); replace BK274 := Aside0.mk (blk_below (g := gb274) (o := .cells #[.bool t270, .int .u64 t271, .int .u64 t272] 25 (0, 0)) (zK BK274) hb); have NB279_285 := Aside0.mk ((by rw [hg]; exact Nat.ne_of_lt (blk_lt (g := gb279) (o := .cells #[.bool t275, .int .u64 t276, .int .u64 t277] 25 (0, 0)) (zK BK279)) : gb279 ≠ gb285)); have NB285_279 := Aside0.mk ((by rw [hg]; exact Nat.ne_of_gt (blk_lt (g := gb279) (o := .cells #[.bool t275, .int .u64 t276, .int .u64 t277] 25 (0, 0)) (zK BK279)) : gb285 ≠ gb279)); replace BK279 := Aside0.mk (blk_below (g := gb279) (o := .cells #[.bool t275, .int .u64 t276, .int .u64 t277] 25 (0, 0)) (zK BK279) hb); clear hb hbox hg; have hnb66 := NB285_274.out; have hnc66 := NB274_285.out; have hnb67 := NB285_279.out; have hnc67 := NB279_285.out; obtain ⟨hcz68_0, hcz68_1, hcz68_2, hcz68_3⟩ := zc4 BK285; obtain ⟨hfz68_0, hfz68_1, hfz68_2, hfz68_3⟩ := zf4 BK285) | ((with_reducible refine gate_callee (f := 14) rfl ?_); refine goesL_ (some 32) rfl rfl Tryd.func14 (by kernel_rfl) rfl #[.string a0] rfl (by (try simp only [List.map_toArray, List.map_cons, List.map_nil]); first | done | rfl | (simp only [List.length_drop, List.length_take]; rfl)) ?_; (with_reducible refine (intrusionref06_ParsePrefix.calls k a0 t286 t287 t288 t289 t290 _ A8.out).mono ?_); rintro e w69 ⟨rfl, hb⟩; refine ⟨_, rfl, ?_⟩; replace BK274 := Aside0.mk (blk_below (g := gb274) (o := .cells #[.bool t270, .int .u64 t271, .int .u64 t272] 25 (0, 0)) (by refine zL ?_; refine blk_far ?_ NB274_285.out _; refine zL ?_; refine blk_far ?_ NB274_285.out _; refine zL ?_; refine blk_far ?_ NB274_285.out _; refine zL ?_; refine blk_far ?_ NB274_285.out _; refine zL ?_; exact BK274.out) hb); replace BK279 := Aside0.mk (blk_below (g := gb279) (o := .cells #[.bool t275, .int .u64 t276, .int .u64 t277] 25 (0, 0)) (by refine zL ?_; refine blk_far ?_ NB279_285.out _; refine zL ?_; refine blk_far ?_ NB279_285.out _; refine zL ?_; refine blk_far ?_ NB279_285.out _; refine zL ?_; refine blk_far ?_ NB279_285.out _; refine zL ?_; exact BK279.out) hb); replace BK285 := Aside0.mk (blk_below (g := gb285) (o := .cells #[.bool t280, .int .u64 t281, .int .u64 t282, .int .i64 t283] 30 (0, 0)) (by refine zL ?_; refine blk_put (cs := #[.bool t280, .int .u64 t281, .int .u64 t282, .int .i64 0]) ?_ 3 _ rfl; refine zL ?_; refine blk_put (cs := #[.bool t280, .int .u64 t281, .int .u64 0, .int .i64 0]) ?_ 2 _ rfl; refine zL ?_; refine blk_put (cs := #[.bool t280, .int .u64 0, .int .u64 0, .int .i64 0]) ?_ 1 _ rfl; refine zL ?_; refine blk_put (cs := #[.bool false, .int .u64 0, .int .u64 0, .int .i64 0]) ?_ 0 _ rfl; refine zL ?_; exact BK285.out) hb); replace HB := Aside0.mk (below_step (zB HB) hb); (try clear hb)) | ((with_reducible refine gate_dst (N := 9) rfl ?_); refine zx 9 #[.bool false, .int .u64 0, .int .u64 0, .int .i64 0] 30 ?_; intro gb291 hg w70 hbox hb; have BK291 := Aside0.mk (hbox); have GW291 := Aside0.mk ((by rw [hg]; exact (below_size (zB HB)) : w.heap.size ≤ gb291)); have GE291 := Aside0.mk ((by rw [hg]; exact (below_size (zB HB)) : w.heap.size ≤ gb291)); replace HB := Aside0.mk (below_step (zB HB) hb); have NB274_291 := Aside0.mk ((by rw [hg]; exact Nat.ne_of_lt (blk_lt (g := gb274) (o := .cells #[.bool t270, .int .u64 t271, .int .u64 t272] 25 (0, 0)) (zK BK274)) : gb274 ≠ gb291)); have NB291_274 := Aside0.mk ((by rw [hg]; exact Nat.ne_of_gt (blk_lt (g := gb274) (o := .cells #[.bool t270, .int .u64 t271, .int .u64 t272] 25 (0, 0)) (zK BK274)) : gb291 ≠ gb274)); replace BK274 := Aside0.mk (blk_below (g := gb274) (o := .cells #[.bool t270, .int .u64 t271, .int .u64 t272] 25 (0, 0)) (zK BK274) hb); have NB279_291 := Aside0.mk ((by rw [hg]; exact Nat.ne_of_lt (blk_lt (g := gb279) (o := .cells #[.bool t275, .int .u64 t276, .int .u64 t277] 25 (0, 0)) (zK BK279)) : gb279 ≠ gb291)); have NB291_279 := Aside0.mk ((by rw [hg]; exact Nat.ne_of_gt (blk_lt (g := gb279) (o := .cells #[.bool t275, .int .u64 t276, .int .u64 t277] 25 (0, 0)) (zK BK279)) : gb291 ≠ gb279)); replace BK279 := Aside0.mk (blk_below (g := gb279) (o := .cells #[.bool t275, .int .u64 t276, .int .u64 t277] 25 (0, 0)) (zK BK279) hb); have NB285_291 := Aside0.mk ((by rw [hg]; exact Nat.ne_of_lt (blk_lt (g := gb285) (o := .cells #[.bool t280, .int .u64 t281, .int .u64 t282, .int .i64 t283] 30 (0, 0)) (zK BK285)) : gb285 ≠ gb291)); have NB291_285 := Aside0.mk ((by rw [hg]; exact Nat.ne_of_gt (blk_lt (g := gb285) (o := .cells #[.bool t280, .int .u64 t281, .int .u64 t282, .int .i64 t283] 30 (0, 0)) (zK BK285)) : gb291 ≠ gb285)); replace BK285 := Aside0.mk (blk_below (g := gb285) (o := .cells #[.bool t280, .int .u64 t281, .int .u64 t282, .int .i64 t283] 30 (0, 0)) (zK BK285) hb); clear hb hbox hg; have hnb71 := NB291_274.out; have hnc71 := NB274_291.out; have hnb72 := NB291_279.out; have hnc72 := NB279_291.out; have hnb73 := NB291_285.out; have hnc73 := NB285_291.out; obtain ⟨hcz74_0, hcz74_1, hcz74_2, hcz74_3⟩ := zc4 BK291; obtain ⟨hfz74_0, hfz74_1, hfz74_2, hfz74_3⟩ := zf4 BK291; obtain ⟨hcz75_0, hcz75_1, hcz75_2⟩ := zc3 BK274; obtain ⟨hfz75_0, hfz75_1, hfz75_2⟩ := zf3 BK274; obtain ⟨hcz76_0, hcz76_1, hcz76_2⟩ := zc3 BK279; obtain ⟨hfz76_0, hfz76_1, hfz76_2⟩ := zf3 BK279; obtain ⟨hcz77_0, hcz77_1, hcz77_2, hcz77_3⟩ := zc4 BK285; obtain ⟨hfz77_0, hfz77_1, hfz77_2, hfz77_3⟩ := zf4 BK285))
         go_ret
         exact ⟨by first | rfl | (simp [errW_none, errW_some] <;> rfl) | (simp [*, errW_none, errW_some] <;> rfl), by repeat (first | (with_reducible first | exact HB.out | apply below_alloc | apply pw_below_drewN | apply below_drew1 | refine below_set ?_ GE274.out | refine below_set ?_ GE279.out | refine below_set ?_ GE285.out | refine below_set ?_ GE291.out) | exact HB.out)⟩
     · rw [if_neg c10] at H
       have c10b0 : (t273 == t278) = false := beq_eq_false_iff_ne.mpr c10
       have c10b1 : (t273 != t278) = true := bne_iff_ne.mpr c10
       obtain rfl := Option.some.inj H
       go_enter Tryd.func3, Tryd.ntmps3
       go_wp2_with (first | ((with_reducible refine gate_callee (f := 11) rfl ?_); refine goesL_ (some 17) rfl rfl Tryd.func11 (by kernel_rfl) rfl #[.string a0] rfl (by (try simp only [List.map_toArray, List.map_cons, List.map_nil]); first | done | rfl | (simp only [List.length_drop, List.length_take]; rfl)) ?_; (with_reducible refine (address_Parse.calls k a0 t270 t271 t272 t273 _ A5.out (WOK.below hW_ (zB HB))).mono ?_); rintro e w78 ⟨rfl, hb⟩; refine ⟨_, rfl, ?_⟩; replace HB := Aside0.mk (below_step (zB HB) hb); (try clear hb)) | ((with_reducible refine gate_dst (N := 3) rfl ?_); refine zx 3 #[.bool false, .int .u64 0, .int .u64 0] 25 ?_; intro gb274 hg w79 hbox hb; have BK274 := Aside0.mk (hbox); have GW274 := Aside0.mk ((by rw [hg]; exact (below_size (zB HB)) : w.heap.size ≤ gb274)); have GE274 := Aside0.mk ((by rw [hg]; exact (below_size (zB HB)) : w.heap.size ≤ gb274)); replace HB := Aside0.mk (below_step (zB HB) hb); clear hb hbox hg; obtain ⟨hcz80_0, hcz80_1, hcz80_2⟩ := zc3 BK274; obtain ⟨hfz80_0, hfz80_1, hfz80_2⟩ := zf3 BK274) | ((with_reducible refine gate_callee (f := 12) rfl ?_); refine goesL_ (some 22) rfl rfl Tryd.func12 (by kernel_rfl) rfl #[.string a0] rfl (by (try simp only [List.map_toArray, List.map_cons, List.map_nil]); first | done | rfl | (simp only [List.length_drop, List.length_take]; rfl)) ?_; (with_reducible refine (intrusionref06_Parse.calls k a0 t275 t276 t277 t278 _ A6.out).mono ?_); rintro e w81 ⟨rfl, hb⟩; refine ⟨_, rfl, ?_⟩; replace BK274 := Aside0.mk (blk_below (g := gb274) (o := .cells #[.bool t270, .int .u64 t271, .int .u64 t272] 25 (0, 0)) (by refine zL ?_; refine blk_put (cs := #[.bool t270, .int .u64 t271, .int .u64 0]) ?_ 2 _ rfl; refine zL ?_; refine blk_put (cs := #[.bool t270, .int .u64 0, .int .u64 0]) ?_ 1 _ rfl; refine zL ?_; refine blk_put (cs := #[.bool false, .int .u64 0, .int .u64 0]) ?_ 0 _ rfl; refine zL ?_; exact BK274.out) hb); replace HB := Aside0.mk (below_step (zB HB) hb); (try clear hb)) | ((with_reducible refine gate_dst (N := 5) rfl ?_); refine zx 5 #[.bool false, .int .u64 0, .int .u64 0] 25 ?_; intro gb279 hg w82 hbox hb; have BK279 := Aside0.mk (hbox); have GW279 := Aside0.mk ((by rw [hg]; exact (below_size (zB HB)) : w.heap.size ≤ gb279)); have GE279 := Aside0.mk ((by rw [hg]; exact (below_size (zB HB)) : w.heap.size ≤ gb279)); replace HB := Aside0.mk (below_step (zB HB) hb); have NB274_279 := Aside0.mk ((by rw [hg]; exact Nat.ne_of_lt (blk_lt (g := gb274) (o := .cells #[.bool t270, .int .u64 t271, .int .u64 t272] 25 (0, 0)) (zK BK274)) : gb274 ≠ gb279)); have NB279_274 := Aside0.mk ((by rw [hg]; exact Nat.ne_of_gt (blk_lt (g := gb274) (o := .cells #[.bool t270, .int .u64 t271, .int .u64 t272] 25 (0, 0)) (zK BK274)) : gb279 ≠ gb274)); replace BK274 := Aside0.mk (blk_below (g := gb274) (o := .cells #[.bool t270, .int .u64 t271, .int .u64 t272] 25 (0, 0)) (zK BK274) hb); clear hb hbox hg; have hnb83 := NB279_274.out; have hnc83 := NB274_279.out; obtain ⟨hcz84_0, hcz84_1, hcz84_2⟩ := zc3 BK279; obtain ⟨hfz84_0, hfz84_1, hfz84_2⟩ := zf3 BK279) | ((with_reducible refine gate_callee (f := 13) rfl ?_); refine goesL_ (some 27) rfl rfl Tryd.func13 (by kernel_rfl) rfl #[.string a0] rfl (by (try simp only [List.map_toArray, List.map_cons, List.map_nil]); first | done | rfl | (simp only [List.length_drop, List.length_take]; rfl)) ?_; (with_reducible refine (address_ParsePrefix.calls k a0 t280 t281 t282 t283 t284 _ A7.out (WOK.below hW_ (zB HB))).mono ?_); rintro e w85 ⟨rfl, hb⟩; refine ⟨_, rfl, ?_⟩; replace BK274 := Aside0.mk (blk_below (g := gb274) (o := .cells #[.bool t270, .int .u64 t271, .int .u64 t272] 25 (0, 0)) (by refine zL ?_; refine blk_far ?_ NB274_279.out _; refine zL ?_; refine blk_far ?_ NB274_279.out _; refine zL ?_; refine blk_far ?_ NB274_279.out _; refine zL ?_; exact BK274.out) hb); replace BK279 := Aside0.mk (blk_below (g := gb279) (o := .cells #[.bool t275, .int .u64 t276, .int .u64 t277] 25 (0, 0)) (by refine zL ?_; refine blk_put (cs := #[.bool t275, .int .u64 t276, .int .u64 0]) ?_ 2 _ rfl; refine zL ?_; refine blk_put (cs := #[.bool t275, .int .u64 0, .int .u64 0]) ?_ 1 _ rfl; refine zL ?_; refine blk_put (cs := #[.bool false, .int .u64 0, .int .u64 0]) ?_ 0 _ rfl; refine zL ?_; exact BK279.out) hb); replace HB := Aside0.mk (below_step (zB HB) hb); (try clear hb)) | ((with_reducible refine gate_dst (N := 7) rfl ?_); refine zx 7 #[.bool false, .int .u64 0, .int .u64 0, .int .i64 0] 30 ?_; intro gb285 hg w86 hbox hb; have BK285 := Aside0.mk (hbox); have GW285 := Aside0.mk ((by rw [hg]; exact (below_size (zB HB)) : w.heap.size ≤ gb285)); have GE285 := Aside0.mk ((by rw [hg]; exact (below_size (zB HB)) : w.heap.size ≤ gb285)); replace HB := Aside0.mk (below_step (zB HB) hb); have NB274_285 := Aside0.mk ((by rw [hg]; exact Nat.ne_of_lt (blk_lt (g := gb274) (o := .cells #[.bool t270, .int .u64 t271, .int .u64 t272] 25 (0, 0)) (zK BK274)) : gb274 ≠ gb285)); have NB285_274 := Aside0.mk ((by rw [hg]; exact Nat.ne_of_gt (blk_lt (g := gb274) (o := .cells #[.bool t270, .int .u64 t271, .int .u64 t272] 25 (0, 0)) (zK BK274)) : gb285 ≠ gb274)); replace BK274 := Aside0.mk (blk_below (g := gb274) (o := .cells #[.bool t270, .int .u64 t271, .int .u64 t272] 25 (0, 0)) (zK BK274) hb); have NB279_285 := Aside0.mk ((by rw [hg]; exact Nat.ne_of_lt (blk_lt (g := gb279) (o := .cells #[.bool t275, .int .u64 t276, .int .u64 t277] 25 (0, 0)) (zK BK279)) : gb279 ≠ gb285)); have NB285_279 := Aside0.mk ((by rw [hg]; exact Nat.ne_of_gt (blk_lt (g := gb279) (o := .cells #[.bool t275, .int .u64 t276, .int .u64 t277] 25 (0, 0)) (zK BK279)) : gb285 ≠ gb279)); replace BK279 := Aside0.mk (blk_below (g := gb279) (o := .cells #[.bool t275, .int .u64 t276, .int .u64 t277] 25 (0, 0)) (zK BK279) hb); clear hb hbox hg; have hnb87 := NB285_274.out; have hnc87 := NB274_285.out; have hnb88 := NB285_279.out; have hnc88 := NB279_285.out; obtain ⟨hcz89_0, hcz89_1, hcz89_2, hcz89_3⟩ := zc4 BK285; obtain ⟨hfz89_0, hfz89_1, hfz89_2, hfz89_3⟩ := zf4 BK285) | ((with_reducible refine gate_callee (f := 14) rfl ?_); refine goesL_ (some 32) rfl rfl Tryd.func14 (by kernel_rfl) rfl #[.string a0] rfl (by (try simp only [List.map_toArray, List.map_cons, List.map_nil]); first | done | rfl | (simp only [List.length_drop, List.length_take]; rfl)) ?_; (with_reducible refine (intrusionref06_ParsePrefix.calls k a0 t286 t287 t288 t289 t290 _ A8.out).mono ?_); rintro e w90 ⟨rfl, hb⟩; refine ⟨_, rfl, ?_⟩; replace BK274 := Aside0.mk (blk_below (g := gb274) (o := .cells #[.bool t270, .int .u64 t271, .int .u64 t272] 25 (0, 0)) (by refine zL ?_; refine blk_far ?_ NB274_285.out _; refine zL ?_; refine blk_far ?_ NB274_285.out _; refine zL ?_; refine blk_far ?_ NB274_285.out _; refine zL ?_; refine blk_far ?_ NB274_285.out _; refine zL ?_; exact BK274.out) hb); replace BK279 := Aside0.mk (blk_below (g := gb279) (o := .cells #[.bool t275, .int .u64 t276, .int .u64 t277] 25 (0, 0)) (by refine zL ?_; refine blk_far ?_ NB279_285.out _; refine zL ?_; refine blk_far ?_ NB279_285.out _; refine zL ?_; refine blk_far ?_ NB279_285.out _; refine zL ?_; refine blk_far ?_ NB279_285.out _; refine zL ?_; exact BK279.out) hb); replace BK285 := Aside0.mk (blk_below (g := gb285) (o := .cells #[.bool t280, .int .u64 t281, .int .u64 t282, .int .i64 t283] 30 (0, 0)) (by refine zL ?_; refine blk_put (cs := #[.bool t280, .int .u64 t281, .int .u64 t282, .int .i64 0]) ?_ 3 _ rfl; refine zL ?_; refine blk_put (cs := #[.bool t280, .int .u64 t281, .int .u64 0, .int .i64 0]) ?_ 2 _ rfl; refine zL ?_; refine blk_put (cs := #[.bool t280, .int .u64 0, .int .u64 0, .int .i64 0]) ?_ 1 _ rfl; refine zL ?_; refine blk_put (cs := #[.bool false, .int .u64 0, .int .u64 0, .int .i64 0]) ?_ 0 _ rfl; refine zL ?_; exact BK285.out) hb); replace HB := Aside0.mk (below_step (zB HB) hb); (try clear hb)) | ((with_reducible refine gate_dst (N := 9) rfl ?_); refine zx 9 #[.bool false, .int .u64 0, .int .u64 0, .int .i64 0] 30 ?_; intro gb291 hg w91 hbox hb; have BK291 := Aside0.mk (hbox); have GW291 := Aside0.mk ((by rw [hg]; exact (below_size (zB HB)) : w.heap.size ≤ gb291)); have GE291 := Aside0.mk ((by rw [hg]; exact (below_size (zB HB)) : w.heap.size ≤ gb291)); replace HB := Aside0.mk (below_step (zB HB) hb); have NB274_291 := Aside0.mk ((by rw [hg]; exact Nat.ne_of_lt (blk_lt (g := gb274) (o := .cells #[.bool t270, .int .u64 t271, .int .u64 t272] 25 (0, 0)) (zK BK274)) : gb274 ≠ gb291)); have NB291_274 := Aside0.mk ((by rw [hg]; exact Nat.ne_of_gt (blk_lt (g := gb274) (o := .cells #[.bool t270, .int .u64 t271, .int .u64 t272] 25 (0, 0)) (zK BK274)) : gb291 ≠ gb274)); replace BK274 := Aside0.mk (blk_below (g := gb274) (o := .cells #[.bool t270, .int .u64 t271, .int .u64 t272] 25 (0, 0)) (zK BK274) hb); have NB279_291 := Aside0.mk ((by rw [hg]; exact Nat.ne_of_lt (blk_lt (g := gb279) (o := .cells #[.bool t275, .int .u64 t276, .int .u64 t277] 25 (0, 0)) (zK BK279)) : gb279 ≠ gb291)); have NB291_279 := Aside0.mk ((by rw [hg]; exact Nat.ne_of_gt (blk_lt (g := gb279) (o := .cells #[.bool t275, .int .u64 t276, .int .u64 t277] 25 (0, 0)) (zK BK279)) : gb291 ≠ gb279)); replace BK279 := Aside0.mk (blk_below (g := gb279) (o := .cells #[.bool t275, .int .u64 t276, .int .u64 t277] 25 (0, 0)) (zK BK279) hb); have NB285_291 := Aside0.mk ((by rw [hg]; exact Nat.ne_of_lt (blk_lt (g := gb285) (o := .cells #[.bool t280, .int .u64 t281, .int .u64 t282, .int .i64 t283] 30 (0, 0)) (zK BK285)) : gb285 ≠ gb291)); have NB291_285 := Aside0.mk ((by rw [hg]; exact Nat.ne_of_gt (blk_lt (g := gb285) (o := .cells #[.bool t280, .int .u64 t281, .int .u64 t282, .int .i64 t283] 30 (0, 0)) (zK BK285)) : gb291 ≠ gb285)); replace BK285 := Aside0.mk (blk_below (g := gb285) (o := .cells #[.bool t280, .int .u64 t281, .int .u64 t282, .int .i64 t283] 30 (0, 0)) (zK BK285) hb); clear hb hbox hg; have hnb92 := NB291_274.out; have hnc92 := NB274_291.out; have hnb93 := NB291_279.out; have hnc93 := NB279_291.out; have hnb94 := NB291_285.out; have hnc94 := NB285_291.out; obtain ⟨hcz95_0, hcz95_1, hcz95_2, hcz95_3⟩ := zc4 BK291; obtain ⟨hfz95_0, hfz95_1, hfz95_2, hfz95_3⟩ := zf4 BK291; obtain ⟨hcz96_0, hcz96_1, hcz96_2⟩ := zc3 BK274; obtain ⟨hfz96_0, hfz96_1, hfz96_2⟩ := zf3 BK274; obtain ⟨hcz97_0, hcz97_1, hcz97_2⟩ := zc3 BK279; obtain ⟨hfz97_0, hfz97_1, hfz97_2⟩ := zf3 BK279))
       go_ret
       exact ⟨by first | rfl | (simp [errW_none, errW_some] <;> rfl) | (simp [*, errW_none, errW_some] <;> rfl), by repeat (first | (with_reducible first | exact HB.out | apply below_alloc | apply pw_below_drewN | apply below_drew1 | refine below_set ?_ GE274.out | refine below_set ?_ GE279.out | refine below_set ?_ GE285.out | refine below_set ?_ GE291.out) | exact HB.out)⟩
   · rw [if_neg c9] at H
     have c9b0 : (t270 == t275 && (t271 == t276 && (t272 == t277))) = false := by simpa using c9
     (try (have c9b1 : decide (t270 = t275 && (t271 == t276 && (t272 == t277))) = false := by first | (simpa using c9) | exact decide_eq_true (Decidable.not_not.1 (fun hn => c9 (bne_iff_ne.2 hn))) | exact beq_iff_eq.2 (Decidable.not_not.1 (fun hn => c9 (bne_iff_ne.2 hn))) | exact decide_eq_false (bne_iff_ne.1 c9) | exact beq_eq_false_iff_ne.2 (bne_iff_ne.1 c9) | exact bne_iff_ne.1 c9))
     (try (have c9b2 : (t270 == t275 && (t271 == t276 && (t272 == t277))) = false := by first | (simpa using c9) | exact decide_eq_true (Decidable.not_not.1 (fun hn => c9 (bne_iff_ne.2 hn))) | exact beq_iff_eq.2 (Decidable.not_not.1 (fun hn => c9 (bne_iff_ne.2 hn))) | exact decide_eq_false (bne_iff_ne.1 c9) | exact beq_eq_false_iff_ne.2 (bne_iff_ne.1 c9) | exact bne_iff_ne.1 c9))
     (try (have c9b3 : ¬ (t270 = t275 && (t271 == t276 && (t272 == t277))) := by first | (simpa using c9) | exact decide_eq_true (Decidable.not_not.1 (fun hn => c9 (bne_iff_ne.2 hn))) | exact beq_iff_eq.2 (Decidable.not_not.1 (fun hn => c9 (bne_iff_ne.2 hn))) | exact decide_eq_false (bne_iff_ne.1 c9) | exact beq_eq_false_iff_ne.2 (bne_iff_ne.1 c9) | exact bne_iff_ne.1 c9))
     clear c9
     obtain rfl := Option.some.inj H
     go_enter Tryd.func3, Tryd.ntmps3
     go_wp2_with (first | ((with_reducible refine gate_callee (f := 11) rfl ?_); refine goesL_ (some 17) rfl rfl Tryd.func11 (by kernel_rfl) rfl #[.string a0] rfl (by (try simp only [List.map_toArray, List.map_cons, List.map_nil]); first | done | rfl | (simp only [List.length_drop, List.length_take]; rfl)) ?_; (with_reducible refine (address_Parse.calls k a0 t270 t271 t272 t273 _ A5.out (WOK.below hW_ (zB HB))).mono ?_); rintro e w98 ⟨rfl, hb⟩; refine ⟨_, rfl, ?_⟩; replace HB := Aside0.mk (below_step (zB HB) hb); (try clear hb)) | ((with_reducible refine gate_dst (N := 3) rfl ?_); refine zx 3 #[.bool false, .int .u64 0, .int .u64 0] 25 ?_; intro gb274 hg w99 hbox hb; have BK274 := Aside0.mk (hbox); have GW274 := Aside0.mk ((by rw [hg]; exact (below_size (zB HB)) : w.heap.size ≤ gb274)); have GE274 := Aside0.mk ((by rw [hg]; exact (below_size (zB HB)) : w.heap.size ≤ gb274)); replace HB := Aside0.mk (below_step (zB HB) hb); clear hb hbox hg; obtain ⟨hcz100_0, hcz100_1, hcz100_2⟩ := zc3 BK274; obtain ⟨hfz100_0, hfz100_1, hfz100_2⟩ := zf3 BK274) | ((with_reducible refine gate_callee (f := 12) rfl ?_); refine goesL_ (some 22) rfl rfl Tryd.func12 (by kernel_rfl) rfl #[.string a0] rfl (by (try simp only [List.map_toArray, List.map_cons, List.map_nil]); first | done | rfl | (simp only [List.length_drop, List.length_take]; rfl)) ?_; (with_reducible refine (intrusionref06_Parse.calls k a0 t275 t276 t277 t278 _ A6.out).mono ?_); rintro e w101 ⟨rfl, hb⟩; refine ⟨_, rfl, ?_⟩; replace BK274 := Aside0.mk (blk_below (g := gb274) (o := .cells #[.bool t270, .int .u64 t271, .int .u64 t272] 25 (0, 0)) (by refine zL ?_; refine blk_put (cs := #[.bool t270, .int .u64 t271, .int .u64 0]) ?_ 2 _ rfl; refine zL ?_; refine blk_put (cs := #[.bool t270, .int .u64 0, .int .u64 0]) ?_ 1 _ rfl; refine zL ?_; refine blk_put (cs := #[.bool false, .int .u64 0, .int .u64 0]) ?_ 0 _ rfl; refine zL ?_; exact BK274.out) hb); replace HB := Aside0.mk (below_step (zB HB) hb); (try clear hb)) | ((with_reducible refine gate_dst (N := 5) rfl ?_); refine zx 5 #[.bool false, .int .u64 0, .int .u64 0] 25 ?_; intro gb279 hg w102 hbox hb; have BK279 := Aside0.mk (hbox); have GW279 := Aside0.mk ((by rw [hg]; exact (below_size (zB HB)) : w.heap.size ≤ gb279)); have GE279 := Aside0.mk ((by rw [hg]; exact (below_size (zB HB)) : w.heap.size ≤ gb279)); replace HB := Aside0.mk (below_step (zB HB) hb); have NB274_279 := Aside0.mk ((by rw [hg]; exact Nat.ne_of_lt (blk_lt (g := gb274) (o := .cells #[.bool t270, .int .u64 t271, .int .u64 t272] 25 (0, 0)) (zK BK274)) : gb274 ≠ gb279)); have NB279_274 := Aside0.mk ((by rw [hg]; exact Nat.ne_of_gt (blk_lt (g := gb274) (o := .cells #[.bool t270, .int .u64 t271, .int .u64 t272] 25 (0, 0)) (zK BK274)) : gb279 ≠ gb274)); replace BK274 := Aside0.mk (blk_below (g := gb274) (o := .cells #[.bool t270, .int .u64 t271, .int .u64 t272] 25 (0, 0)) (zK BK274) hb); clear hb hbox hg; have hnb103 := NB279_274.out; have hnc103 := NB274_279.out; obtain ⟨hcz104_0, hcz104_1, hcz104_2⟩ := zc3 BK279; obtain ⟨hfz104_0, hfz104_1, hfz104_2⟩ := zf3 BK279) | ((with_reducible refine gate_callee (f := 13) rfl ?_); refine goesL_ (some 27) rfl rfl Tryd.func13 (by kernel_rfl) rfl #[.string a0] rfl (by (try simp only [List.map_toArray, List.map_cons, List.map_nil]); first | done | rfl | (simp only [List.length_drop, List.length_take]; rfl)) ?_; (with_reducible refine (address_ParsePrefix.calls k a0 t280 t281 t282 t283 t284 _ A7.out (WOK.below hW_ (zB HB))).mono ?_); rintro e w105 ⟨rfl, hb⟩; refine ⟨_, rfl, ?_⟩; replace BK274 := Aside0.mk (blk_below (g := gb274) (o := .cells #[.bool t270, .int .u64 t271, .int .u64 t272] 25 (0, 0)) (by refine zL ?_; refine blk_far ?_ NB274_279.out _; refine zL ?_; refine blk_far ?_ NB274_279.out _; refine zL ?_; refine blk_far ?_ NB274_279.out _; refine zL ?_; exact BK274.out) hb); replace BK279 := Aside0.mk (blk_below (g := gb279) (o := .cells #[.bool t275, .int .u64 t276, .int .u64 t277] 25 (0, 0)) (by refine zL ?_; refine blk_put (cs := #[.bool t275, .int .u64 t276, .int .u64 0]) ?_ 2 _ rfl; refine zL ?_; refine blk_put (cs := #[.bool t275, .int .u64 0, .int .u64 0]) ?_ 1 _ rfl; refine zL ?_; refine blk_put (cs := #[.bool false, .int .u64 0, .int .u64 0]) ?_ 0 _ rfl; refine zL ?_; exact BK279.out) hb); replace HB := Aside0.mk (below_step (zB HB) hb); (try clear hb)) | ((with_reducible refine gate_dst (N := 7) rfl ?_); refine zx 7 #[.bool false, .int .u64 0, .int .u64 0, .int .i64 0] 30 ?_; intro gb285 hg w106 hbox hb; have BK285 := Aside0.mk (hbox); have GW285 := Aside0.mk ((by rw [hg]; exact (below_size (zB HB)) : w.heap.size ≤ gb285)); have GE285 := Aside0.mk ((by rw [hg]; exact (below_size (zB HB)) : w.heap.size ≤ gb285)); replace HB := Aside0.mk (below_step (zB HB) hb); have NB274_285 := Aside0.mk ((by rw [hg]; exact Nat.ne_of_lt (blk_lt (g := gb274) (o := .cells #[.bool t270, .int .u64 t271, .int .u64 t272] 25 (0, 0)) (zK BK274)) : gb274 ≠ gb285)); have NB285_274 := Aside0.mk ((by rw [hg]; exact Nat.ne_of_gt (blk_lt (g := gb274) (o := .cells #[.bool t270, .int .u64 t271, .int .u64 t272] 25 (0, 0)) (zK BK274)) : gb285 ≠ gb274)); replace BK274 := Aside0.mk (blk_below (g := gb274) (o := .cells #[.bool t270, .int .u64 t271, .int .u64 t272] 25 (0, 0)) (zK BK274) hb); have NB279_285 := Aside0.mk ((by rw [hg]; exact Nat.ne_of_lt (blk_lt (g := gb279) (o := .cells #[.bool t275, .int .u64 t276, .int .u64 t277] 25 (0, 0)) (zK BK279)) : gb279 ≠ gb285)); have NB285_279 := Aside0.mk ((by rw [hg]; exact Nat.ne_of_gt (blk_lt (g := gb279) (o := .cells #[.bool t275, .int .u64 t276, .int .u64 t277] 25 (0, 0)) (zK BK279)) : gb285 ≠ gb279)); replace BK279 := Aside0.mk (blk_below (g := gb279) (o := .cells #[.bool t275, .int .u64 t276, .int .u64 t277] 25 (0, 0)) (zK BK279) hb); clear hb hbox hg; have hnb107 := NB285_274.out; have hnc107 := NB274_285.out; have hnb108 := NB285_279.out; have hnc108 := NB279_285.out; obtain ⟨hcz109_0, hcz109_1, hcz109_2, hcz109_3⟩ := zc4 BK285; obtain ⟨hfz109_0, hfz109_1, hfz109_2, hfz109_3⟩ := zf4 BK285) | ((with_reducible refine gate_callee (f := 14) rfl ?_); refine goesL_ (some 32) rfl rfl Tryd.func14 (by kernel_rfl) rfl #[.string a0] rfl (by (try simp only [List.map_toArray, List.map_cons, List.map_nil]); first | done | rfl | (simp only [List.length_drop, List.length_take]; rfl)) ?_; (with_reducible refine (intrusionref06_ParsePrefix.calls k a0 t286 t287 t288 t289 t290 _ A8.out).mono ?_); rintro e w110 ⟨rfl, hb⟩; refine ⟨_, rfl, ?_⟩; replace BK274 := Aside0.mk (blk_below (g := gb274) (o := .cells #[.bool t270, .int .u64 t271, .int .u64 t272] 25 (0, 0)) (by refine zL ?_; refine blk_far ?_ NB274_285.out _; refine zL ?_; refine blk_far ?_ NB274_285.out _; refine zL ?_; refine blk_far ?_ NB274_285.out _; refine zL ?_; refine blk_far ?_ NB274_285.out _; refine zL ?_; exact BK274.out) hb); replace BK279 := Aside0.mk (blk_below (g := gb279) (o := .cells #[.bool t275, .int .u64 t276, .int .u64 t277] 25 (0, 0)) (by refine zL ?_; refine blk_far ?_ NB279_285.out _; refine zL ?_; refine blk_far ?_ NB279_285.out _; refine zL ?_; refine blk_far ?_ NB279_285.out _; refine zL ?_; refine blk_far ?_ NB279_285.out _; refine zL ?_; exact BK279.out) hb); replace BK285 := Aside0.mk (blk_below (g := gb285) (o := .cells #[.bool t280, .int .u64 t281, .int .u64 t282, .int .i64 t283] 30 (0, 0)) (by refine zL ?_; refine blk_put (cs := #[.bool t280, .int .u64 t281, .int .u64 t282, .int .i64 0]) ?_ 3 _ rfl; refine zL ?_; refine blk_put (cs := #[.bool t280, .int .u64 t281, .int .u64 0, .int .i64 0]) ?_ 2 _ rfl; refine zL ?_; refine blk_put (cs := #[.bool t280, .int .u64 0, .int .u64 0, .int .i64 0]) ?_ 1 _ rfl; refine zL ?_; refine blk_put (cs := #[.bool false, .int .u64 0, .int .u64 0, .int .i64 0]) ?_ 0 _ rfl; refine zL ?_; exact BK285.out) hb); replace HB := Aside0.mk (below_step (zB HB) hb); (try clear hb)) | ((with_reducible refine gate_dst (N := 9) rfl ?_); refine zx 9 #[.bool false, .int .u64 0, .int .u64 0, .int .i64 0] 30 ?_; intro gb291 hg w111 hbox hb; have BK291 := Aside0.mk (hbox); have GW291 := Aside0.mk ((by rw [hg]; exact (below_size (zB HB)) : w.heap.size ≤ gb291)); have GE291 := Aside0.mk ((by rw [hg]; exact (below_size (zB HB)) : w.heap.size ≤ gb291)); replace HB := Aside0.mk (below_step (zB HB) hb); have NB274_291 := Aside0.mk ((by rw [hg]; exact Nat.ne_of_lt (blk_lt (g := gb274) (o := .cells #[.bool t270, .int .u64 t271, .int .u64 t272] 25 (0, 0)) (zK BK274)) : gb274 ≠ gb291)); have NB291_274 := Aside0.mk ((by rw [hg]; exact Nat.ne_of_gt (blk_lt (g := gb274) (o := .cells #[.bool t270, .int .u64 t271, .int .u64 t272] 25 (0, 0)) (zK BK274)) : gb291 ≠ gb274)); replace BK274 := Aside0.mk (blk_below (g := gb274) (o := .cells #[.bool t270, .int .u64 t271, .int .u64 t272] 25 (0, 0)) (zK BK274) hb); have NB279_291 := Aside0.mk ((by rw [hg]; exact Nat.ne_of_lt (blk_lt (g := gb279) (o := .cells #[.bool t275, .int .u64 t276, .int .u64 t277] 25 (0, 0)) (zK BK279)) : gb279 ≠ gb291)); have NB291_279 := Aside0.mk ((by rw [hg]; exact Nat.ne_of_gt (blk_lt (g := gb279) (o := .cells #[.bool t275, .int .u64 t276, .int .u64 t277] 25 (0, 0)) (zK BK279)) : gb291 ≠ gb279)); replace BK279 := Aside0.mk (blk_below (g := gb279) (o := .cells #[.bool t275, .int .u64 t276, .int .u64 t277] 25 (0, 0)) (zK BK279) hb); have NB285_291 := Aside0.mk ((by rw [hg]; exact Nat.ne_of_lt (blk_lt (g := gb285) (o := .cells #[.bool t280, .int .u64 t281, .int .u64 t282, .int .i64 t283] 30 (0, 0)) (zK BK285)) : gb285 ≠ gb291)); have NB291_285 := Aside0.mk ((by rw [hg]; exact Nat.ne_of_gt (blk_lt (g := gb285) (o := .cells #[.bool t280, .int .u64 t281, .int .u64 t282, .int .i64 t283] 30 (0, 0)) (zK BK285)) : gb291 ≠ gb285)); replace BK285 := Aside0.mk (blk_below (g := gb285) (o := .cells #[.bool t280, .int .u64 t281, .int .u64 t282, .int .i64 t283] 30 (0, 0)) (zK BK285) hb); clear hb hbox hg; have hnb112 := NB291_274.out; have hnc112 := NB274_291.out; have hnb113 := NB291_279.out; have hnc113 := NB279_291.out; have hnb114 := NB291_285.out; have hnc114 := NB285_291.out; obtain ⟨hcz115_0, hcz115_1, hcz115_2, hcz115_3⟩ := zc4 BK291; obtain ⟨hfz115_0, hfz115_1, hfz115_2, hfz115_3⟩ := zf4 BK291; obtain ⟨hcz116_0, hcz116_1, hcz116_2⟩ := zc3 BK274; obtain ⟨hfz116_0, hfz116_1, hfz116_2⟩ := zf3 BK274; obtain ⟨hcz117_0, hcz117_1, hcz117_2⟩ := zc3 BK279; obtain ⟨hfz117_0, hfz117_1, hfz117_2⟩ := zf3 BK279))
     go_ret
     exact ⟨by first | rfl | (simp [errW_none, errW_some] <;> rfl) | (simp [*, errW_none, errW_some] <;> rfl), by repeat (first | (with_reducible first | exact HB.out | apply below_alloc | apply pw_below_drewN | apply below_drew1 | refine below_set ?_ GE274.out | refine below_set ?_ GE279.out | refine below_set ?_ GE285.out | refine below_set ?_ GE291.out) | exact HB.out)⟩
end Go.Proofs.YtlgfinnldhjgeaaDoor.Q
end

section
set_option linter.unusedVariables false
set_option linter.unusedSimpArgs false
namespace Go.Proofs.YtlgfinnldhjgeaaDoor.Q
open Go.RowKit Go.Sort Go.Lib Go.Proofs.YtlgfinnldhjgeaaDoorW.PrintWords Go.Proofs.YtlgfinnldhjgeaaDoorW.PrintLast Go.Proofs.YtlgfinnldhjgeaaDoorW.PrintMore
def intrusionref06_Compare.f (a0_0 : Bool) (a0_1 : Int) (a0_2 : Int) (a1_0 : Bool) (a1_1 : Int) (a1_2 : Int) : Option (Int) := some (cmpA ⟨a0_0, a0_1, a0_2⟩ ⟨a1_0, a1_1, a1_2⟩)
end Go.Proofs.YtlgfinnldhjgeaaDoor.Q
end

section
set_option linter.unusedVariables false
set_option linter.unusedSimpArgs false
namespace Go.Proofs.YtlgfinnldhjgeaaDoor.Q
open Go.RowKit Go.Proofs.YtlgfinnldhjgeaaDoorW.PrintWords Go.Proofs.YtlgfinnldhjgeaaDoorW.PrintLast Go.Proofs.YtlgfinnldhjgeaaDoorW.PrintMore
def address_Previous.f (a0_0 : Bool) (a0_1 : Int) (a0_2 : Int) : Option (Bool × Int × Int × Bool) := if (a0_1 == 0 && (a0_2 == 0)) = true then (some (false, 0, 0, false)) else some (a0_0, (if a0_2 = 0 then IntKind.u64.wrap (a0_1 - 1) else a0_1), IntKind.u64.wrap (a0_2 - 1), true)
end Go.Proofs.YtlgfinnldhjgeaaDoor.Q
end

section
namespace Go.Proofs.YtlgfinnldhjgeaaDoor.Q
open Go.RowKit Go.Proofs.YtlgfinnldhjgeaaDoorW.PrintWords Go.Proofs.YtlgfinnldhjgeaaDoorW.PrintLast Go.Proofs.YtlgfinnldhjgeaaDoorW.PrintMore
attribute [local go_sem] max2_int min2_int max_two min_two max_three min_three max_four min_four
set_option linter.unusedVariables false
set_option linter.unusedSimpArgs false
def intrusionref06_Next.j0 : Nat → Bool → Bool → Int → Int → Option (Bool × Int × Int × Bool)
  | 0, _, _, _, _ => none
  | k + 1, x14, x294000, x294001, x294002 => if x14 = true then (if x294000 = true then (if x294002 = 0 then (if (IntKind.u64.wrap (x294001 + 1)) = 0 then (some (false, 0, 0, false)) else (some (x294000, IntKind.u64.wrap (x294001 + 1), x294002, true))) else (some (x294000, IntKind.u64.wrap (x294001 + 1), x294002, true))) else (if x294002 = 4294967296 then (some (false, 0, 0, false)) else (some (x294000, IntKind.u64.wrap (x294001 + 1), x294002, true)))) else (if x294000 = true then (if x294002 = 0 then (if x294001 = 0 then (some (false, 0, 0, false)) else (some (x294000, x294001, x294002, true))) else (some (x294000, x294001, x294002, true))) else (if x294002 = 4294967296 then (some (false, 0, 0, false)) else (some (x294000, x294001, x294002, true))))
def intrusionref06_Next.f (k : Nat) (a0_0 : Bool) (a0_1 : Int) (a0_2 : Int) : Option (Bool × Int × Int × Bool) := if a0_0 = true then (intrusionref06_Next.j0 k ((IntKind.u64.wrap (a0_2 + 1)) == 0) a0_0 a0_1 (IntKind.u64.wrap (a0_2 + 1))) else (intrusionref06_Next.j0 k false a0_0 a0_1 (IntKind.u64.wrap (a0_2 + 1)))
theorem intrusionref06_Next.mono_l : ∀ k, (∀ y0 y1 y2 y3, LeO (intrusionref06_Next.j0 k y0 y1 y2 y3) (intrusionref06_Next.j0 (k + 1) y0 y1 y2 y3))
  | 0 => fun _ _ _ _ r h => by simp [intrusionref06_Next.j0] at h
  | k + 1 => by
    have ih0 := intrusionref06_Next.mono_l k
    · intro y0 y1 y2 y3
      unfold intrusionref06_Next.j0
      repeat' first
      | (with_reducible exact ih0 _ _ _ _)
      | (with_reducible exact LeO.refl _)
      | (with_reducible exact LeO.none _)
      | (with_reducible refine LeO.ite ?_ ?_)
      | (with_reducible refine LeO.bind ?_ (fun _ => ?_))
      | exact ih0 _ _ _ _
      | exact LeO.none _
      | refine LeO.ite ?_ ?_
      | refine LeO.bind ?_ (fun _ => ?_)
theorem intrusionref06_Next.mono : ∀ a0 a1 a2 k, LeO (intrusionref06_Next.f k a0 a1 a2) (intrusionref06_Next.f (k + 1) a0 a1 a2) := by
  intro a0 a1 a2 k
  have ih0 := intrusionref06_Next.mono_l k
  unfold intrusionref06_Next.f
  repeat' first
      | (with_reducible exact ih0 _ _ _ _)
      | (with_reducible exact LeO.refl _)
      | (with_reducible exact LeO.none _)
      | (with_reducible refine LeO.ite ?_ ?_)
      | (with_reducible refine LeO.bind ?_ (fun _ => ?_))
      | exact ih0 _ _ _ _
      | exact LeO.none _
      | refine LeO.ite ?_ ?_
      | refine LeO.bind ?_ (fun _ => ?_)
end Go.Proofs.YtlgfinnldhjgeaaDoor.Q
end

section
namespace Go.Proofs.YtlgfinnldhjgeaaDoor.Q
open Go.RowKit Go.Proofs.YtlgfinnldhjgeaaDoorW.PrintWords Go.Proofs.YtlgfinnldhjgeaaDoorW.PrintLast Go.Proofs.YtlgfinnldhjgeaaDoorW.PrintMore
attribute [local go_sem] max2_int min2_int max_two min_two max_three min_three max_four min_four
set_option linter.unusedVariables false
set_option linter.unusedSimpArgs false
def intrusionref06_Previous.j0 : Nat → Bool → Bool → Int → Int → Option (Bool × Int × Int × Bool)
  | 0, _, _, _, _ => none
  | k + 1, x11, x296000, x296001, x296002 => if x11 = true then (some (false, 0, 0, false)) else (if x296002 = 0 then (some (x296000, IntKind.u64.wrap (x296001 - 1), IntKind.u64.wrap (x296002 - 1), true)) else (some (x296000, x296001, IntKind.u64.wrap (x296002 - 1), true)))
def intrusionref06_Previous.f (k : Nat) (a0_0 : Bool) (a0_1 : Int) (a0_2 : Int) : Option (Bool × Int × Int × Bool) := if a0_2 = 0 then (intrusionref06_Previous.j0 k (a0_1 == 0) a0_0 a0_1 a0_2) else (intrusionref06_Previous.j0 k false a0_0 a0_1 a0_2)
theorem intrusionref06_Previous.mono_l : ∀ k, (∀ y0 y1 y2 y3, LeO (intrusionref06_Previous.j0 k y0 y1 y2 y3) (intrusionref06_Previous.j0 (k + 1) y0 y1 y2 y3))
  | 0 => fun _ _ _ _ r h => by simp [intrusionref06_Previous.j0] at h
  | k + 1 => by
    have ih0 := intrusionref06_Previous.mono_l k
    · intro y0 y1 y2 y3
      unfold intrusionref06_Previous.j0
      repeat' first
      | (with_reducible exact ih0 _ _ _ _)
      | (with_reducible exact LeO.refl _)
      | (with_reducible exact LeO.none _)
      | (with_reducible refine LeO.ite ?_ ?_)
      | (with_reducible refine LeO.bind ?_ (fun _ => ?_))
      | exact ih0 _ _ _ _
      | exact LeO.none _
      | refine LeO.ite ?_ ?_
      | refine LeO.bind ?_ (fun _ => ?_)
theorem intrusionref06_Previous.mono : ∀ a0 a1 a2 k, LeO (intrusionref06_Previous.f k a0 a1 a2) (intrusionref06_Previous.f (k + 1) a0 a1 a2) := by
  intro a0 a1 a2 k
  have ih0 := intrusionref06_Previous.mono_l k
  unfold intrusionref06_Previous.f
  repeat' first
      | (with_reducible exact ih0 _ _ _ _)
      | (with_reducible exact LeO.refl _)
      | (with_reducible exact LeO.none _)
      | (with_reducible refine LeO.ite ?_ ?_)
      | (with_reducible refine LeO.bind ?_ (fun _ => ?_))
      | exact ih0 _ _ _ _
      | exact LeO.none _
      | refine LeO.ite ?_ ?_
      | refine LeO.bind ?_ (fun _ => ?_)
end Go.Proofs.YtlgfinnldhjgeaaDoor.Q
end

section
set_option linter.unusedVariables false
set_option linter.unusedSimpArgs false
namespace Go.Proofs.YtlgfinnldhjgeaaDoor.Q
open Go.RowKit Go.Proofs.YtlgfinnldhjgeaaDoorW.PrintWords Go.Proofs.YtlgfinnldhjgeaaDoorW.PrintLast Go.Proofs.YtlgfinnldhjgeaaDoorW.PrintMore
abbrev Ad := S25
def AW (a : Ad) : Prop := 0 ≤ a.f1 ∧ a.f1 < 18446744073709551616 ∧ 0 ≤ a.f2 ∧ a.f2 < 18446744073709551616
def AF (a : Ad) : Prop := AW a ∧ (a.f0 = true ∨ (a.f1 = 0 ∧ a.f2 ≤ 4294967295))
def fineB (a : Ad) : Bool := a.f0 || (decide (a.f1 = 0) && decide (a.f2 ≤ 4294967295))
theorem fine_eq (a : Ad) : address_Valid.f a.f0 a.f1 a.f2 = some (fineB a) := by
  unfold address_Valid.f fineB
  cases a.f0
  · by_cases h : a.f1 = 0 <;> simp [h]
  · simp
theorem rfine_eq (a : Ad) : intrusionref06_Valid.f a.f0 a.f1 a.f2 = some (fineB a) := by
  unfold intrusionref06_Valid.f fineB
  cases a.f0
  · by_cases h : a.f1 = 0
    · simp [h]; omega
    · simp [h]
  · simp
theorem fine_iff {a : Ad} (ha : AW a) : fineB a = true ↔ AF a := by
  unfold fineB AF
  simp only [Bool.or_eq_true, Bool.and_eq_true, decide_eq_true_eq]
  exact ⟨fun h => ⟨ha, h⟩, fun h => h.2⟩
theorem u64_id {n : Int} (h0 : 0 ≤ n) (h1 : n < 18446744073709551616) : IntKind.u64.wrap n = n := IntWalk.u64_in n ⟨h0, by omega⟩
instance decAd : DecidableEq Ad := fun a b => decidable_of_iff (a.f0 = b.f0 ∧ a.f1 = b.f1 ∧ a.f2 = b.f2) ⟨fun h => by cases a; cases b; simp at h; simp [h], fun h => by rw [h]; exact ⟨rfl, rfl, rfl⟩⟩
def nextA (a : Ad) : Ad := ⟨a.f0, if IntKind.u64.wrap (a.f2 + 1) = 0 then IntKind.u64.wrap (a.f1 + 1) else a.f1, IntKind.u64.wrap (a.f2 + 1)⟩
def topA (f : Bool) : Ad := if f then ⟨true, 18446744073709551615, 18446744073709551615⟩ else ⟨false, 0, 4294967295⟩
theorem next_eq (a : Ad) (h : AF a) : address_Next.f a.f0 a.f1 a.f2 = some (if a = topA a.f0 then (false, 0, 0, false) else ((nextA a).f0, (nextA a).f1, (nextA a).f2, true)) := by
  obtain ⟨a0, a1, a2⟩ := a
  have e : address_last.f a0 = some ((topA a0).f0, (topA a0).f1, (topA a0).f2) := by cases a0 <;> rfl
  unfold address_Next.f
  rw [e]
  simp only [Option.bind_some]
  have e2 : (a0 == (topA a0).f0 && (a1 == (topA a0).f1 && (a2 == (topA a0).f2))) = decide ((⟨a0, a1, a2⟩ : Ad) = topA a0) := by
    rw [Bool.eq_iff_iff]
    simp only [Bool.and_eq_true, beq_iff_eq, decide_eq_true_eq]
    constructor
    · rintro ⟨h1, h2, h3⟩
      cases a0 <;> simp [topA] at * <;> simp [h2, h3]
    · intro h
      rw [← h]
      exact ⟨rfl, rfl, rfl⟩
  rw [e2]
  by_cases c : (⟨a0, a1, a2⟩ : Ad) = topA a0
  · rw [if_pos (decide_eq_true c), if_pos c]
  · rw [if_neg (by simpa using c), if_neg c]
    unfold nextA
    by_cases d : IntKind.u64.wrap (a2 + 1) = 0
    · simp [d]
    · simp [d]
theorem ends_eq (x y : Ad) : (x.f0 == y.f0 && (x.f1 == y.f1 && x.f2 == y.f2)) = decide (x = y) := by
  obtain ⟨x0, x1, x2⟩ := x
  obtain ⟨y0, y1, y2⟩ := y
  rw [Bool.eq_iff_iff]
  simp only [Bool.and_eq_true, beq_iff_eq, decide_eq_true_eq, Ad, S25.mk.injEq]
end Go.Proofs.YtlgfinnldhjgeaaDoor.Q
end

section
set_option linter.unusedVariables false
set_option linter.unusedSimpArgs false
namespace Go.Proofs.YtlgfinnldhjgeaaDoor.Q
open Go.RowKit Go.Proofs.YtlgfinnldhjgeaaDoorW.PrintWords Go.Proofs.YtlgfinnldhjgeaaDoorW.PrintLast Go.Proofs.YtlgfinnldhjgeaaDoorW.PrintMore
def address_Bounds.f (a0_0 : Bool) (a0_1 : Int) (a0_2 : Int) (a0_3 : Int) : Option (Bool × Int × Int × Bool × Int × Int) := (address_mask.f a0_0 a0_1 a0_2 a0_3).bind fun bt => some (a0_0, a0_1, a0_2, a0_0, Go.bits .or .u64 a0_1 bt.1, Go.bits .or .u64 a0_2 bt.2)
end Go.Proofs.YtlgfinnldhjgeaaDoor.Q
end

section
namespace Go.Proofs.YtlgfinnldhjgeaaDoor.Q
open Go.RowKit Go.Proofs.YtlgfinnldhjgeaaDoorW.PrintWords Go.Proofs.YtlgfinnldhjgeaaDoorW.PrintLast Go.Proofs.YtlgfinnldhjgeaaDoorW.PrintMore
attribute [local go_sem] max2_int min2_int max_two min_two max_three min_three max_four min_four
set_option linter.unusedVariables false
set_option linter.unusedSimpArgs false
def address_MakePrefix.f (a0_0 : Bool) (a0_1 : Int) (a0_2 : Int) (a1 : Int) : Option (Bool × Int × Int × Int × Int) := if a1 < 0 then (some (false, 0, 0, 0, 4)) else ((address_size.f a0_0 a0_1 a0_2).bind fun t372 => (if a1 > t372 then (some (false, 0, 0, 0, 4)) else ((address_mask.f a0_0 a0_1 a0_2 a1).bind fun bt373 => (some (a0_0, Go.bits .andNot .u64 a0_1 bt373.1, Go.bits .andNot .u64 a0_2 bt373.2, a1, 0)))))
end Go.Proofs.YtlgfinnldhjgeaaDoor.Q
end

section
namespace Go.Proofs.YtlgfinnldhjgeaaDoor.Q
open Go.RowKit Go.Proofs.YtlgfinnldhjgeaaDoorW.PrintWords Go.Proofs.YtlgfinnldhjgeaaDoorW.PrintLast Go.Proofs.YtlgfinnldhjgeaaDoorW.PrintMore
attribute [local go_sem] max2_int min2_int max_two min_two max_three min_three max_four min_four
set_option linter.unusedVariables false
set_option linter.unusedSimpArgs false
def intrusionref06_MakePrefix.f (k : Nat) (a0_0 : Bool) (a0_1 : Int) (a0_2 : Int) (a1 : Int) : Option (Bool × Int × Int × Int × Int) := if a1 < 0 then (some (false, 0, 0, 0, 4)) else ((intrusionref06_Width.f a0_0 a0_1 a0_2).bind fun t299 => (if a1 > t299 then (some (false, 0, 0, 0, 4)) else ((intrusionref06_with.f k a0_0 a0_1 a0_2 a1 false).bind fun bt300 => (some (bt300.1, bt300.2.1, bt300.2.2, a1, 0)))))
theorem intrusionref06_MakePrefix.mono : ∀ a0 a1 a2 a3 k, LeO (intrusionref06_MakePrefix.f k a0 a1 a2 a3) (intrusionref06_MakePrefix.f (k + 1) a0 a1 a2 a3) := by
  intro a0 a1 a2 a3 k
  unfold intrusionref06_MakePrefix.f
  repeat' first
      | (with_reducible exact intrusionref06_with.mono _ _ _ _ _ _)
      | (with_reducible exact LeO.refl _)
      | (with_reducible exact LeO.none _)
      | (with_reducible refine LeO.ite ?_ ?_)
      | (with_reducible refine LeO.bind ?_ (fun _ => ?_))
      | exact intrusionref06_with.mono _ _ _ _ _ _
      | exact LeO.none _
      | refine LeO.ite ?_ ?_
      | refine LeO.bind ?_ (fun _ => ?_)
end Go.Proofs.YtlgfinnldhjgeaaDoor.Q
end

section
namespace Go.Proofs.YtlgfinnldhjgeaaDoor.Q
open Go.RowKit Go.Proofs.YtlgfinnldhjgeaaDoorW.PrintWords Go.Proofs.YtlgfinnldhjgeaaDoorW.PrintLast Go.Proofs.YtlgfinnldhjgeaaDoorW.PrintMore
attribute [local go_sem] max2_int min2_int max_two min_two max_three min_three max_four min_four
set_option linter.unusedVariables false
set_option linter.unusedSimpArgs false
attribute [local go_sem high] eqA25
def intrusionref06_Contains.f (k : Nat) (a0_0 : Bool) (a0_1 : Int) (a0_2 : Int) (a0_3 : Int) (a1_0 : Bool) (a1_1 : Int) (a1_2 : Int) : Option (Bool) := if (a0_0 == a1_0) = true then ((intrusionref06_with.f k a1_0 a1_1 a1_2 a0_3 false).bind fun bt305 => (some (bt305.1 == a0_0 && (bt305.2.1 == a0_1 && (bt305.2.2 == a0_2))))) else (some false)
theorem intrusionref06_Contains.mono : ∀ a0 a1 a2 a3 a4 a5 a6 k, LeO (intrusionref06_Contains.f k a0 a1 a2 a3 a4 a5 a6) (intrusionref06_Contains.f (k + 1) a0 a1 a2 a3 a4 a5 a6) := by
  intro a0 a1 a2 a3 a4 a5 a6 k
  unfold intrusionref06_Contains.f
  repeat' first
      | (with_reducible exact intrusionref06_with.mono _ _ _ _ _ _)
      | (with_reducible exact LeO.refl _)
      | (with_reducible exact LeO.none _)
      | (with_reducible refine LeO.ite ?_ ?_)
      | (with_reducible refine LeO.bind ?_ (fun _ => ?_))
      | exact intrusionref06_with.mono _ _ _ _ _ _
      | exact LeO.none _
      | refine LeO.ite ?_ ?_
      | refine LeO.bind ?_ (fun _ => ?_)
end Go.Proofs.YtlgfinnldhjgeaaDoor.Q
end

section
namespace Go.Proofs.YtlgfinnldhjgeaaDoor.Q
open Go.RowKit Go.Proofs.YtlgfinnldhjgeaaDoorW.PrintWords Go.Proofs.YtlgfinnldhjgeaaDoorW.PrintLast Go.Proofs.YtlgfinnldhjgeaaDoorW.PrintMore
attribute [local go_sem] max2_int min2_int max_two min_two max_three min_three max_four min_four
set_option linter.unusedVariables false
set_option linter.unusedSimpArgs false
def intrusionref06_Bounds.f (k : Nat) (a0_0 : Bool) (a0_1 : Int) (a0_2 : Int) (a0_3 : Int) : Option (Bool × Int × Int × Bool × Int × Int) := (intrusionref06_with.f k a0_0 a0_1 a0_2 a0_3 true).bind fun bt474 => (some (a0_0, a0_1, a0_2, bt474.1, bt474.2.1, bt474.2.2))
theorem intrusionref06_Bounds.mono : ∀ a0 a1 a2 a3 k, LeO (intrusionref06_Bounds.f k a0 a1 a2 a3) (intrusionref06_Bounds.f (k + 1) a0 a1 a2 a3) := by
  intro a0 a1 a2 a3 k
  unfold intrusionref06_Bounds.f
  repeat' first
      | (with_reducible exact intrusionref06_with.mono _ _ _ _ _ _)
      | (with_reducible exact LeO.refl _)
      | (with_reducible exact LeO.none _)
      | (with_reducible refine LeO.ite ?_ ?_)
      | (with_reducible refine LeO.bind ?_ (fun _ => ?_))
      | exact intrusionref06_with.mono _ _ _ _ _ _
      | exact LeO.none _
      | refine LeO.ite ?_ ?_
      | refine LeO.bind ?_ (fun _ => ?_)
end Go.Proofs.YtlgfinnldhjgeaaDoor.Q
end

section
set_option linter.unusedVariables false
set_option linter.unusedSimpArgs false
namespace Go.Proofs.YtlgfinnldhjgeaaDoor.Q
open Go.RowKit Go.Proofs.YtlgfinnldhjgeaaDoorW.PrintWords Go.Proofs.YtlgfinnldhjgeaaDoorW.PrintLast Go.Proofs.YtlgfinnldhjgeaaDoorW.PrintMore
theorem wid {x : Int} (h0 : -9223372036854775808 ≤ x) (h1 : x ≤ 9223372036854775807) : wrap64 x = x := by unfold wrap64; omega
theorem xor_one (q : Nat) : q ^^^ 1 = if q % 2 = 1 then q - 1 else q + 1 := by
  have a1 : (q ^^^ 1) / 2 = q / 2 := by
    have := @Nat.xor_div_two_pow q 1 1
    simpa using this
  have a2 : (q ^^^ 1) % 2 = 1 - q % 2 := by
    have := @Nat.xor_mod_two_pow q 1 1
    rw [show 2 ^ 1 = 2 from rfl] at this
    rw [this]
    rcases Nat.mod_two_eq_zero_or_one q with h | h <;> rw [h] <;> rfl
  by_cases h : q % 2 = 1
  · rw [if_pos h]; omega
  · rw [if_neg h]; omega
theorem xor_bit (n j : Nat) : n ^^^ 2 ^ j = if (n / 2 ^ j) % 2 = 1 then n - 2 ^ j else n + 2 ^ j := by
  have h1 : (n ^^^ 2 ^ j) % 2 ^ j = n % 2 ^ j := by rw [Nat.xor_mod_two_pow]; simp
  have h2 : (n ^^^ 2 ^ j) / 2 ^ j = (n / 2 ^ j) ^^^ 1 := by rw [Nat.xor_div_two_pow, Nat.div_self (Nat.pow_pos (by decide))]
  have d1 := Nat.div_add_mod (n ^^^ 2 ^ j) (2 ^ j)
  have d2 := Nat.div_add_mod n (2 ^ j)
  rw [h1, h2, xor_one] at d1
  by_cases h : (n / 2 ^ j) % 2 = 1
  · rw [if_pos h] at d1 ⊢
    have g : 0 < n / 2 ^ j := Nat.pos_of_ne_zero (fun e => by rw [e] at h; exact absurd h (by decide))
    generalize n / 2 ^ j = q at *
    generalize 2 ^ j = p at *
    rw [Nat.mul_sub, Nat.mul_one] at d1
    have : p ≤ p * q := Nat.le_mul_of_pos_right _ g
    omega
  · rw [if_neg h] at d1 ⊢
    rw [Nat.mul_add, Nat.mul_one] at d1
    omega
def setN (n k : Nat) (b : Bool) : Nat := n - n % 2 ^ k + (if b then 2 ^ k - 1 else 0)
def flipN (n j : Nat) (b : Bool) : Nat := if ((n / 2 ^ j) % 2 == 1) = b then n else n ^^^ 2 ^ j
theorem setN_flip (n j : Nat) (b : Bool) : setN (flipN n j b) j b = setN n (j + 1) b := by
  have hp : 0 < 2 ^ j := Nat.pow_pos (by decide)
  have d2 := Nat.div_add_mod n (2 ^ j)
  have hl := Nat.mod_lt n hp
  have e1 : n % 2 ^ (j + 1) = n % 2 ^ j + 2 ^ j * ((n / 2 ^ j) % 2) := by rw [Nat.pow_succ, Nat.mod_mul]
  have hle : n % 2 ^ (j + 1) ≤ n := Nat.mod_le _ _
  have f1 : ∀ q : Nat, (2 ^ j * q + n % 2 ^ j) % 2 ^ j = n % 2 ^ j := fun q => by rw [Nat.mul_add_mod]; exact Nat.mod_mod _ _
  unfold setN flipN
  rw [xor_bit, e1, Nat.pow_succ]
  have f2 := f1 (n / 2 ^ j - 1)
  have f3 := f1 (n / 2 ^ j + 1)
  generalize hq : n / 2 ^ j = q at *
  generalize hr : n % 2 ^ j = r at *
  generalize 2 ^ j = p at *
  rcases Nat.mod_two_eq_zero_or_one q with h | h
  · rw [h]
    cases b
    · simp [hr]
    · simp only [show ((0 : Nat) == 1) = false from rfl, Bool.false_eq_true, if_false, if_true, show ¬ (0 = 1) from by omega]
      rw [Nat.mul_add, Nat.mul_one] at f3
      rw [show p * q + p + r = n + p from by omega] at f3
      rw [f3]
      omega
  · rw [h]
    have hq1 : 0 < q := by omega
    have hpq : p ≤ p * q := Nat.le_mul_of_pos_right _ hq1
    cases b
    · simp only [show ((1 : Nat) == 1) = true from rfl, if_true, Bool.false_eq_true, if_false, reduceCtorEq]
      rw [Nat.mul_sub, Nat.mul_one] at f2
      rw [show p * q - p + r = n - p from by omega] at f2
      rw [f2]
      omega
    · simp only [show ((1 : Nat) == 1) = true from rfl, if_true]
      rw [hr]
      omega
theorem ofInt_toNat (x : Nat) (h : x < 18446744073709551616) : (BitVec.ofInt 64 (x : Int)).toNat = x := by
  rw [BitVec.toNat_ofInt]
  simp
  omega
theorem pow_le64 (n : Nat) (hn : n ≤ 64) : 2 ^ n ≤ 18446744073709551616 := Nat.le_trans (Nat.pow_le_pow_right (by decide) hn) (by decide)
theorem bits_and (x n : Nat) (hx : x < 18446744073709551616) (hn : n ≤ 64) : Go.bits .and .u64 (x : Int) ((2 ^ n - 1 : Nat) : Int) = ((x % 2 ^ n : Nat) : Int) := by
  have hp := pow_le64 n hn
  have hpos : 0 < 2 ^ n := Nat.pow_pos (by decide)
  unfold Go.bits
  show IntKind.u64.wrap ((((BitVec.ofInt 64 (x : Int)) &&& (BitVec.ofInt 64 ((2 ^ n - 1 : Nat) : Int))).toNat : Nat) : Int) = _
  rw [BitVec.toNat_and, ofInt_toNat x hx, ofInt_toNat _ (by omega), Nat.and_two_pow_sub_one_eq_mod]
  have := Nat.mod_le x (2 ^ n)
  exact u64_id (by omega) (by omega)
theorem shl_one (n : Nat) (hn : n < 64) : IntKind.u64.wrap ((shl .u64 1 (n : Int)) - 1) = ((2 ^ n - 1 : Nat) : Int) := by
  have hp : 2 ^ n ≤ 9223372036854775808 := Nat.le_trans (Nat.pow_le_pow_right (by decide) (show n ≤ 63 by omega)) (by decide)
  have hpos : 0 < 2 ^ n := Nat.pow_pos (by decide)
  have e : shl .u64 1 (n : Int) = ((2 ^ n : Nat) : Int) := by
    unfold shl
    rw [show min (n : Int).toNat IntKind.u64.bits = n from by show min n 64 = n; omega]
    rw [Int.one_mul, show (2 : Int) ^ n = ((2 ^ n : Nat) : Int) from by simp]
    exact u64_id (by omega) (by omega)
  rw [e]
  rw [u64_id (by omega) (by omega)]
  omega
def hiM (k : Nat) : Int := ((2 ^ (k - 64) - 1 : Nat) : Int)
def loM (k : Nat) : Int := ((2 ^ (min k 64) - 1 : Nat) : Int)
def szA (f : Bool) : Nat := if f then 128 else 32
theorem low_eq (n : Int) (h : n ≤ 1000) : address_low.f n = some (((2 ^ (min n.toNat 64) - 1 : Nat)) : Int) := by
  unfold address_low.f
  by_cases h1 : n ≥ 64
  · rw [if_pos h1, show min n.toNat 64 = 64 from by omega]
    rfl
  · rw [if_neg h1]
    by_cases h2 : n ≤ 0
    · rw [if_pos h2, show min n.toNat 64 = 0 from by omega]
      rfl
    · rw [if_neg h2, if_pos (by omega), show min n.toNat 64 = n.toNat from by omega]
      have := shl_one n.toNat (by omega)
      rw [show ((n.toNat : Nat) : Int) = n from by omega] at this
      rw [this]
theorem size_eq (a : Ad) : address_size.f a.f0 a.f1 a.f2 = some ((szA a.f0 : Nat) : Int) := by
  unfold address_size.f szA
  cases a.f0 <;> rfl
theorem mask_eq (a : Ad) (b : Int) (k : Nat) (hk : (k : Int) = (szA a.f0 : Int) - b) (h0 : 0 ≤ b) (h1 : b ≤ szA a.f0) : address_mask.f a.f0 a.f1 a.f2 b = some (hiM k, loM k) := by
  have hs : szA a.f0 ≤ 128 := by unfold szA; split <;> omega
  unfold address_mask.f
  rw [size_eq]
  simp only [Option.bind_some]
  rw [wid (x := (szA a.f0 : Int) - b) (by omega) (by omega), ← hk, wid (x := (k : Int) - 64) (by omega) (by omega), low_eq _ (by omega), low_eq _ (by omega)]
  simp only [Option.bind_some]
  unfold hiM loM
  rw [show min ((k : Int) - 64).toNat 64 = k - 64 from by omega, show min ((k : Nat) : Int).toNat 64 = min k 64 from by omega]
theorem setN_le {n k m : Nat} (b : Bool) (hn : n < 2 ^ m) (hk : k ≤ m) : setN n k b < 2 ^ m := by
  have hp : 0 < 2 ^ k := Nat.pow_pos (by decide)
  have d2 := Nat.div_add_mod n (2 ^ k)
  have hl := Nat.mod_lt n hp
  have e : 2 ^ m = 2 ^ k * 2 ^ (m - k) := by rw [← Nat.pow_add, show k + (m - k) = m from by omega]
  have h1 : n / 2 ^ k < 2 ^ (m - k) := Nat.div_lt_of_lt_mul (by rw [← e]; exact hn)
  have h2 : 2 ^ k * (n / 2 ^ k + 1) ≤ 2 ^ k * 2 ^ (m - k) := Nat.mul_le_mul_left _ h1
  rw [Nat.mul_add, Nat.mul_one, ← e] at h2
  unfold setN
  split <;> omega
theorem bits_xor (x j : Nat) (hx : x < 18446744073709551616) (hj : j < 64) : Go.bits .xor .u64 (x : Int) ((2 ^ j : Nat) : Int) = ((x ^^^ 2 ^ j : Nat) : Int) := by
  have hp : 2 ^ j < 18446744073709551616 := Nat.lt_of_le_of_lt (Nat.pow_le_pow_right (by decide) (show j ≤ 63 by omega)) (by decide)
  have hl : (x ^^^ 2 ^ j) < 2 ^ 64 := Nat.xor_lt_two_pow hx hp
  unfold Go.bits
  show IntKind.u64.wrap ((((BitVec.ofInt 64 (x : Int)) ^^^ (BitVec.ofInt 64 ((2 ^ j : Nat) : Int))).toNat : Nat) : Int) = _
  rw [BitVec.toNat_xor, ofInt_toNat x hx, ofInt_toNat _ hp]
  exact u64_id (by omega) (by omega)
theorem shl_pow (j : Nat) (hj : j < 64) : shl .u64 1 (j : Int) = ((2 ^ j : Nat) : Int) := by
  have hp : 2 ^ j < 18446744073709551616 := Nat.lt_of_le_of_lt (Nat.pow_le_pow_right (by decide) (show j ≤ 63 by omega)) (by decide)
  unfold shl
  rw [show min (j : Int).toNat IntKind.u64.bits = j from by show min j 64 = j; omega]
  rw [Int.one_mul, show (2 : Int) ^ j = ((2 ^ j : Nat) : Int) from by simp]
  exact u64_id (Int.natCast_nonneg _) (Int.ofNat_lt.2 hp)
theorem shr_bit (x j : Nat) (hx : x < 18446744073709551616) (hj : j < 64) : (Go.bits .and .u64 (shr .u64 (x : Int) (j : Int)) 1 == 1) = ((x / 2 ^ j) % 2 == 1) := by
  unfold shr
  rw [show min (j : Int).toNat IntKind.u64.bits = j from by show min j 64 = j; omega]
  rw [show (x : Int) / 2 ^ j = ((x / 2 ^ j : Nat) : Int) from by simp]
  have h := bits_and (x / 2 ^ j) 1 (Nat.lt_of_le_of_lt (Nat.div_le_self _ _) hx) (by decide)
  rw [show ((2 ^ 1 - 1 : Nat) : Int) = 1 from rfl] at h
  rw [h, show (2 : Nat) ^ 1 = 2 from rfl]
  rw [Bool.eq_iff_iff, beq_iff_eq, beq_iff_eq]
  omega
def nv (a : Ad) : Nat := a.f1.toNat * 18446744073709551616 + a.f2.toNat
def mkN (f : Bool) (n : Nat) : Ad := ⟨f, ((n / 18446744073709551616 : Nat) : Int), ((n % 18446744073709551616 : Nat) : Int)⟩
theorem mkN_nv {a : Ad} (h : AW a) : mkN a.f0 (nv a) = a := by
  obtain ⟨h1, h2, h3, h4⟩ := h
  obtain ⟨a0, a1, a2⟩ := a
  simp only at h1 h2 h3 h4
  unfold mkN nv
  simp only [Ad, S25.mk.injEq, true_and]
  exact ⟨by omega, by omega⟩
theorem nv_mkN (f : Bool) (n : Nat) : nv (mkN f n) = n := by unfold nv mkN; simp only [Int.toNat_natCast]; omega
theorem mkN_f0 (f : Bool) (n : Nat) : (mkN f n).f0 = f := rfl
theorem mkN_aw (f : Bool) {n : Nat} (h : n < 340282366920938463463374607431768211456) : AW (mkN f n) := by
  unfold AW mkN
  exact ⟨by simp; omega, by simp; omega, by simp; omega, by simp; omega⟩
theorem szA_cases (f : Bool) : szA f = 128 ∧ f = true ∨ szA f = 32 ∧ f = false := by cases f <;> simp [szA]
theorem AF.nvlt {a : Ad} (h : AF a) : nv a < 2 ^ szA a.f0 := by
  obtain ⟨⟨h1, h2, h3, h4⟩, h5⟩ := h
  unfold nv
  rcases szA_cases a.f0 with ⟨e, e2⟩ | ⟨e, e2⟩ <;> rw [e]
  · rw [show (2 : Nat) ^ 128 = 340282366920938463463374607431768211456 from by decide]; omega
  · rw [show (2 : Nat) ^ 32 = 4294967296 from by decide]
    rcases h5 with h5 | h5
    · rw [e2] at h5; cases h5
    · omega
theorem mkN_af {f : Bool} {n : Nat} (h : n < 2 ^ szA f) : AF (mkN f n) := by
  rcases szA_cases f with ⟨e, e2⟩ | ⟨e, e2⟩ <;> rw [e] at h
  · rw [show (2 : Nat) ^ 128 = 340282366920938463463374607431768211456 from by decide] at h
    exact ⟨mkN_aw f h, .inl e2⟩
  · rw [show (2 : Nat) ^ 32 = 4294967296 from by decide] at h
    exact ⟨mkN_aw f (by omega), .inr ⟨by unfold mkN; simp; omega, by unfold mkN; simp; omega⟩⟩
def subA (a : Ad) (k : Nat) (b : Bool) : Ad := mkN a.f0 (setN (nv a) k b)
theorem setN_parts (x y k : Nat) (hy : y < 18446744073709551616) (hk : k ≤ 128) (b : Bool) : setN (x * 18446744073709551616 + y) k b / 18446744073709551616 = setN x (k - 64) b ∧ setN (x * 18446744073709551616 + y) k b % 18446744073709551616 = setN y (min k 64) b := by
  by_cases h : k ≤ 64
  · rw [show k - 64 = 0 from by omega, show min k 64 = k from by omega]
    have e : 18446744073709551616 = 2 ^ k * 2 ^ (64 - k) := by rw [← Nat.pow_add, show k + (64 - k) = 64 from by omega]
    have hm : (x * 18446744073709551616 + y) % 2 ^ k = y % 2 ^ k := by
      rw [e, show x * (2 ^ k * 2 ^ (64 - k)) + y = 2 ^ k * (x * 2 ^ (64 - k)) + y from by rw [Nat.mul_left_comm], Nat.mul_add_mod]
    have hl := setN_le (m := 64) b hy h
    unfold setN at hl ⊢
    rw [hm]
    have hle := Nat.mod_le y (2 ^ k)
    have e0 : x % 2 ^ 0 = 0 := by rw [Nat.pow_zero]; omega
    rw [e0, Nat.pow_zero]
    generalize y % 2 ^ k = r at *
    generalize 2 ^ k = p at *
    rw [show (2 : Nat) ^ 64 = 18446744073709551616 from by decide] at hl
    cases b
    · simp only [Bool.false_eq_true, if_false] at hl ⊢
      omega
    · simp only [if_true] at hl ⊢
      omega
  · rw [show min k 64 = 64 from by omega]
    have e : 2 ^ k = 18446744073709551616 * 2 ^ (k - 64) := by rw [show 18446744073709551616 = 2 ^ 64 from by decide, ← Nat.pow_add, show 64 + (k - 64) = k from by omega]
    have hm : (x * 18446744073709551616 + y) % 2 ^ k = y + 18446744073709551616 * (x % 2 ^ (k - 64)) := by
      rw [e, Nat.mod_mul]
      rw [show (x * 18446744073709551616 + y) % 18446744073709551616 = y from by omega, show (x * 18446744073709551616 + y) / 18446744073709551616 = x from by omega]
    have hp : 0 < 2 ^ (k - 64) := Nat.pow_pos (by decide)
    unfold setN
    rw [hm, e, show y % 2 ^ 64 = y from Nat.mod_eq_of_lt hy]
    have hle := Nat.mod_le x (2 ^ (k - 64))
    generalize x % 2 ^ (k - 64) = r at *
    generalize 2 ^ (k - 64) = p at *
    rw [show (2 : Nat) ^ 64 = 18446744073709551616 from by decide]
    cases b
    · simp only [Bool.false_eq_true, if_false]
      omega
    · simp only [if_true]
      omega
theorem subA_eq {a : Ad} (h : AW a) {k : Nat} (hk : k ≤ 128) (b : Bool) : subA a k b = ⟨a.f0, ((setN a.f1.toNat (k - 64) b : Nat) : Int), ((setN a.f2.toNat (min k 64) b : Nat) : Int)⟩ := by
  obtain ⟨h1, h2, h3, h4⟩ := h
  have := setN_parts a.f1.toNat a.f2.toNat k (by omega) hk b
  unfold subA mkN nv
  rw [this.1, this.2]
end Go.Proofs.YtlgfinnldhjgeaaDoor.Q
end

section
namespace Go.Proofs.YtlgfinnldhjgeaaDoor.Q
open Go.RowKit Go.Proofs.YtlgfinnldhjgeaaDoorW.PrintWords Go.Proofs.YtlgfinnldhjgeaaDoorW.PrintLast Go.Proofs.YtlgfinnldhjgeaaDoorW.PrintMore
attribute [local go_sem] max2_int min2_int max_two min_two max_three min_three max_four min_four
set_option linter.unusedVariables false
set_option linter.unusedSimpArgs false
def address_value.l0 : Nat → ByteArray → Int → Int → Int → Option (Int)
  | 0, _, _, _, _ => none
  | k + 1, x0, x3, x6, x7 => if x7 < x6 then (if 0 ≤ x7 then (if x7 < (x0.size : Int) then (address_value.l0 k x0 (Go.bits .or .u64 (IntKind.u64.wrap (x3 * 256)) (IntKind.u64.wrap (bt x0 x7))) x6 (wrap64 (x7 + 1))) else (none)) else (none)) else (some x3)
def address_value.f (k : Nat) (a0 : ByteArray) : Option (Int) := address_value.l0 k a0 0 (a0.size : Int) 0
theorem address_value.mono_l : ∀ k, (∀ y0 y1 y2 y3, LeO (address_value.l0 k y0 y1 y2 y3) (address_value.l0 (k + 1) y0 y1 y2 y3))
  | 0 => fun _ _ _ _ r h => by simp [address_value.l0] at h
  | k + 1 => by
    have ih0 := address_value.mono_l k
    · intro y0 y1 y2 y3
      unfold address_value.l0
      repeat' first
      | (with_reducible exact ih0 _ _ _ _)
      | (with_reducible exact LeO.refl _)
      | (with_reducible exact LeO.none _)
      | (with_reducible refine LeO.ite ?_ ?_)
      | (with_reducible refine LeO.bind ?_ (fun _ => ?_))
      | exact ih0 _ _ _ _
      | exact LeO.none _
      | refine LeO.ite ?_ ?_
      | refine LeO.bind ?_ (fun _ => ?_)
theorem address_value.mono : ∀ a0 k, LeO (address_value.f k a0) (address_value.f (k + 1) a0) := by
  intro a0 k
  have ih0 := address_value.mono_l k
  unfold address_value.f
  repeat' first
      | (with_reducible exact ih0 _ _ _ _)
      | (with_reducible exact LeO.refl _)
      | (with_reducible exact LeO.none _)
      | (with_reducible refine LeO.ite ?_ ?_)
      | (with_reducible refine LeO.bind ?_ (fun _ => ?_))
      | exact ih0 _ _ _ _
      | exact LeO.none _
      | refine LeO.ite ?_ ?_
      | refine LeO.bind ?_ (fun _ => ?_)
end Go.Proofs.YtlgfinnldhjgeaaDoor.Q
end

section
namespace Go.Proofs.YtlgfinnldhjgeaaDoor.Q
open Go.RowKit Go.Proofs.YtlgfinnldhjgeaaDoorW.PrintWords Go.Proofs.YtlgfinnldhjgeaaDoorW.PrintLast Go.Proofs.YtlgfinnldhjgeaaDoorW.PrintMore
attribute [local go_sem] max2_int min2_int max_two min_two max_three min_three max_four min_four
set_option linter.unusedVariables false
set_option linter.unusedSimpArgs false
def address_FromBytes.f (k : Nat) (a0 : ByteArray) : Option (Bool × Int × Int × Int) := if (a0.size : Int) = 4 then ((address_value.f k a0).bind fun t400 => (some (false, 0, t400, 0))) else (if (a0.size : Int) = 16 then (if 0 ≤ 8 then (if 8 ≤ (a0.size : Int) then ((address_value.f k (a0.extract 0 8)).bind fun t401 => ((address_value.f k (a0.extract 8 a0.size)).bind fun t402 => (some (true, t401, t402, 0)))) else (none)) else (none)) else (some (false, 0, 0, 2)))
theorem address_FromBytes.mono : ∀ a0 k, LeO (address_FromBytes.f k a0) (address_FromBytes.f (k + 1) a0) := by
  intro a0 k
  unfold address_FromBytes.f
  repeat' first
      | (with_reducible exact address_value.mono _ _)
      | (with_reducible exact LeO.refl _)
      | (with_reducible exact LeO.none _)
      | (with_reducible refine LeO.ite ?_ ?_)
      | (with_reducible refine LeO.bind ?_ (fun _ => ?_))
      | exact address_value.mono _ _
      | exact LeO.none _
      | refine LeO.ite ?_ ?_
      | refine LeO.bind ?_ (fun _ => ?_)
end Go.Proofs.YtlgfinnldhjgeaaDoor.Q
end

section
namespace Go.Proofs.YtlgfinnldhjgeaaDoor.Q
open Go.RowKit Go.Proofs.YtlgfinnldhjgeaaDoorW.PrintWords Go.Proofs.YtlgfinnldhjgeaaDoorW.PrintLast Go.Proofs.YtlgfinnldhjgeaaDoorW.PrintMore
attribute [local go_sem] max2_int min2_int max_two min_two max_three min_three max_four min_four
set_option linter.unusedVariables false
set_option linter.unusedSimpArgs false
mutual
def intrusionref06_FromBytes.j0 : Nat → ByteArray → Bool → Option (Bool × Int × Int × Int)
  | 0, _, _ => none
  | k + 1, x0, x13 => if x13 = true then (some (false, 0, 0, 2)) else (intrusionref06_FromBytes.l0 k x0 0 ((x0.size : Int) == 16) 0 0)
def intrusionref06_FromBytes.l0 : Nat → ByteArray → Int → Bool → Int → Int → Option (Bool × Int × Int × Int)
  | 0, _, _, _, _, _ => none
  | k + 1, x0, x5, x405000, x405001, x405002 => if x5 < (x0.size : Int) then (if x405000 = true then (if x5 < 8 then (if 0 ≤ x5 then (intrusionref06_FromBytes.l0 k x0 (wrap64 (x5 + 1)) x405000 (Go.bits .or .u64 (IntKind.u64.wrap (x405001 * 256)) (IntKind.u64.wrap (bt x0 x5))) x405002) else (none)) else (if 0 ≤ x5 then (intrusionref06_FromBytes.l0 k x0 (wrap64 (x5 + 1)) x405000 x405001 (Go.bits .or .u64 (IntKind.u64.wrap (x405002 * 256)) (IntKind.u64.wrap (bt x0 x5)))) else (none))) else (if 0 ≤ x5 then (intrusionref06_FromBytes.l0 k x0 (wrap64 (x5 + 1)) x405000 x405001 (Go.bits .or .u64 (IntKind.u64.wrap (x405002 * 256)) (IntKind.u64.wrap (bt x0 x5)))) else (none))) else (some (x405000, x405001, x405002, 0))
end
def intrusionref06_FromBytes.f (k : Nat) (a0 : ByteArray) : Option (Bool × Int × Int × Int) := if (a0.size : Int) = 4 then (intrusionref06_FromBytes.j0 k a0 false) else (intrusionref06_FromBytes.j0 k a0 ((a0.size : Int) != 16))
theorem intrusionref06_FromBytes.mono_l : ∀ k, (∀ y0 y1, LeO (intrusionref06_FromBytes.j0 k y0 y1) (intrusionref06_FromBytes.j0 (k + 1) y0 y1)) ∧ (∀ y0 y1 y2 y3 y4, LeO (intrusionref06_FromBytes.l0 k y0 y1 y2 y3 y4) (intrusionref06_FromBytes.l0 (k + 1) y0 y1 y2 y3 y4))
  | 0 => ⟨fun _ _ r h => by simp [intrusionref06_FromBytes.j0] at h, fun _ _ _ _ _ r h => by simp [intrusionref06_FromBytes.l0] at h⟩
  | k + 1 => by
    obtain ⟨ih0, ih1⟩ := intrusionref06_FromBytes.mono_l k
    refine ⟨?_, ?_⟩
    · intro y0 y1
      unfold intrusionref06_FromBytes.j0
      repeat' first
      | (with_reducible exact ih0 _ _)
      | (with_reducible exact ih1 _ _ _ _ _)
      | (with_reducible exact LeO.refl _)
      | (with_reducible exact LeO.none _)
      | (with_reducible refine LeO.ite ?_ ?_)
      | (with_reducible refine LeO.bind ?_ (fun _ => ?_))
      | exact ih0 _ _
      | exact ih1 _ _ _ _ _
      | exact LeO.none _
      | refine LeO.ite ?_ ?_
      | refine LeO.bind ?_ (fun _ => ?_)
    · intro y0 y1 y2 y3 y4
      unfold intrusionref06_FromBytes.l0
      repeat' first
      | (with_reducible exact ih0 _ _)
      | (with_reducible exact ih1 _ _ _ _ _)
      | (with_reducible exact LeO.refl _)
      | (with_reducible exact LeO.none _)
      | (with_reducible refine LeO.ite ?_ ?_)
      | (with_reducible refine LeO.bind ?_ (fun _ => ?_))
      | exact ih0 _ _
      | exact ih1 _ _ _ _ _
      | exact LeO.none _
      | refine LeO.ite ?_ ?_
      | refine LeO.bind ?_ (fun _ => ?_)
theorem intrusionref06_FromBytes.mono : ∀ a0 k, LeO (intrusionref06_FromBytes.f k a0) (intrusionref06_FromBytes.f (k + 1) a0) := by
  intro a0 k
  obtain ⟨ih0, ih1⟩ := intrusionref06_FromBytes.mono_l k
  unfold intrusionref06_FromBytes.f
  repeat' first
      | (with_reducible exact ih0 _ _)
      | (with_reducible exact ih1 _ _ _ _ _)
      | (with_reducible exact LeO.refl _)
      | (with_reducible exact LeO.none _)
      | (with_reducible refine LeO.ite ?_ ?_)
      | (with_reducible refine LeO.bind ?_ (fun _ => ?_))
      | exact ih0 _ _
      | exact ih1 _ _ _ _ _
      | exact LeO.none _
      | refine LeO.ite ?_ ?_
      | refine LeO.bind ?_ (fun _ => ?_)
end Go.Proofs.YtlgfinnldhjgeaaDoor.Q
end

section
namespace Go.Proofs.YtlgfinnldhjgeaaDoor.Q
open Go.RowKit Go.Proofs.YtlgfinnldhjgeaaDoorW.PrintWords Go.Proofs.YtlgfinnldhjgeaaDoorW.PrintLast Go.Proofs.YtlgfinnldhjgeaaDoorW.PrintMore
attribute [local go_sem] max2_int min2_int max_two min_two max_three min_three max_four min_four
set_option linter.unusedVariables false
set_option linter.unusedSimpArgs false
def address_bytes.l0 : Nat → Int → Int → List Int → Int → Int → Option (ByteArray)
  | 0, _, _, _, _, _ => none
  | k + 1, x0, x1, x5, x7, x8 => if x8 < x7 then (if 0 ≤ (wrap64 (8 * (wrap64 ((wrap64 (x1 - 1)) - x8)))) then (if x5.length < 140737488355328 then (address_bytes.l0 k x0 x1 (x5 ++ [(shr .u64 x0 (wrap64 (8 * (wrap64 ((wrap64 (x1 - 1)) - x8))))) % 256]) x7 (wrap64 (x8 + 1))) else (none)) else (none)) else (some (strOfNums x5))
def address_bytes.f (k : Nat) (a0 : Int) (a1 : Int) : Option (ByteArray) := address_bytes.l0 k a0 a1 ([] : List Int) a1 0
theorem address_bytes.mono_l : ∀ k, (∀ y0 y1 y2 y3 y4, LeO (address_bytes.l0 k y0 y1 y2 y3 y4) (address_bytes.l0 (k + 1) y0 y1 y2 y3 y4))
  | 0 => fun _ _ _ _ _ r h => by simp [address_bytes.l0] at h
  | k + 1 => by
    have ih0 := address_bytes.mono_l k
    · intro y0 y1 y2 y3 y4
      unfold address_bytes.l0
      repeat' first
      | (with_reducible exact ih0 _ _ _ _ _)
      | (with_reducible exact LeO.refl _)
      | (with_reducible exact LeO.none _)
      | (with_reducible refine LeO.ite ?_ ?_)
      | (with_reducible refine LeO.bind ?_ (fun _ => ?_))
      | exact ih0 _ _ _ _ _
      | exact LeO.none _
      | refine LeO.ite ?_ ?_
      | refine LeO.bind ?_ (fun _ => ?_)
theorem address_bytes.mono : ∀ a0 a1 k, LeO (address_bytes.f k a0 a1) (address_bytes.f (k + 1) a0 a1) := by
  intro a0 a1 k
  have ih0 := address_bytes.mono_l k
  unfold address_bytes.f
  repeat' first
      | (with_reducible exact ih0 _ _ _ _ _)
      | (with_reducible exact LeO.refl _)
      | (with_reducible exact LeO.none _)
      | (with_reducible refine LeO.ite ?_ ?_)
      | (with_reducible refine LeO.bind ?_ (fun _ => ?_))
      | exact ih0 _ _ _ _ _
      | exact LeO.none _
      | refine LeO.ite ?_ ?_
      | refine LeO.bind ?_ (fun _ => ?_)
end Go.Proofs.YtlgfinnldhjgeaaDoor.Q
end

section
namespace Go.Proofs.YtlgfinnldhjgeaaDoor.Q
open Go.RowKit Go.Proofs.YtlgfinnldhjgeaaDoorW.PrintWords Go.Proofs.YtlgfinnldhjgeaaDoorW.PrintLast Go.Proofs.YtlgfinnldhjgeaaDoorW.PrintMore
attribute [local go_sem] max2_int min2_int max_two min_two max_three min_three max_four min_four
set_option linter.unusedVariables false
set_option linter.unusedSimpArgs false
def address_Bytes.f (k : Nat) (a0_0 : Bool) (a0_1 : Int) (a0_2 : Int) : Option (ByteArray) := if a0_0 = true then ((address_bytes.f k a0_1 8).bind fun t409 => ((address_bytes.f k a0_2 8).bind fun t410 => (if t409.size + t410.size ≤ 9223372036854775807 then (some (t409 ++ t410)) else (none)))) else ((address_bytes.f k a0_2 4).bind fun t411 => (some t411))
theorem address_Bytes.mono : ∀ a0 a1 a2 k, LeO (address_Bytes.f k a0 a1 a2) (address_Bytes.f (k + 1) a0 a1 a2) := by
  intro a0 a1 a2 k
  unfold address_Bytes.f
  repeat' first
      | (with_reducible exact address_bytes.mono _ _ _)
      | (with_reducible exact LeO.refl _)
      | (with_reducible exact LeO.none _)
      | (with_reducible refine LeO.ite ?_ ?_)
      | (with_reducible refine LeO.bind ?_ (fun _ => ?_))
      | exact address_bytes.mono _ _ _
      | exact LeO.none _
      | refine LeO.ite ?_ ?_
      | refine LeO.bind ?_ (fun _ => ?_)
end Go.Proofs.YtlgfinnldhjgeaaDoor.Q
end

section
namespace Go.Proofs.YtlgfinnldhjgeaaDoor.Q
open Go.RowKit Go.Proofs.YtlgfinnldhjgeaaDoorW.PrintWords Go.Proofs.YtlgfinnldhjgeaaDoorW.PrintLast Go.Proofs.YtlgfinnldhjgeaaDoorW.PrintMore
attribute [local go_sem] max2_int min2_int max_two min_two max_three min_three max_four min_four
set_option linter.unusedVariables false
set_option linter.unusedSimpArgs false
mutual
def intrusionref06_Bytes.l0 : Nat → List Int → Int → Bool → Int → Int → Option (ByteArray)
  | 0, _, _, _, _, _ => none
  | k + 1, x3, x4, x457000, x457001, x457002 => if x4 ≥ 0 then (if 0 ≤ (IntKind.u64.wrap (wrap64 (8 * x4))) then (if x3.length < 140737488355328 then (intrusionref06_Bytes.l0 k (x3 ++ [(shr .u64 x457001 (IntKind.u64.wrap (wrap64 (8 * x4)))) % 256]) (wrap64 (x4 - 1)) x457000 x457001 x457002) else (none)) else (none)) else (intrusionref06_Bytes.l1 k x3 7 x457000 x457001 x457002)
def intrusionref06_Bytes.l1 : Nat → List Int → Int → Bool → Int → Int → Option (ByteArray)
  | 0, _, _, _, _, _ => none
  | k + 1, x3, x5, x457000, x457001, x457002 => if x5 ≥ 0 then (if 0 ≤ (IntKind.u64.wrap (wrap64 (8 * x5))) then (if x3.length < 140737488355328 then (intrusionref06_Bytes.l1 k (x3 ++ [(shr .u64 x457002 (IntKind.u64.wrap (wrap64 (8 * x5)))) % 256]) (wrap64 (x5 - 1)) x457000 x457001 x457002) else (none)) else (none)) else (some (strOfNums x3))
def intrusionref06_Bytes.l2 : Nat → List Int → Int → Bool → Int → Int → Option (ByteArray)
  | 0, _, _, _, _, _ => none
  | k + 1, x3, x6, x457000, x457001, x457002 => if x6 ≥ 0 then (if 0 ≤ (IntKind.u64.wrap (wrap64 (8 * x6))) then (if x3.length < 140737488355328 then (intrusionref06_Bytes.l2 k (x3 ++ [(shr .u64 x457002 (IntKind.u64.wrap (wrap64 (8 * x6)))) % 256]) (wrap64 (x6 - 1)) x457000 x457001 x457002) else (none)) else (none)) else (some (strOfNums x3))
end
def intrusionref06_Bytes.f (k : Nat) (a0_0 : Bool) (a0_1 : Int) (a0_2 : Int) : Option (ByteArray) := if a0_0 = true then (intrusionref06_Bytes.l0 k ([] : List Int) 7 a0_0 a0_1 a0_2) else (intrusionref06_Bytes.l2 k ([] : List Int) 3 a0_0 a0_1 a0_2)
theorem intrusionref06_Bytes.mono_l : ∀ k, (∀ y0 y1 y2 y3 y4, LeO (intrusionref06_Bytes.l0 k y0 y1 y2 y3 y4) (intrusionref06_Bytes.l0 (k + 1) y0 y1 y2 y3 y4)) ∧ (∀ y0 y1 y2 y3 y4, LeO (intrusionref06_Bytes.l1 k y0 y1 y2 y3 y4) (intrusionref06_Bytes.l1 (k + 1) y0 y1 y2 y3 y4)) ∧ (∀ y0 y1 y2 y3 y4, LeO (intrusionref06_Bytes.l2 k y0 y1 y2 y3 y4) (intrusionref06_Bytes.l2 (k + 1) y0 y1 y2 y3 y4))
  | 0 => ⟨fun _ _ _ _ _ r h => by simp [intrusionref06_Bytes.l0] at h, fun _ _ _ _ _ r h => by simp [intrusionref06_Bytes.l1] at h, fun _ _ _ _ _ r h => by simp [intrusionref06_Bytes.l2] at h⟩
  | k + 1 => by
    obtain ⟨ih0, ih1, ih2⟩ := intrusionref06_Bytes.mono_l k
    refine ⟨?_, ?_, ?_⟩
    · intro y0 y1 y2 y3 y4
      unfold intrusionref06_Bytes.l0
      repeat' first
      | (with_reducible exact ih0 _ _ _ _ _)
      | (with_reducible exact ih1 _ _ _ _ _)
      | (with_reducible exact ih2 _ _ _ _ _)
      | (with_reducible exact LeO.refl _)
      | (with_reducible exact LeO.none _)
      | (with_reducible refine LeO.ite ?_ ?_)
      | (with_reducible refine LeO.bind ?_ (fun _ => ?_))
      | exact ih0 _ _ _ _ _
      | exact ih1 _ _ _ _ _
      | exact ih2 _ _ _ _ _
      | exact LeO.none _
      | refine LeO.ite ?_ ?_
      | refine LeO.bind ?_ (fun _ => ?_)
    · intro y0 y1 y2 y3 y4
      unfold intrusionref06_Bytes.l1
      repeat' first
      | (with_reducible exact ih0 _ _ _ _ _)
      | (with_reducible exact ih1 _ _ _ _ _)
      | (with_reducible exact ih2 _ _ _ _ _)
      | (with_reducible exact LeO.refl _)
      | (with_reducible exact LeO.none _)
      | (with_reducible refine LeO.ite ?_ ?_)
      | (with_reducible refine LeO.bind ?_ (fun _ => ?_))
      | exact ih0 _ _ _ _ _
      | exact ih1 _ _ _ _ _
      | exact ih2 _ _ _ _ _
      | exact LeO.none _
      | refine LeO.ite ?_ ?_
      | refine LeO.bind ?_ (fun _ => ?_)
    · intro y0 y1 y2 y3 y4
      unfold intrusionref06_Bytes.l2
      repeat' first
      | (with_reducible exact ih0 _ _ _ _ _)
      | (with_reducible exact ih1 _ _ _ _ _)
      | (with_reducible exact ih2 _ _ _ _ _)
      | (with_reducible exact LeO.refl _)
      | (with_reducible exact LeO.none _)
      | (with_reducible refine LeO.ite ?_ ?_)
      | (with_reducible refine LeO.bind ?_ (fun _ => ?_))
      | exact ih0 _ _ _ _ _
      | exact ih1 _ _ _ _ _
      | exact ih2 _ _ _ _ _
      | exact LeO.none _
      | refine LeO.ite ?_ ?_
      | refine LeO.bind ?_ (fun _ => ?_)
theorem intrusionref06_Bytes.mono : ∀ a0 a1 a2 k, LeO (intrusionref06_Bytes.f k a0 a1 a2) (intrusionref06_Bytes.f (k + 1) a0 a1 a2) := by
  intro a0 a1 a2 k
  obtain ⟨ih0, ih1, ih2⟩ := intrusionref06_Bytes.mono_l k
  unfold intrusionref06_Bytes.f
  repeat' first
      | (with_reducible exact ih0 _ _ _ _ _)
      | (with_reducible exact ih1 _ _ _ _ _)
      | (with_reducible exact ih2 _ _ _ _ _)
      | (with_reducible exact LeO.refl _)
      | (with_reducible exact LeO.none _)
      | (with_reducible refine LeO.ite ?_ ?_)
      | (with_reducible refine LeO.bind ?_ (fun _ => ?_))
      | exact ih0 _ _ _ _ _
      | exact ih1 _ _ _ _ _
      | exact ih2 _ _ _ _ _
      | exact LeO.none _
      | refine LeO.ite ?_ ?_
      | refine LeO.bind ?_ (fun _ => ?_)
end Go.Proofs.YtlgfinnldhjgeaaDoor.Q
end

section
set_option linter.unusedVariables false
set_option linter.unusedSimpArgs false
namespace Go.Proofs.YtlgfinnldhjgeaaDoor.Q
open Go.RowKit Go.Proofs.YtlgfinnldhjgeaaDoorW.PrintWords Go.Proofs.YtlgfinnldhjgeaaDoorW.PrintLast Go.Proofs.YtlgfinnldhjgeaaDoorW.PrintMore
theorem or_under (x b j : Nat) (hb : b < 2 ^ j) (hx : x * 2 ^ j + b < 18446744073709551616) : Go.bits .or .u64 (IntKind.u64.wrap ((x : Int) * ((2 ^ j : Nat) : Int))) (b : Int) = ((x * 2 ^ j + b : Nat) : Int) := by
  have h1 : IntKind.u64.wrap ((x : Int) * ((2 ^ j : Nat) : Int)) = ((x * 2 ^ j : Nat) : Int) := by
    rw [← Int.natCast_mul]
    exact u64_id (Int.natCast_nonneg _) (Int.ofNat_lt.2 (Nat.lt_of_le_of_lt (Nat.le_add_right _ _) hx))
  rw [h1]
  unfold Go.bits
  show IntKind.u64.wrap ((((BitVec.ofInt 64 ((x * 2 ^ j : Nat) : Int)) ||| (BitVec.ofInt 64 (b : Int))).toNat : Nat) : Int) = _
  rw [BitVec.toNat_or, ofInt_toNat _ (Nat.lt_of_le_of_lt (Nat.le_add_right _ _) hx), ofInt_toNat _ (Nat.lt_of_le_of_lt (Nat.le_add_left _ _) hx)]
  have := Nat.two_pow_add_eq_or_of_lt hb x
  rw [Nat.mul_comm] at this
  rw [← this]
  exact u64_id (Int.natCast_nonneg _) (Int.ofNat_lt.2 hx)
theorem or_256 (x b : Nat) (hb : b < 256) (hx : x * 256 + b < 18446744073709551616) : Go.bits .or .u64 (IntKind.u64.wrap ((x : Int) * 256)) (b : Int) = ((x * 256 + b : Nat) : Int) := or_under x b 8 hb hx
theorem bt_list (s : ByteArray) (i : Nat) (h : i < s.data.toList.length) : bt s (i : Int) = ((s.data.toList[i]'h).toNat : Int) := by
  have hs : i < s.size := by rw [Array.length_toList] at h; exact h
  unfold bt
  have e : ((i : Int)).toNat = i := Int.toNat_natCast i
  rw [dif_pos (by rw [e]; exact hs)]
  have : ∀ (j : Nat) (hj : j < s.size), j = i → s[j].toNat = (s.data.toList[i]'h).toNat := fun j hj e => by
    subst e
    rfl
  rw [this _ _ e]
theorem size_list (s : ByteArray) : s.size = s.data.toList.length := (Array.length_toList).symm
theorem up_i {i : Nat} (h : i < 1000) : wrap64 ((i : Int) + 1) = ((i + 1 : Nat) : Int) := by rw [wid (by omega) (by omega)]; omega
theorem extract_list (s : ByteArray) (a b : Nat) : (s.extract a b).data.toList = (s.data.toList.drop a).take (b - a) := by
  simp [ByteArray.data_extract, Array.toList_extract]
end Go.Proofs.YtlgfinnldhjgeaaDoor.Q
end

section
set_option linter.unusedVariables false
set_option linter.unusedSimpArgs false
namespace Go.Proofs.YtlgfinnldhjgeaaDoor.Q
open Go.RowKit Go.Proofs.YtlgfinnldhjgeaaDoorW.PrintWords Go.Proofs.YtlgfinnldhjgeaaDoorW.PrintLast Go.Proofs.YtlgfinnldhjgeaaDoorW.PrintMore
def mkB (l : List UInt8) : ByteArray := ⟨l.toArray⟩
theorem mkB_list (l : List UInt8) : (mkB l).data.toList = l := rfl
theorem mkB_of (s : ByteArray) : mkB s.data.toList = s := by
  apply ByteArray.ext
  simp [mkB]
theorem mkB_eq {s : ByteArray} {l : List UInt8} (h : s.data.toList = l) : s = mkB l := by rw [← h, mkB_of]
def spl (c : UInt8) : List UInt8 → List UInt8 → List (List UInt8)
  | cur, [] => [cur]
  | cur, x :: t => if x = c then cur :: spl c [] t else spl c (cur ++ [x]) t
theorem spl_cur (c : UInt8) : ∀ (t cur : List UInt8), ∃ h r, spl c [] t = h :: r ∧ spl c cur t = (cur ++ h) :: r
  | [], cur => ⟨[], [], rfl, by simp [spl]⟩
  | x :: t, cur => by
    by_cases hx : x = c
    · exact ⟨[], spl c [] t, by rw [spl, if_pos hx], by rw [spl, if_pos hx, List.append_nil]⟩
    · obtain ⟨h1, r1, e1, e2⟩ := spl_cur c t [x]
      obtain ⟨h2, r2, e3, e4⟩ := spl_cur c t (cur ++ [x])
      rw [e1] at e3
      injection e3 with g1 g2
      subst g1 g2
      refine ⟨[x] ++ h1, r1, ?_, ?_⟩
      · rw [spl, if_neg hx, List.nil_append, e2]
      · rw [spl, if_neg hx, e4, List.append_assoc]
theorem splitK_spl (c : UInt8) : ∀ (l : List UInt8), Lib.splitK [c] 0 (Lib.count l [c]) l = spl c [] l
  | [] => by
    unfold spl
    cases h : Lib.count [] [c] with
    | zero => rfl
    | succ n =>
      rw [Lib.count_one] at h
      simp at h
  | b :: l => by
    have ih := splitK_spl c l
    by_cases hb : b = c
    · subst hb
      rw [Lib.count_cons_eq, show 1 + Lib.count l [b] = Lib.count l [b] + 1 from Nat.add_comm _ _, Lib.splitK]
      have e : Lib.index (b :: l) [b] = 0 := Lib.index_first (i := 0) (Nat.zero_le _) (by simp [Lib.occAt, List.isPrefixOf]) (fun _ h => absurd h (Nat.not_lt_zero _))
      rw [e, if_neg (by decide), spl, if_pos rfl]
      show [] :: Lib.splitK [b] 0 (Lib.count l [b]) l = _
      rw [ih]
    · rw [Lib.count_cons_ne b c l hb, spl, if_neg hb, List.nil_append]
      obtain ⟨h, r, e1, e2⟩ := spl_cur c l [b]
      rw [e2]
      rw [e1] at ih
      have hno : ∀ j : Nat, Lib.occAt (b :: l) [c] (j + 1) = Lib.occAt l [c] j := fun j => rfl
      have hz : Lib.occAt (b :: l) [c] 0 = false := by
        unfold Lib.occAt
        simp [List.isPrefixOf]
        exact fun e => hb e.symm
      have hidx : Lib.index (b :: l) [c] = if Lib.index l [c] == -1 then -1 else Lib.index l [c] + 1 := by
        have := Lib.index_drop (s := b :: l) (sub := [c]) (i := 1) (fun j hj => by obtain rfl : j = 0 := (by omega); exact hz) (by simp)
        simpa using this
      cases hn : Lib.count l [c] with
      | zero =>
        rw [hn, Lib.splitK] at ih
        injection ih with g1 g2
        subst g1 g2
        rfl
      | succ n =>
        rw [hn, Lib.splitK] at ih
        rw [Lib.splitK, hidx]
        by_cases hi : (Lib.index l [c] == -1) = true
        · rw [if_pos hi] at ih ⊢
          injection ih with g1 g2
          subst g1 g2
          rfl
        · have hge := Lib.index_ge l [c]
          have hne : Lib.index l [c] ≠ -1 := fun e => hi (beq_iff_eq.2 e)
          rw [if_neg hi] at ih ⊢
          injection ih with g1 g2
          rw [if_neg (by rw [beq_iff_eq]; omega)]
          have e3 : (Lib.index l [c] + 1).toNat = (Lib.index l [c]).toNat + 1 := by omega
          rw [e3, ← g1, ← g2]
          rfl
theorem split_eq (s : ByteArray) (c : UInt8) (hs : s.size < 4294967281) : strings_Split.f s (⟨#[c]⟩ : ByteArray) = some ((spl c [] s.data.toList).map mkB) := by
  unfold strings_Split.f
  rw [if_pos hs, if_pos (show 1 ≤ (⟨#[c]⟩ : ByteArray).size from Nat.le_refl 1)]
  congr 1
  have h := Lib.splitB_data (⟨#[c]⟩ : ByteArray) 0 (Lib.countB s ⟨#[c]⟩) s
  have h2 : Lib.splitK [c] 0 (Lib.countB s ⟨#[c]⟩) s.data.toList = spl c [] s.data.toList := splitK_spl c s.data.toList
  have h3 : (Lib.splitB ⟨#[c]⟩ 0 (Lib.countB s ⟨#[c]⟩) s).map (·.data.toList) = spl c [] s.data.toList := h.trans h2
  rw [← h3, List.map_map]
  have : (mkB ∘ fun x : ByteArray => x.data.toList) = id := by
    funext x
    exact mkB_of x
  rw [this, List.map_id]
theorem extract_mk (s : ByteArray) (a b : Nat) : s.extract a b = mkB ((s.data.toList.drop a).take (b - a)) := mkB_eq (extract_list s a b)
theorem bt_u8 (s : ByteArray) (i : Nat) (h : i < s.data.toList.length) (c : UInt8) : bt s (i : Int) = ((c.toNat : Nat) : Int) ↔ s.data.toList[i]'h = c := by
  rw [bt_list s i h]
  constructor
  · intro e; apply UInt8.toNat_inj.1; omega
  · intro e; rw [e]
theorem rsplit0 (s : ByteArray) (c : UInt8) (hs : s.data.toList.length ≤ 100) : ∀ (d i f : Nat) (out : List (List UInt8)), s.data.toList.length - i = d → i ≤ s.data.toList.length → f ≤ i → out.length ≤ f → Ev (fun k => intrusionref06_Split.l0 k s ((c.toNat : Nat) : Int) (out.map mkB) (f : Int) (i : Int)) ((out ++ spl c ((s.data.toList.drop f).take (i - f)) (s.data.toList.drop i)).map mkB)
  | 0, i, f, out, hd, hi, hf, ho => by
    have e : i = s.data.toList.length := by omega
    refine Ev.step (f := fun k => intrusionref06_Split.l0 k s ((c.toNat : Nat) : Int) ((out.map mkB) ++ [s.extract f i]) ((i + 1 : Nat) : Int) ((i + 1 : Nat) : Int)) (fun k => ?_) ?_
    · rw [intrusionref06_Split.l0, size_list, if_pos (by omega), if_pos (by omega), if_pos (by omega), if_pos (by omega), if_pos (by rw [List.length_map]; omega), Int.toNat_natCast, Int.toNat_natCast, up_i (by omega)]
    · refine Ev.step (f := fun _ => some ((out.map mkB) ++ [s.extract f i])) (fun k => ?_) ?_
      · rw [intrusionref06_Split.l0, size_list, if_neg (by omega)]
      · rw [List.drop_of_length_le (show s.data.toList.length ≤ i by omega), spl, List.map_append, extract_mk]
        exact Ev.now _
  | d + 1, i, f, out, hd, hi, hf, ho => by
    have hl : i < s.data.toList.length := by omega
    have hsp : s.data.toList.drop i = s.data.toList[i] :: s.data.toList.drop (i + 1) := List.drop_eq_getElem_cons hl
    by_cases hc : s.data.toList[i] = c
    · have ih := rsplit0 s c hs d (i + 1) (i + 1) (out ++ [(s.data.toList.drop f).take (i - f)]) (by omega) (by omega) (by omega) (by rw [List.length_append]; simp; omega)
      rw [show (s.data.toList.drop (i + 1)).take (i + 1 - (i + 1)) = [] from by rw [Nat.sub_self, List.take_zero], List.append_assoc] at ih
      rw [hsp, spl, if_pos hc]
      refine Ev.step (fun k => ?_) ih
      rw [intrusionref06_Split.l0, size_list, if_pos (by omega), if_neg (by omega), if_pos (by omega), if_pos (by omega), if_pos ((bt_u8 s i hl c).2 hc), if_pos (by omega), if_pos (by omega), if_pos (by rw [List.length_map]; omega), Int.toNat_natCast, Int.toNat_natCast, up_i (by omega), extract_mk, List.map_append]
      rfl
    · have ih := rsplit0 s c hs d (i + 1) f out (by omega) (by omega) (by omega) ho
      have ht : (s.data.toList.drop f).take (i + 1 - f) = (s.data.toList.drop f).take (i - f) ++ [s.data.toList[i]] := by
        have hl2 : i - f < (s.data.toList.drop f).length := by rw [List.length_drop]; omega
        rw [show i + 1 - f = (i - f) + 1 from by omega, List.take_succ_eq_append_getElem hl2]
        congr 2
        rw [List.getElem_drop]
        congr 1
        omega
      rw [ht] at ih
      rw [hsp, spl, if_neg hc]
      refine Ev.step (fun k => ?_) ih
      rw [intrusionref06_Split.l0, size_list, if_pos (by omega), if_neg (by omega), if_pos (by omega), if_pos (by omega), if_neg (fun e => hc ((bt_u8 s i hl c).1 e)), up_i (by omega)]
theorem rsplit_ev (s : ByteArray) (c : UInt8) (hs : s.data.toList.length ≤ 100) : Ev (fun k => intrusionref06_Split.f k s ((c.toNat : Nat) : Int)) ((spl c [] s.data.toList).map mkB) := rsplit0 s c hs _ 0 0 [] rfl (by omega) (by omega) (by simp)
theorem rdOf_mk (L : List (List UInt8)) (i : Nat) (h : i < L.length) : rdOf ByteArray.empty (L.map mkB) (i : Int) = mkB (L[i]'h) := by
  unfold rdOf
  rw [Int.toNat_natCast, List.getD_eq_getElem?_getD, List.getElem?_map, List.getElem?_eq_getElem h]
  rfl
def numL : List UInt8 → Nat → Option Nat
  | [], n => some n
  | c :: t, n => if 48 ≤ c.toNat ∧ c.toNat ≤ 57 then numL t (10 * n + (c.toNat - 48)) else none
theorem numL_ge : ∀ (l : List UInt8) (n v : Nat), numL l n = some v → n * 10 ^ l.length ≤ v ∧ v < (n + 1) * 10 ^ l.length
  | [], n, v, h => by
    rw [numL] at h
    injection h with h
    simp
    omega
  | c :: t, n, v, h => by
    rw [numL] at h
    split at h
    · rename_i hc
      have := numL_ge t _ v h
      rw [List.length_cons, Nat.pow_succ]
      generalize 10 ^ t.length = p at *
      have e1 : n * (p * 10) = (10 * n) * p := by rw [Nat.mul_comm p 10, ← Nat.mul_assoc, Nat.mul_comm n 10]
      have e2 : (n + 1) * (p * 10) = (10 * n + 10) * p := by rw [Nat.mul_comm p 10, ← Nat.mul_assoc]; congr 1; omega
      have g1 : (10 * n) * p ≤ (10 * n + (c.toNat - 48)) * p := Nat.mul_le_mul_right _ (by omega)
      have g2 : (10 * n + (c.toNat - 48) + 1) * p ≤ (10 * n + 10) * p := Nat.mul_le_mul_right _ (by omega)
      omega
    · cases h
def canL (l : List UInt8) : Bool := !(l == []) && !(decide (1 < l.length) && l.head? == some 48)
def decL (l : List UInt8) : Option Nat := if canL l = true then numL l 0 else none
theorem dec_long {l : List UInt8} {v : Nat} (h : decL l = some v) (hl : 9 < l.length) : 1000 < v := by
  unfold decL at h
  split at h
  · rename_i hc
    cases l with
    | nil => simp at hl
    | cons c t =>
      unfold canL at hc
      have h1 : ¬ c = 48 := by
        intro e
        subst e
        simp at hc hl
        rw [hc] at hl
        simp at hl
      rw [numL] at h
      split at h
      · rename_i hd
        have h2 : c.toNat ≠ 48 := fun e => h1 (UInt8.toNat_inj.1 e)
        have := (numL_ge t _ v h).1
        have h3 := Nat.pow_le_pow_right (show 0 < 10 by decide) (show 9 ≤ t.length by simp at hl; omega)
        have h4 : 1 * 10 ^ t.length ≤ (10 * 0 + (c.toNat - 48)) * 10 ^ t.length := Nat.mul_le_mul_right _ (by omega)
        rw [show (10 : Nat) ^ 9 = 1000000000 from by decide] at h3
        have h5 := Nat.le_trans h4 this
        rw [Nat.one_mul] at h5
        exact Nat.lt_of_lt_of_le (by decide) (Nat.le_trans h3 h5)
      · cases h
  · cases h
theorem b48 {c : Nat} (h : 48 ≤ c) (h2 : c ≤ 57) : ((c : Int) - 48) % 256 = ((c - 48 : Nat) : Int) := by omega
theorem number0 (s : ByteArray) (most : Nat) (hs : s.data.toList.length ≤ 9) : ∀ (d i n : Nat), s.data.toList.length - i = d → i ≤ s.data.toList.length → n < 10 ^ i → Ev (fun k => address_number.l0 k s (most : Int) (n : Int) (s.data.toList.length : Int) (i : Int)) (match numL (s.data.toList.drop i) n with | none => ((0 : Int), false) | some v => ((v : Int), decide (v ≤ most)))
  | 0, i, n, hd, hi, hn => by
    rw [List.drop_of_length_le (by omega), numL]
    refine Ev.step (f := fun _ => some ((n : Int), decide (n ≤ most))) (fun k => ?_) (Ev.now _)
    rw [address_number.l0, if_neg (by omega)]
    congr 2
    rw [decide_eq_decide]
    omega
  | d + 1, i, n, hd, hi, hn => by
    have hl : i < s.data.toList.length := by omega
    have hsp : s.data.toList.drop i = s.data.toList[i] :: s.data.toList.drop (i + 1) := List.drop_eq_getElem_cons hl
    have hb := bt_list s i hl
    have hn9 := Nat.pow_le_pow_right (show 0 < 10 by decide) (show i ≤ 8 by omega)
    rw [show (10 : Nat) ^ 8 = 100000000 from by decide] at hn9
    rw [hsp, numL]
    by_cases hc : 48 ≤ (s.data.toList[i]).toNat ∧ (s.data.toList[i]).toNat ≤ 57
    · rw [if_pos hc]
      have ih := number0 s most hs d (i + 1) (10 * n + ((s.data.toList[i]).toNat - 48)) (by omega) (by omega) (by rw [Nat.pow_succ]; omega)
      refine Ev.step (fun k => ?_) ih
      rw [address_number.l0, if_pos (by omega), if_pos (by omega), if_pos (by rw [size_list]; omega), hb, if_neg (by omega), if_neg (by omega), b48 hc.1 hc.2, up_i (by omega), wid (x := (n : Int) * 10) (by omega) (by omega), wid (by omega) (by omega)]
      congr 1
      omega
    · rw [if_neg hc]
      refine Ev.step (f := fun _ => some ((0 : Int), false)) (fun k => ?_) (Ev.now _)
      rw [address_number.l0, if_pos (by omega), if_pos (by omega), if_pos (by rw [size_list]; omega), hb]
      by_cases c1 : ((s.data.toList[i]).toNat : Int) < 48
      · rw [if_pos c1]
      · rw [if_neg c1, if_pos (by omega)]
def upTo (l : List UInt8) (most : Nat) : Option Nat := match decL l with | none => none | some v => if v ≤ most then some v else none
theorem bt0 (s : ByteArray) (h : 0 < s.data.toList.length) : bt s 0 = 48 ↔ s.data.toList.head? = some 48 := by
  have := bt_u8 s 0 h 48
  rw [show ((0 : Nat) : Int) = 0 from rfl, show (((48 : UInt8).toNat : Nat) : Int) = 48 from rfl] at this
  rw [this]
  rw [List.head?_eq_getElem?, List.getElem?_eq_getElem h]
  simp
theorem number_ev (s : ByteArray) (most : Nat) (hm : most ≤ 1000) : ∃ r : Int × Bool, Ev (fun k => address_number.f k s (most : Int)) r ∧ r.2 = (upTo s.data.toList most).isSome ∧ (∀ v, upTo s.data.toList most = some v → r.1 = (v : Int)) := by
  have fail : ∀ (h : upTo s.data.toList most = none) (e : ∀ k, address_number.f (k + 1) s (most : Int) = some ((0 : Int), false)), ∃ r : Int × Bool, Ev (fun k => address_number.f k s (most : Int)) r ∧ r.2 = (upTo s.data.toList most).isSome ∧ (∀ v, upTo s.data.toList most = some v → r.1 = (v : Int)) := fun h e =>
    ⟨_, Ev.step (f := fun _ => some ((0 : Int), false)) e (Ev.now _), by rw [h]; rfl, fun v hv => by rw [h] at hv; cases hv⟩
  by_cases hn : s.data.toList = []
  · refine fail (by unfold upTo decL canL; rw [hn]; rfl) (fun k => ?_)
    unfold address_number.f
    rw [if_pos ((ByteArray.toList_eq s).trans hn), address_number.j0, if_pos rfl]
  · have hpos := List.length_pos_iff.2 hn
    have hne : ¬ s.toList = [] := fun e => hn ((ByteArray.toList_eq s).symm.trans e)
    by_cases h9 : 9 < s.data.toList.length
    · refine fail ?_ (fun k => ?_)
      · unfold upTo
        cases hd : decL s.data.toList with
        | none => rfl
        | some v =>
          have := dec_long hd h9
          exact if_neg (by omega)
      · unfold address_number.f
        rw [if_neg hne, if_pos (by rw [size_list]; omega), address_number.j0, if_pos rfl]
    · by_cases hz : s.data.toList.head? = some 48 ∧ 1 < s.data.toList.length
      · refine fail ?_ (fun k => ?_)
        · have hc : canL s.data.toList = false := by
            unfold canL
            rw [hz.1, decide_eq_true hz.2]
            simp
          unfold upTo decL
          rw [hc]
          rfl
        · unfold address_number.f
          rw [if_neg hne, if_neg (by rw [size_list]; omega), if_pos (by rw [size_list]; omega), if_pos ((bt0 s hpos).2 hz.1), decide_eq_true (by rw [size_list]; omega), address_number.j0, if_pos rfl]
      · have hcan : canL s.data.toList = true := by
          unfold canL
          rw [Bool.and_eq_true, Bool.not_eq_true', Bool.not_eq_true', beq_eq_false_iff_ne, Bool.and_eq_false_iff, decide_eq_false_iff_not, beq_eq_false_iff_ne]
          refine ⟨hn, ?_⟩
          by_cases h1 : 1 < s.data.toList.length
          · exact .inr (fun e => hz ⟨e, h1⟩)
          · exact .inl h1
        have ev := number0 s most (by omega) _ 0 0 rfl (by omega) (by decide)
        rw [List.drop_zero] at ev
        refine ⟨_, Ev.step (fun k => ?_) ev, ?_, ?_⟩
        · have hj : address_number.j0 (k + 1) s (most : Int) false = address_number.l0 k s (most : Int) ((0 : Nat) : Int) (s.data.toList.length : Int) ((0 : Nat) : Int) := by
            rw [address_number.j0, if_neg Bool.false_ne_true, size_list]
            rfl
          unfold address_number.f
          rw [if_neg hne, if_neg (by rw [size_list]; omega), if_pos (by rw [size_list]; omega)]
          by_cases h48 : bt s 0 = 48
          · have : ¬ ((s.size : Int) > 1) := by rw [size_list]; intro h; exact hz ⟨(bt0 s hpos).1 h48, by omega⟩
            rw [if_pos h48, decide_eq_false this]
            exact hj
          · rw [if_neg h48]
            exact hj
        · unfold upTo decL
          rw [if_pos hcan]
          cases numL s.data.toList 0 with
          | none => rfl
          | some v =>
            by_cases hv : v ≤ most
            · simp [hv]
            · simp [hv]
        · intro v hv
          unfold upTo decL at hv
          rw [if_pos hcan] at hv
          cases hu : numL s.data.toList 0 with
          | none => rw [hu] at hv; cases hv
          | some u =>
            rw [hu] at hv
            by_cases h : u ≤ most
            · simp [h] at hv
              rw [hv]
            · simp [h] at hv
end Go.Proofs.YtlgfinnldhjgeaaDoor.Q
end

section
set_option linter.unusedVariables false
set_option linter.unusedSimpArgs false
namespace Go.Proofs.YtlgfinnldhjgeaaDoor.Q
open Go.RowKit Go.Proofs.YtlgfinnldhjgeaaDoorW.PrintWords Go.Proofs.YtlgfinnldhjgeaaDoorW.PrintLast Go.Proofs.YtlgfinnldhjgeaaDoorW.PrintMore
theorem rdec0 (s : ByteArray) (most : Nat) (hm : most ≤ 1000) (hs : s.data.toList.length ≤ 100) : ∀ (d i n : Nat), s.data.toList.length - i = d → i ≤ s.data.toList.length → Ev (fun k => intrusionref06_Decimal.l0 k s (most : Int) ((min n (most + 1) : Nat) : Int) (i : Int)) (match numL (s.data.toList.drop i) n with | none => (-1 : Int) | some v => if v ≤ most then (v : Int) else -2)
  | 0, i, n, hd, hi => by
    rw [List.drop_of_length_le (by omega), numL]
    refine Ev.step (f := fun _ => some (if n ≤ most then (n : Int) else -2)) (fun k => ?_) (Ev.now _)
    rw [intrusionref06_Decimal.l0, size_list, if_neg (by omega)]
    by_cases h : n ≤ most
    · rw [if_pos h, if_neg (by omega)]
      congr 1
      omega
    · rw [if_neg h, if_pos (by omega)]
  | d + 1, i, n, hd, hi => by
    have hl : i < s.data.toList.length := by omega
    have hsp : s.data.toList.drop i = s.data.toList[i] :: s.data.toList.drop (i + 1) := List.drop_eq_getElem_cons hl
    have hb := bt_list s i hl
    rw [hsp, numL]
    by_cases hc : 48 ≤ (s.data.toList[i]).toNat ∧ (s.data.toList[i]).toNat ≤ 57
    · rw [if_pos hc]
      have ih := rdec0 s most hm hs d (i + 1) (10 * n + ((s.data.toList[i]).toNat - 48)) (by omega) (by omega)
      refine Ev.step (fun k => ?_) ih
      rw [intrusionref06_Decimal.l0, size_list, if_pos (by omega), if_pos (by omega), hb, if_neg (by omega), if_neg (by omega), up_i (i := i) (by omega)]
      rw [wid (x := 10 * ((min n (most + 1) : Nat) : Int)) (by omega) (by omega), wid (x := ((s.data.toList[i]).toNat : Int)) (by omega) (by omega), wid (x := 10 * ((min n (most + 1) : Nat) : Int) + _) (by omega) (by omega), wid (x := 10 * ((min n (most + 1) : Nat) : Int) + _ - 48) (by omega) (by omega), wid (x := (most : Int) + 1) (by omega) (by omega)]
      congr 1
      unfold mn
      split <;> omega
    · rw [if_neg hc]
      refine Ev.step (f := fun _ => some (-1 : Int)) (fun k => ?_) (Ev.now _)
      rw [intrusionref06_Decimal.l0, size_list, if_pos (by omega), if_pos (by omega), hb]
      by_cases c1 : ((s.data.toList[i]).toNat : Int) < 48
      · rw [if_pos c1]
      · rw [if_neg c1, if_pos (by omega)]
theorem can_iff (l : List UInt8) : canL l = true ↔ l ≠ [] ∧ ¬ (1 < l.length ∧ l.head? = some 48) := by
  unfold canL
  rw [Bool.and_eq_true, Bool.not_eq_true', Bool.not_eq_true', beq_eq_false_iff_ne, Bool.and_eq_false_iff, decide_eq_false_iff_not, beq_eq_false_iff_ne]
  constructor
  · rintro ⟨h1, h2 | h2⟩
    · exact ⟨h1, fun h => h2 h.1⟩
    · exact ⟨h1, fun h => h2 h.2⟩
  · rintro ⟨h1, h2⟩
    refine ⟨h1, ?_⟩
    by_cases h : 1 < l.length
    · exact .inr (fun e => h2 ⟨h, e⟩)
    · exact .inl h
def decR (l : List UInt8) (most : Nat) : Int := match decL l with | none => -1 | some v => if v ≤ most then (v : Int) else -2
theorem rdec_ev (s : ByteArray) (most : Nat) (hm : most ≤ 1000) (hs : s.data.toList.length ≤ 100) : Ev (fun k => intrusionref06_Decimal.f k s (most : Int)) (decR s.data.toList most) := by
  have h0 := rdec0 s most hm hs _ 0 0 rfl (by omega)
  rw [List.drop_zero] at h0
  have hj : ∀ k, intrusionref06_Decimal.j0 (k + 1) s (most : Int) false = intrusionref06_Decimal.l0 k s (most : Int) ((min 0 (most + 1) : Nat) : Int) ((0 : Nat) : Int) := fun k => by
    rw [intrusionref06_Decimal.j0, if_neg Bool.false_ne_true, Nat.zero_min]
    rfl
  by_cases hc : canL s.data.toList = true
  · have hr : decR s.data.toList most = (match numL s.data.toList 0 with | none => (-1 : Int) | some v => if v ≤ most then (v : Int) else -2) := by
      unfold decR decL
      rw [if_pos hc]
    rw [hr]
    obtain ⟨hne, h48⟩ := (can_iff _).1 hc
    have hpos := List.length_pos_iff.2 hne
    refine Ev.step (fun k => ?_) h0
    unfold intrusionref06_Decimal.f
    rw [size_list, if_neg (by omega)]
    by_cases h1 : (s.data.toList.length : Int) > 1
    · have hb : (bt s 0 == 48) = false := beq_eq_false_iff_ne.2 (fun e => h48 ⟨by omega, (bt0 s hpos).1 e⟩)
      rw [if_pos h1, if_pos (by omega), hb]
      exact hj k
    · rw [if_neg h1]
      exact hj k
  · have hr : decR s.data.toList most = -1 := by
      unfold decR decL
      rw [if_neg hc]
    rw [hr]
    refine Ev.step (f := fun _ => some (-1 : Int)) (fun k => ?_) (Ev.now _)
    have hjt : intrusionref06_Decimal.j0 (k + 1) s (most : Int) true = some (-1 : Int) := by rw [intrusionref06_Decimal.j0, if_pos rfl]
    unfold intrusionref06_Decimal.f
    rw [size_list]
    by_cases hn : s.data.toList = []
    · rw [if_pos (by rw [hn]; rfl)]
      exact hjt
    · have hpos := List.length_pos_iff.2 hn
      have h48 : 1 < s.data.toList.length ∧ s.data.toList.head? = some 48 := by
        by_cases h : 1 < s.data.toList.length ∧ s.data.toList.head? = some 48
        · exact h
        · exact absurd ((can_iff _).2 ⟨hn, h⟩) hc
      rw [if_neg (by omega), if_pos (by omega), if_pos (by omega), (bt0 s hpos).2 h48.2]
      exact hjt
theorem dig_mn {n q c : Nat} (hq : min n 1000 = q) (h1 : 48 ≤ c) (h2 : c ≤ 57) : mn 1000 ((q : Int) * 10 + ((c - 48 : Nat) : Int)) = ((min (10 * n + (c - 48)) 1000 : Nat) : Int) := by
  unfold mn
  split <;> omega
theorem dig0 (s : ByteArray) (hs : s.data.toList.length ≤ 100) : ∀ (d i n : Nat), s.data.toList.length - i = d → i ≤ s.data.toList.length → Ev (fun k => address_digits.l0 k s ((min n 1000 : Nat) : Int) (s.data.toList.length : Int) (i : Int)) (match numL (s.data.toList.drop i) n with | none => ((0 : Int), false) | some v => (((min v 1000 : Nat) : Int), true))
  | 0, i, n, hd, hi => by
    rw [List.drop_of_length_le (by omega), numL]
    refine Ev.step (f := fun _ => some (((min n 1000 : Nat) : Int), true)) (fun k => ?_) (Ev.now _)
    rw [address_digits.l0, if_neg (by omega)]
  | d + 1, i, n, hd, hi => by
    have hl : i < s.data.toList.length := by omega
    have hsp : s.data.toList.drop i = s.data.toList[i] :: s.data.toList.drop (i + 1) := List.drop_eq_getElem_cons hl
    have hb := bt_list s i hl
    rw [hsp, numL]
    by_cases hc : 48 ≤ (s.data.toList[i]).toNat ∧ (s.data.toList[i]).toNat ≤ 57
    · rw [if_pos hc]
      have ih := dig0 s hs d (i + 1) (10 * n + ((s.data.toList[i]).toNat - 48)) (by omega) (by omega)
      refine Ev.step (fun k => ?_) ih
      generalize hq : min n 1000 = q
      have hq2 : q ≤ 1000 := by omega
      rw [address_digits.l0, if_pos (by omega), if_pos (by omega), if_pos (by rw [size_list]; omega), hb, if_neg (by omega), if_neg (by omega), up_i (i := i) (by omega), b48 hc.1 hc.2, wid (x := (q : Int) * 10) (by omega) (by omega), wid (x := (q : Int) * 10 + _) (by omega) (by omega)]
      exact congrArg (fun z => address_digits.l0 k s z (s.data.toList.length : Int) ((i + 1 : Nat) : Int)) (dig_mn hq hc.1 hc.2)
    · rw [if_neg hc]
      refine Ev.step (f := fun _ => some ((0 : Int), false)) (fun k => ?_) (Ev.now _)
      rw [address_digits.l0, if_pos (by omega), if_pos (by omega), if_pos (by rw [size_list]; omega), hb]
      by_cases c1 : ((s.data.toList[i]).toNat : Int) < 48
      · rw [if_pos c1]
      · rw [if_neg c1, if_pos (by omega)]
def digV (l : List UInt8) : Int × Bool := match decL l with | none => (0, false) | some v => (((min v 1000 : Nat) : Int), true)
theorem dig_ev (s : ByteArray) (hs : s.data.toList.length ≤ 100) : Ev (fun k => address_digits.f k s) (digV s.data.toList) := by
  have h0 := dig0 s hs _ 0 0 rfl (by omega)
  rw [List.drop_zero] at h0
  have hj : ∀ k, address_digits.j0 (k + 1) s false = address_digits.l0 k s ((min 0 1000 : Nat) : Int) (s.data.toList.length : Int) ((0 : Nat) : Int) := fun k => by
    rw [address_digits.j0, if_neg Bool.false_ne_true, size_list, Nat.zero_min]
    rfl
  by_cases hc : canL s.data.toList = true
  · have hr : digV s.data.toList = (match numL s.data.toList 0 with | none => ((0 : Int), false) | some v => (((min v 1000 : Nat) : Int), true)) := by
      unfold digV decL
      rw [if_pos hc]
    rw [hr]
    obtain ⟨hne, h48⟩ := (can_iff _).1 hc
    have hpos := List.length_pos_iff.2 hne
    refine Ev.step (fun k => ?_) h0
    unfold address_digits.f
    rw [if_neg (fun e => hne ((ByteArray.toList_eq s).symm.trans e)), if_pos (by rw [size_list]; omega)]
    by_cases hb : bt s 0 = 48
    · have : ¬ ((s.size : Int) > 1) := by rw [size_list]; intro h; exact h48 ⟨by omega, (bt0 s hpos).1 hb⟩
      rw [if_pos hb, decide_eq_false this]
      exact hj k
    · rw [if_neg hb]
      exact hj k
  · have hr : digV s.data.toList = (0, false) := by
      unfold digV decL
      rw [if_neg hc]
    rw [hr]
    refine Ev.step (f := fun _ => some ((0 : Int), false)) (fun k => ?_) (Ev.now _)
    have hjt : address_digits.j0 (k + 1) s true = some ((0 : Int), false) := by rw [address_digits.j0, if_pos rfl]
    unfold address_digits.f
    by_cases hn : s.data.toList = []
    · rw [if_pos ((ByteArray.toList_eq s).trans hn)]
      exact hjt
    · have hpos := List.length_pos_iff.2 hn
      have h48 : 1 < s.data.toList.length ∧ s.data.toList.head? = some 48 := by
        by_cases h : 1 < s.data.toList.length ∧ s.data.toList.head? = some 48
        · exact h
        · exact absurd ((can_iff _).2 ⟨hn, h⟩) hc
      rw [if_neg (fun e => hn ((ByteArray.toList_eq s).symm.trans e)), if_pos (by rw [size_list]; omega), if_pos ((bt0 s hpos).2 h48.2), decide_eq_true (by rw [size_list]; omega)]
      exact hjt
def hexV (c : Nat) : Option Nat := if 48 ≤ c ∧ c ≤ 57 then some (c - 48) else if 65 ≤ c ∧ c ≤ 70 then some (c - 55) else if 97 ≤ c ∧ c ≤ 102 then some (c - 87) else none
theorem hexV_lt {c v : Nat} (h : hexV c = some v) : v < 16 := by
  unfold hexV at h
  split at h
  · injection h with h; omega
  · split at h
    · injection h with h; omega
    · split at h
      · injection h with h; omega
      · cases h
def hxL : List UInt8 → Nat → Option Nat
  | [], n => some n
  | c :: t, n => match hexV c.toNat with | none => none | some v => hxL t (n * 16 + v)
theorem hxL_lt : ∀ (l : List UInt8) (n v : Nat), hxL l n = some v → v < (n + 1) * 16 ^ l.length
  | [], n, v, h => by
    rw [hxL] at h
    injection h with h
    simp
    omega
  | c :: t, n, v, h => by
    rw [hxL] at h
    cases hv : hexV c.toNat with
    | none => rw [hv] at h; cases h
    | some x =>
      rw [hv] at h
      have hx := hexV_lt hv
      have := hxL_lt t _ v h
      rw [List.length_cons, Nat.pow_succ]
      generalize 16 ^ t.length = p at *
      have e2 : (n + 1) * (p * 16) = (16 * n + 16) * p := by rw [Nat.mul_comm p 16, ← Nat.mul_assoc]; congr 1; omega
      have g2 : (n * 16 + x + 1) * p ≤ (16 * n + 16) * p := Nat.mul_le_mul_right _ (by omega)
      omega
def grpV (l : List UInt8) : Option Nat := if l ≠ [] ∧ l.length ≤ 4 then hxL l 0 else none
theorem grpV_lt {l : List UInt8} {v : Nat} (h : grpV l = some v) : v < 65536 := by
  unfold grpV at h
  split at h
  · rename_i hc
    have := hxL_lt l 0 v h
    have h2 := Nat.pow_le_pow_right (show 0 < 16 by decide) hc.2
    rw [show (16 : Nat) ^ 4 = 65536 from by decide] at h2
    omega
  · cases h
theorem or_16 {x b : Nat} (hb : b < 16) (hx : x * 16 + b < 18446744073709551616) : Go.bits .or .u64 (IntKind.u64.wrap ((x : Int) * 16)) (b : Int) = ((x * 16 + b : Nat) : Int) := or_under x b 4 hb hx
theorem agroup0 (s : ByteArray) (hs : s.data.toList.length ≤ 4) : ∀ (d i n : Nat), s.data.toList.length - i = d → i ≤ s.data.toList.length → n < 16 ^ i → Ev (fun k => address_group.l0 k s (n : Int) (s.data.toList.length : Int) (i : Int)) (match hxL (s.data.toList.drop i) n with | none => ((0 : Int), false) | some v => ((v : Int), true))
  | 0, i, n, hd, hi, hn => by
    rw [List.drop_of_length_le (by omega), hxL]
    refine Ev.step (f := fun _ => some ((n : Int), true)) (fun k => ?_) (Ev.now _)
    rw [address_group.l0, if_neg (by omega)]
  | d + 1, i, n, hd, hi, hn => by
    have hl : i < s.data.toList.length := by omega
    have hsp : s.data.toList.drop i = s.data.toList[i] :: s.data.toList.drop (i + 1) := List.drop_eq_getElem_cons hl
    have hb := bt_list s i hl
    have hc256 := (s.data.toList[i]).toNat_lt
    have hp := Nat.pow_le_pow_right (show 0 < 16 by decide) (show i ≤ 3 by omega)
    rw [show (16 : Nat) ^ 3 = 4096 from by decide] at hp
    rw [hsp, hxL]
    have step : ∀ v, hexV (s.data.toList[i]).toNat = some v → Ev (fun k => address_group.l0 k s (Go.bits .or .u64 (IntKind.u64.wrap ((n : Int) * 16)) (v : Int)) (s.data.toList.length : Int) (wrap64 ((i : Int) + 1))) (match hxL (s.data.toList.drop (i + 1)) (n * 16 + v) with | none => ((0 : Int), false) | some v => ((v : Int), true)) := fun v hv => by
      have hv16 := hexV_lt hv
      rw [or_16 hv16 (by omega), up_i (by omega)]
      exact agroup0 s hs d (i + 1) (n * 16 + v) (by omega) (by omega) (by rw [Nat.pow_succ]; omega)
    generalize hcc : (s.data.toList[i]).toNat = c at *
    by_cases h1 : 48 ≤ c ∧ c ≤ 57
    · have hv : hexV c = some (c - 48) := by unfold hexV; rw [if_pos h1]
      rw [hv]
      obtain ⟨K, e⟩ := step _ hv
      refine ⟨K + 3, fun k hk => ?_⟩
      obtain ⟨m, rfl⟩ : ∃ m, k = m + 2 := ⟨k - 2, by omega⟩
      dsimp only
      rw [address_group.l0, if_pos (by omega), if_pos (by omega), if_pos (by rw [size_list]; omega), hb, if_pos (by omega), decide_eq_true (by omega), address_group.j2, if_pos rfl, b48 h1.1 h1.2]
      exact e m (by omega)
    ·
      have hj2 : ∀ m, address_group.l0 (m + 2) s (n : Int) (s.data.toList.length : Int) (i : Int) = (if (c : Int) ≥ 65 then address_group.j3 m s (n : Int) (c : Int) (s.data.toList.length : Int) (i : Int) (decide ((c : Int) ≤ 70)) else address_group.j3 m s (n : Int) (c : Int) (s.data.toList.length : Int) (i : Int) false) := fun m => by
        rw [address_group.l0, if_pos (by omega), if_pos (by omega), if_pos (by rw [size_list]; omega), hb]
        by_cases h48 : (c : Int) ≥ 48
        · rw [if_pos h48, decide_eq_false (by omega), address_group.j2, if_neg Bool.false_ne_true]
        · rw [if_neg h48, address_group.j2, if_neg Bool.false_ne_true]
      by_cases h2 : 65 ≤ c ∧ c ≤ 70
      · have hv : hexV c = some (c - 55) := by unfold hexV; rw [if_neg h1, if_pos h2]
        rw [hv]
        obtain ⟨K, e⟩ := step _ hv
        refine ⟨K + 3, fun k hk => ?_⟩
        obtain ⟨m, rfl⟩ : ∃ m, k = m + 1 + 2 := ⟨k - 3, by omega⟩
        dsimp only
        rw [hj2, if_pos (by omega), decide_eq_true (by omega), address_group.j3, if_pos rfl, show ((((((c : Int) + 32) % 256) - 97) % 256) + 10) % 256 = ((c - 55 : Nat) : Int) from by omega]
        exact e m (by omega)
      · have hj3 : ∀ m, address_group.l0 (m + 1 + 2) s (n : Int) (s.data.toList.length : Int) (i : Int) = (if (c : Int) ≥ 97 then (if (c : Int) ≤ 102 then (address_group.l0 m s (Go.bits .or .u64 (IntKind.u64.wrap ((n : Int) * 16)) (((((c : Int) - 97) % 256) + 10) % 256)) (s.data.toList.length : Int) (wrap64 ((i : Int) + 1))) else (some (0, false))) else (some (0, false))) := fun m => by
          rw [hj2]
          by_cases h65 : (c : Int) ≥ 65
          · rw [if_pos h65, decide_eq_false (by omega), address_group.j3, if_neg Bool.false_ne_true]
          · rw [if_neg h65, address_group.j3, if_neg Bool.false_ne_true]
        by_cases h3 : 97 ≤ c ∧ c ≤ 102
        · have hv : hexV c = some (c - 87) := by unfold hexV; rw [if_neg h1, if_neg h2, if_pos h3]
          rw [hv]
          obtain ⟨K, e⟩ := step _ hv
          refine ⟨K + 3, fun k hk => ?_⟩
          obtain ⟨m, rfl⟩ : ∃ m, k = m + 1 + 2 := ⟨k - 3, by omega⟩
          dsimp only
          rw [hj3, if_pos (by omega), if_pos (by omega), show (((((c : Int) - 97) % 256) + 10) % 256) = ((c - 87 : Nat) : Int) from by omega]
          exact e m (by omega)
        · have hv : hexV c = none := by unfold hexV; rw [if_neg h1, if_neg h2, if_neg h3]
          rw [hv]
          refine ⟨3, fun k hk => ?_⟩
          obtain ⟨m, rfl⟩ : ∃ m, k = m + 1 + 2 := ⟨k - 3, by omega⟩
          dsimp only
          rw [hj3]
          by_cases h97 : (c : Int) ≥ 97
          · rw [if_pos h97, if_neg (by omega)]
          · rw [if_neg h97]
def aGrp (l : List UInt8) : Int × Bool := match grpV l with | none => (0, false) | some v => ((v : Int), true)
theorem agroup_ev (s : ByteArray) : Ev (fun k => address_group.f k s) (aGrp s.data.toList) := by
  have hjt : ∀ k, address_group.j0 (k + 1) s true = some ((0 : Int), false) := fun k => by rw [address_group.j0, if_pos rfl]
  by_cases hn : s.data.toList = []
  · refine Ev.step (f := fun _ => some ((0 : Int), false)) (fun k => ?_) ?_
    · unfold address_group.f
      rw [if_pos ((ByteArray.toList_eq s).trans hn)]
      exact hjt k
    · unfold aGrp grpV
      rw [if_neg (fun h => h.1 hn)]
      exact Ev.now _
  · have hne : ¬ s.toList = [] := fun e => hn ((ByteArray.toList_eq s).symm.trans e)
    by_cases h4 : s.data.toList.length ≤ 4
    · have h0 := agroup0 s h4 _ 0 0 rfl (by omega) (by decide)
      rw [List.drop_zero] at h0
      unfold aGrp grpV
      rw [if_pos ⟨hn, h4⟩]
      refine Ev.step (fun k => ?_) h0
      unfold address_group.f
      rw [if_neg hne, decide_eq_false (by rw [size_list]; omega), address_group.j0, if_neg Bool.false_ne_true, size_list]
      rfl
    · unfold aGrp grpV
      rw [if_neg (fun h => h4 h.2)]
      refine Ev.step (f := fun _ => some ((0 : Int), false)) (fun k => ?_) (Ev.now _)
      unfold address_group.f
      rw [if_neg hne, decide_eq_true (by rw [size_list]; omega)]
      exact hjt k
theorem rgroup0 (s : ByteArray) (hs : s.data.toList.length ≤ 4) : ∀ (d i n : Nat), s.data.toList.length - i = d → i ≤ s.data.toList.length → n < 16 ^ i → Ev (fun k => intrusionref06_group.l0 k s (n : Int) (i : Int)) (match hxL (s.data.toList.drop i) n with | none => (-1 : Int) | some v => (v : Int))
  | 0, i, n, hd, hi, hn => by
    rw [List.drop_of_length_le (by omega), hxL]
    refine Ev.step (f := fun _ => some (n : Int)) (fun k => ?_) (Ev.now _)
    rw [intrusionref06_group.l0, size_list, if_neg (by omega)]
  | d + 1, i, n, hd, hi, hn => by
    have hl : i < s.data.toList.length := by omega
    have hsp : s.data.toList.drop i = s.data.toList[i] :: s.data.toList.drop (i + 1) := List.drop_eq_getElem_cons hl
    have hb := bt_list s i hl
    have hc256 := (s.data.toList[i]).toNat_lt
    have hp := Nat.pow_le_pow_right (show 0 < 16 by decide) (show i ≤ 3 by omega)
    rw [show (16 : Nat) ^ 3 = 4096 from by decide] at hp
    rw [hsp, hxL]
    have step : ∀ v, hexV (s.data.toList[i]).toNat = some v → Ev (fun k => intrusionref06_group.l0 k s (wrap64 ((wrap64 (16 * (n : Int))) + (v : Int))) (wrap64 ((i : Int) + 1))) (match hxL (s.data.toList.drop (i + 1)) (n * 16 + v) with | none => (-1 : Int) | some v => (v : Int)) := fun v hv => by
      have hv16 := hexV_lt hv
      have ih := rgroup0 s hs d (i + 1) (n * 16 + v) (by omega) (by omega) (by rw [Nat.pow_succ]; omega)
      rw [wid (x := 16 * (n : Int)) (by omega) (by omega), wid (x := 16 * (n : Int) + v) (by omega) (by omega), up_i (by omega), show 16 * (n : Int) + (v : Int) = ((n * 16 + v : Nat) : Int) from by omega]
      exact ih
    generalize hcc : (s.data.toList[i]).toNat = c at *
    have hi0 : (0 : Int) ≤ (i : Int) := by omega
    have hil : (i : Int) < (s.size : Int) := by rw [size_list]; omega
    by_cases h1 : 48 ≤ c ∧ c ≤ 57
    · have hv : hexV c = some (c - 48) := by unfold hexV; rw [if_pos h1]
      rw [hv]
      obtain ⟨K, e⟩ := step _ hv
      refine ⟨K + 3, fun k hk => ?_⟩
      obtain ⟨m, rfl⟩ : ∃ m, k = m + 2 := ⟨k - 2, by omega⟩
      dsimp only
      have ew : wrap64 ((wrap64 (c : Int)) - 48) = ((c - 48 : Nat) : Int) := by rw [wid (x := (c : Int)) (by omega) (by omega), wid (by omega) (by omega)]; omega
      rw [intrusionref06_group.l0, if_pos hil, if_pos hi0, hb, if_pos (by omega), decide_eq_true (by omega), intrusionref06_group.j2, if_pos rfl, if_pos hi0, if_pos hil, hb, ew, if_neg (by omega)]
      exact e m (by omega)
    · have hj2 : ∀ m, intrusionref06_group.l0 (m + 2) s (n : Int) (i : Int) = (if (c : Int) ≥ 97 then intrusionref06_group.j3 m s (n : Int) (i : Int) (-1) (decide ((c : Int) ≤ 102)) else intrusionref06_group.j3 m s (n : Int) (i : Int) (-1) false) := fun m => by
        rw [intrusionref06_group.l0, if_pos hil, if_pos hi0, hb]
        by_cases h48 : (c : Int) ≥ 48
        · rw [if_pos h48, decide_eq_false (by omega), intrusionref06_group.j2, if_neg Bool.false_ne_true, if_pos hi0, if_pos hil, hb]
        · rw [if_neg h48, intrusionref06_group.j2, if_neg Bool.false_ne_true, if_pos hi0, if_pos hil, hb]
      by_cases h3 : 97 ≤ c ∧ c ≤ 102
      · have hv : hexV c = some (c - 87) := by unfold hexV; rw [if_neg h1, if_neg (by omega), if_pos h3]
        rw [hv]
        obtain ⟨K, e⟩ := step _ hv
        refine ⟨K + 3, fun k hk => ?_⟩
        obtain ⟨m, rfl⟩ : ∃ m, k = m + 1 + 2 := ⟨k - 3, by omega⟩
        dsimp only
        have ew : wrap64 ((wrap64 (c : Int)) - 87) = ((c - 87 : Nat) : Int) := by rw [wid (x := (c : Int)) (by omega) (by omega), wid (by omega) (by omega)]; omega
        rw [hj2, if_pos (by omega), decide_eq_true (by omega), intrusionref06_group.j3, if_pos rfl, if_pos hi0, if_pos hil, hb, ew, if_neg (by omega)]
        exact e m (by omega)
      · have hj3 : ∀ m, intrusionref06_group.l0 (m + 1 + 2) s (n : Int) (i : Int) = (if (c : Int) ≥ 65 then intrusionref06_group.j4 m s (n : Int) (i : Int) (-1) (decide ((c : Int) ≤ 70)) else intrusionref06_group.j4 m s (n : Int) (i : Int) (-1) false) := fun m => by
          rw [hj2]
          by_cases h97 : (c : Int) ≥ 97
          · rw [if_pos h97, decide_eq_false (by omega), intrusionref06_group.j3, if_neg Bool.false_ne_true, if_pos hi0, if_pos hil, hb]
          · rw [if_neg h97, intrusionref06_group.j3, if_neg Bool.false_ne_true, if_pos hi0, if_pos hil, hb]
        by_cases h2 : 65 ≤ c ∧ c ≤ 70
        · have hv : hexV c = some (c - 55) := by unfold hexV; rw [if_neg h1, if_pos h2]
          rw [hv]
          obtain ⟨K, e⟩ := step _ hv
          refine ⟨K + 4, fun k hk => ?_⟩
          obtain ⟨m, rfl⟩ : ∃ m, k = m + 1 + 1 + 2 := ⟨k - 4, by omega⟩
          dsimp only
          have ew : wrap64 ((wrap64 (c : Int)) - 55) = ((c - 55 : Nat) : Int) := by rw [wid (x := (c : Int)) (by omega) (by omega), wid (by omega) (by omega)]; omega
          rw [hj3, if_pos (by omega), decide_eq_true (by omega), intrusionref06_group.j4, if_pos rfl, if_pos hi0, if_pos hil, hb, ew, if_neg (by omega)]
          exact e m (by omega)
        · have hv : hexV c = none := by unfold hexV; rw [if_neg h1, if_neg h2, if_neg h3]
          rw [hv]
          refine ⟨4, fun k hk => ?_⟩
          obtain ⟨m, rfl⟩ : ∃ m, k = m + 1 + 1 + 2 := ⟨k - 4, by omega⟩
          dsimp only
          rw [hj3]
          by_cases h65 : (c : Int) ≥ 65
          · rw [if_pos h65, decide_eq_false (by omega), intrusionref06_group.j4, if_neg Bool.false_ne_true, if_pos (by decide)]
          · rw [if_neg h65, intrusionref06_group.j4, if_neg Bool.false_ne_true, if_pos (by decide)]
def rGrp (l : List UInt8) : Int := match grpV l with | none => -1 | some v => (v : Int)
theorem rgroup_ev (s : ByteArray) : Ev (fun k => intrusionref06_group.f k s) (rGrp s.data.toList) := by
  have hjt : ∀ k, intrusionref06_group.j0 (k + 1) s true = some (-1 : Int) := fun k => by rw [intrusionref06_group.j0, if_pos rfl]
  by_cases hn : s.data.toList = []
  · refine Ev.step (f := fun _ => some (-1 : Int)) (fun k => ?_) ?_
    · unfold intrusionref06_group.f
      rw [if_pos (by rw [size_list, hn]; decide)]
      exact hjt k
    · unfold rGrp grpV
      rw [if_neg (fun h => h.1 hn)]
      exact Ev.now _
  · have hpos := List.length_pos_iff.2 hn
    have hne : ¬ ((s.size : Int) < 1) := by rw [size_list]; omega
    by_cases h4 : s.data.toList.length ≤ 4
    · have h0 := rgroup0 s h4 _ 0 0 rfl (by omega) (by decide)
      rw [List.drop_zero] at h0
      unfold rGrp grpV
      rw [if_pos ⟨hn, h4⟩]
      refine Ev.step (fun k => ?_) h0
      unfold intrusionref06_group.f
      rw [if_neg hne, decide_eq_false (by rw [size_list]; omega), intrusionref06_group.j0, if_neg Bool.false_ne_true]
      rfl
    · unfold rGrp grpV
      rw [if_neg (fun h => h4 h.2)]
      refine Ev.step (f := fun _ => some (-1 : Int)) (fun k => ?_) (Ev.now _)
      unfold intrusionref06_group.f
      rw [if_neg hne, decide_eq_true (by rw [size_list]; omega)]
      exact hjt k
def mapO : List (List UInt8) → Option (List Nat)
  | [] => some []
  | x :: t => match grpV x with | none => none | some v => (mapO t).map (v :: ·)
def grps (l : List UInt8) : Option (List Nat) := if l = [] then some [] else mapO (spl 58 [] l)
theorem mapO_len : ∀ {L : List (List UInt8)} {r : List Nat}, mapO L = some r → r.length = L.length ∧ ∀ x ∈ r, x < 65536
  | [], r, h => by
    rw [mapO] at h
    injection h with h
    subst h
    simp
  | x :: t, r, h => by
    rw [mapO] at h
    cases hv : grpV x with
    | none => rw [hv] at h; cases h
    | some v =>
      rw [hv] at h
      obtain ⟨r', h1, rfl⟩ := Option.map_eq_some_iff.1 h
      have := mapO_len h1
      refine ⟨by simp [this.1], ?_⟩
      intro y hy
      rcases List.mem_cons.1 hy with rfl | hy
      · exact grpV_lt hv
      · exact this.2 y hy
def natI (L : List Nat) : List Int := L.map Int.ofNat
def grpsV (l : List UInt8) : List Int × Bool := match grps l with | none => ([], false) | some L => (natI L, true)
theorem spl_len (c : UInt8) : ∀ (l cur : List UInt8), (spl c cur l).length ≤ l.length + 1
  | [], cur => by simp [spl]
  | x :: t, cur => by
    rw [spl]
    split
    · have := spl_len c t []
      simp; omega
    · have := spl_len c t (cur ++ [x])
      simp; omega
theorem agroups0 (L : List (List UInt8)) (hL : L.length ≤ 101) : ∀ (d i : Nat) (out : List Nat), L.length - i = d → i ≤ L.length → out.length ≤ i → Ev (fun k => address_groups.l0 k (natI out) (L.map mkB) (L.length : Int) (i : Int)) (match mapO (L.drop i) with | none => (([] : List Int), false) | some r => (natI (out ++ r), true))
  | 0, i, out, hd, hi, ho => by
    rw [List.drop_of_length_le (by omega), mapO]
    refine Ev.step (f := fun _ => some (natI (out ++ []), true)) (fun k => ?_) (Ev.now _)
    rw [address_groups.l0, if_neg (by omega), List.append_nil]
  | d + 1, i, out, hd, hi, ho => by
    have hl : i < L.length := by omega
    have hsp : L.drop i = L[i] :: L.drop (i + 1) := List.drop_eq_getElem_cons hl
    have hg := agroup_ev (mkB L[i])
    rw [mkB_list] at hg
    obtain ⟨K, e⟩ := hg
    rw [hsp, mapO]
    cases hv : grpV L[i] with
    | none =>
      refine ⟨K + 1, fun k hk => ?_⟩
      obtain ⟨m, rfl⟩ : ∃ m, k = m + 1 := ⟨k - 1, by omega⟩
      have f := e m (by omega)
      unfold aGrp at f
      rw [hv] at f
      dsimp only at f ⊢
      rw [address_groups.l0, if_pos (by omega), if_pos (by omega), if_pos (by rw [List.length_map]; omega), rdOf_mk L i hl, f, Option.bind_some, if_neg Bool.false_ne_true]
    | some v =>
      obtain ⟨K2, e2⟩ := agroups0 L hL d (i + 1) (out ++ [v]) (by omega) (by omega) (by simp; omega)
      refine ⟨K + K2 + 1, fun k hk => ?_⟩
      obtain ⟨m, rfl⟩ : ∃ m, k = m + 1 := ⟨k - 1, by omega⟩
      have f := e m (by omega)
      have f2 := e2 m (by omega)
      unfold aGrp at f
      rw [hv] at f
      dsimp only at f f2 ⊢
      rw [address_groups.l0, if_pos (by omega), if_pos (by omega), if_pos (by rw [List.length_map]; omega), rdOf_mk L i hl, f, Option.bind_some, if_pos rfl, if_pos (by unfold natI; rw [List.length_map]; omega), up_i (by omega)]
      rw [show natI out ++ [(v : Int)] = natI (out ++ [v]) from by unfold natI; rw [List.map_append]; rfl, f2]
      cases mapO (L.drop (i + 1)) with
      | none => rfl
      | some r => simp
theorem agroups_ev (s : ByteArray) (hs : s.data.toList.length ≤ 100) : Ev (fun k => address_groups.f k s) (grpsV s.data.toList) := by
  unfold address_groups.f grpsV grps
  by_cases hn : s.data.toList = []
  · rw [if_pos hn]
    refine Ev.congr (f := fun _ => some (([] : List Int), true)) (fun k => ?_) (show Ev _ (natI [], true) from Ev.now _)
    rw [if_pos ((ByteArray.toList_eq s).trans hn)]
  · rw [if_neg hn]
    have hl := spl_len 58 s.data.toList []
    have ev := agroups0 (spl 58 [] s.data.toList) (by omega) _ 0 [] rfl (by omega) (by simp)
    rw [List.drop_zero] at ev
    simp only [List.nil_append] at ev
    refine Ev.congr (fun k => ?_) ev
    rw [if_neg (fun e => hn ((ByteArray.toList_eq s).symm.trans e)), split_eq s 58 (by rw [size_list]; omega), Option.bind_some, List.length_map]
    rfl
theorem rgroups0 (L : List (List UInt8)) (hL : L.length ≤ 101) : ∀ (d i : Nat) (out : List Nat), L.length - i = d → i ≤ L.length → out.length ≤ i → Ev (fun k => intrusionref06_groups.l0 k (natI out) (L.map mkB) (i : Int)) (match mapO (L.drop i) with | none => (([] : List Int), false) | some r => (natI (out ++ r), true))
  | 0, i, out, hd, hi, ho => by
    rw [List.drop_of_length_le (by omega), mapO]
    refine Ev.step (f := fun _ => some (natI (out ++ []), true)) (fun k => ?_) (Ev.now _)
    rw [intrusionref06_groups.l0, if_neg (by rw [List.length_map]; omega), List.append_nil]
  | d + 1, i, out, hd, hi, ho => by
    have hl : i < L.length := by omega
    have hsp : L.drop i = L[i] :: L.drop (i + 1) := List.drop_eq_getElem_cons hl
    have hg := rgroup_ev (mkB L[i])
    rw [mkB_list] at hg
    obtain ⟨K, e⟩ := hg
    rw [hsp, mapO]
    cases hv : grpV L[i] with
    | none =>
      refine ⟨K + 1, fun k hk => ?_⟩
      obtain ⟨m, rfl⟩ : ∃ m, k = m + 1 := ⟨k - 1, by omega⟩
      have f := e m (by omega)
      unfold rGrp at f
      rw [hv] at f
      dsimp only at f ⊢
      rw [intrusionref06_groups.l0, if_pos (by rw [List.length_map]; omega), if_pos (by omega), rdOf_mk L i hl, f, Option.bind_some, if_pos (by decide)]
    | some v =>
      obtain ⟨K2, e2⟩ := rgroups0 L hL d (i + 1) (out ++ [v]) (by omega) (by omega) (by simp; omega)
      refine ⟨K + K2 + 1, fun k hk => ?_⟩
      obtain ⟨m, rfl⟩ : ∃ m, k = m + 1 := ⟨k - 1, by omega⟩
      have f := e m (by omega)
      have f2 := e2 m (by omega)
      unfold rGrp at f
      rw [hv] at f
      dsimp only at f f2 ⊢
      rw [intrusionref06_groups.l0, if_pos (by rw [List.length_map]; omega), if_pos (by omega), rdOf_mk L i hl, f, Option.bind_some, if_neg (by omega), if_pos (by unfold natI; rw [List.length_map]; omega), up_i (by omega)]
      rw [show natI out ++ [(v : Int)] = natI (out ++ [v]) from by unfold natI; rw [List.map_append]; rfl, f2]
      cases mapO (L.drop (i + 1)) with
      | none => rfl
      | some r => simp
theorem rgroups_ev (s : ByteArray) (hs : s.data.toList.length ≤ 100) : Ev (fun k => intrusionref06_groups.f k s) (grpsV s.data.toList) := by
  unfold intrusionref06_groups.f grpsV grps
  by_cases hn : s.data.toList = []
  · rw [if_pos hn]
    refine Ev.congr (f := fun _ => some (([] : List Int), true)) (fun k => ?_) (show Ev _ (natI [], true) from Ev.now _)
    rw [if_pos ((ByteArray.toList_eq s).trans hn)]
  · rw [if_neg hn]
    have hl := spl_len 58 s.data.toList []
    have ev := rgroups0 (spl 58 [] s.data.toList) (by omega) _ 0 [] rfl (by omega) (by simp)
    rw [List.drop_zero] at ev
    simp only [List.nil_append] at ev
    refine Ev.congr (f := fun k => (intrusionref06_Split.f k s 58).bind fun t => intrusionref06_groups.l0 k ([] : List Int) t 0) (fun k => ?_) (Ev.bind (rsplit_ev s 58 hs) ev)
    rw [if_neg (fun e => hn ((ByteArray.toList_eq s).symm.trans e))]
theorem occ2 (l : List UInt8) (i : Nat) (h : i + 1 < l.length) : Lib.occAt l [58, 58] i = decide (l[i] = 58 ∧ l[i + 1] = 58) := by
  unfold Lib.occAt
  rw [List.drop_eq_getElem_cons (show i < l.length by omega), List.drop_eq_getElem_cons h]
  simp only [List.isPrefixOf]
  rw [Bool.eq_iff_iff]
  simp only [Bool.and_eq_true, beq_iff_eq, decide_eq_true_eq, and_true]
  exact ⟨fun h => ⟨h.1.symm, h.2.symm⟩, fun h => ⟨h.1.symm, h.2.symm⟩⟩
theorem bt_58 (s : ByteArray) (i : Nat) (h : i < s.data.toList.length) : bt s (i : Int) = 58 ↔ s.data.toList[i]'h = 58 := bt_u8 s i h 58
theorem rgap0 (s : ByteArray) (hs : s.data.toList.length ≤ 100) : ∀ (d i : Nat), s.data.toList.length - i = d → i ≤ s.data.toList.length → Lib.NoOcc s.data.toList [58, 58] i → Ev (fun k => intrusionref06_gap.l0 k s (i : Int)) (Lib.index s.data.toList [58, 58])
  | d, i, hd, hi, hno => by
    by_cases hl : i + 1 < s.data.toList.length
    · have e1 : wrap64 ((i : Int) + 1) = ((i + 1 : Nat) : Int) := up_i (by omega)
      have ho := occ2 s.data.toList i hl
      by_cases hc : s.data.toList[i] = 58 ∧ s.data.toList[i + 1] = 58
      · rw [Lib.index_hit hno (by omega) (by rw [ho]; exact decide_eq_true hc)]
        refine Ev.step (f := fun _ => some (i : Int)) (fun k => ?_) (Ev.now _)
        rw [intrusionref06_gap.l0, e1, size_list, if_pos (by omega), if_pos (by omega), if_pos (by omega), if_pos ((bt_58 s i (by omega)).2 hc.1), if_pos (by omega), if_pos ((bt_58 s (i + 1) hl).2 hc.2)]
      · have hn2 := hno.succ (by rw [ho]; exact decide_eq_false hc)
        obtain ⟨d, rfl⟩ : ∃ e, d = e + 1 := ⟨d - 1, by omega⟩
        have ih := rgap0 s hs d (i + 1) (by omega) (by omega) hn2
        refine Ev.step (fun k => ?_) ih
        rw [intrusionref06_gap.l0, e1, size_list, if_pos (by omega), if_pos (by omega), if_pos (by omega)]
        by_cases h1 : s.data.toList[i] = 58
        · rw [if_pos ((bt_58 s i (by omega)).2 h1), if_pos (by omega), if_neg (fun e => hc ⟨h1, (bt_58 s (i + 1) hl).1 e⟩)]
        · rw [if_neg (fun e => h1 ((bt_58 s i (by omega)).1 e))]
    · rw [Lib.index_past (by simp) hno (by show s.data.toList.length < i + 2; omega)]
      refine Ev.step (f := fun _ => some (-1 : Int)) (fun k => ?_) (Ev.now _)
      rw [intrusionref06_gap.l0, up_i (by omega), size_list, if_neg (by omega)]
theorem rgap_ev (s : ByteArray) (hs : s.data.toList.length ≤ 100) : Ev (fun k => intrusionref06_gap.f k s) (Lib.index s.data.toList [58, 58]) := rgap0 s hs _ 0 rfl (by omega) (Lib.NoOcc.zero _ _)
theorem cut_eq (s : ByteArray) (sep : ByteArray) (hs : s.size < 4294967281) : strings_Cut.f s sep = some (mkB (Lib.cut s.data.toList sep.data.toList).1, mkB (Lib.cut s.data.toList sep.data.toList).2.1, (Lib.cut s.data.toList sep.data.toList).2.2) := by
  unfold strings_Cut.f
  rw [if_pos hs]
  rfl
end Go.Proofs.YtlgfinnldhjgeaaDoor.Q
end

section
set_option linter.unusedVariables false
set_option linter.unusedSimpArgs false
namespace Go.Proofs.YtlgfinnldhjgeaaDoor.Q
open Go.RowKit Go.Proofs.YtlgfinnldhjgeaaDoorW.PrintWords Go.Proofs.YtlgfinnldhjgeaaDoorW.PrintLast Go.Proofs.YtlgfinnldhjgeaaDoorW.PrintMore
theorem width_eq (a : Ad) : intrusionref06_Width.f a.f0 a.f1 a.f2 = some ((szA a.f0 : Nat) : Int) := by
  unfold intrusionref06_Width.f szA
  cases a.f0 <;> rfl
theorem szA_le (f : Bool) : szA f ≤ 128 := by unfold szA; split <;> omega
theorem u64_wr {x : Int} (h0 : 0 ≤ x) (h1 : x ≤ 1000) : IntKind.u64.wrap (wrap64 x) = x := by rw [wid (by omega) (by omega)]; exact u64_id h0 (by omega)
theorem nv_bit_hi (x y j : Nat) (hy : y < 18446744073709551616) : (x * 18446744073709551616 + y) / 2 ^ (64 + j) = x / 2 ^ j := by
  rw [Nat.pow_add, ← Nat.div_div_eq_div_mul, show (2 : Nat) ^ 64 = 18446744073709551616 from by decide, show (x * 18446744073709551616 + y) / 18446744073709551616 = x from by omega]
theorem nv_bit_lo (x y j : Nat) (hj : j < 64) (hy : y < 18446744073709551616) : ((x * 18446744073709551616 + y) / 2 ^ j) % 2 = (y / 2 ^ j) % 2 := by
  have e : 18446744073709551616 = 2 ^ j * (2 * 2 ^ (63 - j)) := by rw [show 2 * 2 ^ (63 - j) = 2 ^ (64 - j) from by rw [show 64 - j = (63 - j) + 1 from by omega, Nat.pow_succ, Nat.mul_comm], ← Nat.pow_add, show j + (64 - j) = 64 from by omega]
  rw [e, show x * (2 ^ j * (2 * 2 ^ (63 - j))) + y = y + 2 ^ j * (2 * (x * 2 ^ (63 - j))) from by rw [Nat.add_comm, Nat.mul_left_comm, Nat.mul_left_comm x 2], Nat.add_mul_div_left _ _ (Nat.pow_pos (by decide)), Nat.add_mul_mod_self_left]
theorem bit_eq {a : Ad} (h : AF a) (r i : Nat) (hr : i + (r + 1) = szA a.f0) : intrusionref06_Bit.f a.f0 a.f1 a.f2 (i : Int) = some ((nv a / 2 ^ r) % 2 == 1) := by
  obtain ⟨⟨h1, h2, h3, h4⟩, h5⟩ := h
  obtain ⟨a0, a1, a2⟩ := a
  simp only at h1 h2 h3 h4 h5 hr
  have e1 : ((a1.toNat : Nat) : Int) = a1 := by omega
  have e2 : ((a2.toNat : Nat) : Int) = a2 := by omega
  unfold intrusionref06_Bit.f nv
  cases a0
  · have hr : i + (r + 1) = 32 := hr
    simp only [Bool.false_eq_true, if_false]
    rw [u64_wr (by omega) (by omega), if_pos (by omega)]
    have := shr_bit a2.toNat r (by omega) (by omega)
    rw [e2] at this
    rw [show (31 - (i : Int)) = (r : Int) from by omega, this, nv_bit_lo _ _ _ (by omega) (by omega)]
  · have hr : i + (r + 1) = 128 := hr
    simp only [if_true]
    by_cases hi : (i : Int) < 64
    · rw [if_pos hi, u64_wr (by omega) (by omega), if_pos (by omega)]
      obtain ⟨j, rfl⟩ : ∃ j, r = 64 + j := ⟨r - 64, by omega⟩
      have := shr_bit a1.toNat j (by omega) (by omega)
      rw [e1] at this
      rw [show (63 - (i : Int)) = (j : Int) from by omega, this, nv_bit_hi _ _ _ (by omega)]
    · rw [if_neg hi, u64_wr (by omega) (by omega), if_pos (by omega)]
      have := shr_bit a2.toNat r (by omega) (by omega)
      rw [e2] at this
      rw [show (127 - (i : Int)) = (r : Int) from by omega, this, nv_bit_lo _ _ _ (by omega) (by omega)]
theorem xor_hi (x y j : Nat) (hy : y < 18446744073709551616) : (x * 18446744073709551616 + y) ^^^ 2 ^ (64 + j) = (x ^^^ 2 ^ j) * 18446744073709551616 + y := by
  have h1 : ((x * 18446744073709551616 + y) ^^^ 2 ^ (64 + j)) / 2 ^ 64 = x ^^^ 2 ^ j := by
    rw [Nat.xor_div_two_pow, Nat.pow_add, Nat.mul_div_cancel_left _ (Nat.pow_pos (by decide)), show (2 : Nat) ^ 64 = 18446744073709551616 from by decide, show (x * 18446744073709551616 + y) / 18446744073709551616 = x from by omega]
  have h2 : ((x * 18446744073709551616 + y) ^^^ 2 ^ (64 + j)) % 2 ^ 64 = y := by
    rw [Nat.xor_mod_two_pow, Nat.pow_add, Nat.mul_mod_right, Nat.xor_zero, show (2 : Nat) ^ 64 = 18446744073709551616 from by decide]
    omega
  have d1 := Nat.div_add_mod ((x * 18446744073709551616 + y) ^^^ 2 ^ (64 + j)) (2 ^ 64)
  rw [h1, h2] at d1
  rw [← d1, show (2 : Nat) ^ 64 = 18446744073709551616 from by decide, Nat.mul_comm]
theorem xor_lo (x y j : Nat) (hj : j < 64) (hy : y < 18446744073709551616) : (x * 18446744073709551616 + y) ^^^ 2 ^ j = x * 18446744073709551616 + (y ^^^ 2 ^ j) := by
  have hp : 2 ^ j < 2 ^ 64 := Nat.pow_lt_pow_right (by decide) hj
  have h1 : ((x * 18446744073709551616 + y) ^^^ 2 ^ j) / 2 ^ 64 = x := by
    rw [Nat.xor_div_two_pow, Nat.div_eq_of_lt hp, Nat.xor_zero, show (2 : Nat) ^ 64 = 18446744073709551616 from by decide]
    omega
  have h2 : ((x * 18446744073709551616 + y) ^^^ 2 ^ j) % 2 ^ 64 = y ^^^ 2 ^ j := by
    rw [Nat.xor_mod_two_pow, Nat.mod_eq_of_lt hp]
    rw [show (x * 18446744073709551616 + y) % 2 ^ 64 = y from by rw [show (2 : Nat) ^ 64 = 18446744073709551616 from by decide]; omega]
  have d1 := Nat.div_add_mod ((x * 18446744073709551616 + y) ^^^ 2 ^ j) (2 ^ 64)
  rw [h1, h2] at d1
  rw [← d1, show (2 : Nat) ^ 64 = 18446744073709551616 from by decide, Nat.mul_comm]
theorem r_up {i : Nat} (h : i < 1000) : wrap64 ((i : Int) + 1) = ((i + 1 : Nat) : Int) := by rw [wid (by omega) (by omega)]; omega
theorem flip_lo {f : Bool} {x y : Int} {r : Nat} (h1 : 0 ≤ x) (h2 : x < 18446744073709551616) (h3 : 0 ≤ y) (h4 : y < 18446744073709551616) (hr : r < 64) : mkN f ((x.toNat * 18446744073709551616 + y.toNat) ^^^ 2 ^ r) = ⟨f, x, Go.bits .xor .u64 y (shl .u64 1 (r : Int))⟩ := by
  have hl : (y.toNat ^^^ 2 ^ r) < 2 ^ 64 := Nat.xor_lt_two_pow (by omega) (Nat.pow_lt_pow_right (by decide) hr)
  rw [show (2 : Nat) ^ 64 = 18446744073709551616 from by decide] at hl
  have := bits_xor y.toNat r (by omega) hr
  rw [show ((y.toNat : Nat) : Int) = y from by omega] at this
  rw [shl_pow r hr, this]
  unfold mkN
  rw [xor_lo _ _ _ hr (by omega)]
  generalize y.toNat ^^^ 2 ^ r = z at *
  simp only [Ad, S25.mk.injEq, true_and]
  exact ⟨by omega, by omega⟩
theorem flip_hi {f : Bool} {x y : Int} {r : Nat} (h1 : 0 ≤ x) (h2 : x < 18446744073709551616) (h3 : 0 ≤ y) (h4 : y < 18446744073709551616) (hr : r < 64) : mkN f ((x.toNat * 18446744073709551616 + y.toNat) ^^^ 2 ^ (64 + r)) = ⟨f, Go.bits .xor .u64 x (shl .u64 1 (r : Int)), y⟩ := by
  have hl : (x.toNat ^^^ 2 ^ r) < 2 ^ 64 := Nat.xor_lt_two_pow (by omega) (Nat.pow_lt_pow_right (by decide) hr)
  rw [show (2 : Nat) ^ 64 = 18446744073709551616 from by decide] at hl
  have := bits_xor x.toNat r (by omega) hr
  rw [show ((x.toNat : Nat) : Int) = x from by omega] at this
  rw [shl_pow r hr, this]
  unfold mkN
  rw [xor_hi _ _ _ (by omega)]
  generalize x.toNat ^^^ 2 ^ r = z at *
  simp only [Ad, S25.mk.injEq, true_and]
  exact ⟨by omega, by omega⟩
theorem with_flip {b : Bool} {a : Ad} (h : AF a) {r i : Nat} (hr : i + (r + 1) = szA a.f0) (hb : ¬ ((nv a / 2 ^ r) % 2 == 1) = b) (k : Nat) : intrusionref06_with.l0 (k + 1) b (i : Int) a.f0 a.f1 a.f2 = intrusionref06_with.l0 k b ((i + 1 : Nat) : Int) (mkN a.f0 (nv a ^^^ 2 ^ r)).f0 (mkN a.f0 (nv a ^^^ 2 ^ r)).f1 (mkN a.f0 (nv a ^^^ 2 ^ r)).f2 := by
  have hW := szA_le a.f0
  have hi : (i : Int) < ((szA a.f0 : Nat) : Int) := by omega
  have hwi : wrap64 ((i : Int) + 1) = ((i + 1 : Nat) : Int) := r_up (by omega)
  rw [intrusionref06_with.l0, width_eq]
  rw [Option.bind_some]
  rw [if_pos hi, bit_eq h r i hr]
  rw [Option.bind_some]
  rw [if_neg (by rw [beq_iff_eq]; exact hb), hwi]
  clear hb hi hwi
  obtain ⟨⟨h1, h2, h3, h4⟩, h5⟩ := h
  obtain ⟨a0, a1, a2⟩ := a
  unfold nv
  dsimp only at h1 h2 h3 h4 h5 hr hW ⊢
  cases a0
  · have hr : i + (r + 1) = 32 := hr
    rw [if_neg Bool.false_ne_true, u64_wr (by omega) (by omega), if_pos (by omega), show (31 - (i : Int)) = (r : Int) from by omega, flip_lo h1 h2 h3 h4 (by omega)]
  · have hr : i + (r + 1) = 128 := hr
    rw [if_pos rfl]
    by_cases hi6 : (i : Int) < 64
    · rw [if_pos hi6, u64_wr (by omega) (by omega), if_pos (by omega)]
      obtain ⟨j, rfl⟩ : ∃ j, r = 64 + j := ⟨r - 64, by omega⟩
      rw [show (63 - (i : Int)) = (j : Int) from by omega, flip_hi h1 h2 h3 h4 (by omega)]
    · rw [if_neg hi6, u64_wr (by omega) (by omega), if_pos (by omega), show (127 - (i : Int)) = (r : Int) from by omega, flip_lo h1 h2 h3 h4 (by omega)]
theorem with_ev (b : Bool) : ∀ (r i : Nat) (a : Ad), AF a → i + r = szA a.f0 → Ev (fun k => intrusionref06_with.l0 k b (i : Int) a.f0 a.f1 a.f2) ((subA a r b).f0, (subA a r b).f1, (subA a r b).f2)
  | 0, i, a, h, hr => by
    refine Ev.step (f := fun _ => some (a.f0, a.f1, a.f2)) (fun k => ?_) ?_
    · rw [intrusionref06_with.l0, width_eq]
      rw [Option.bind_some]
      rw [if_neg (by omega)]
    · have e : subA a 0 b = a := by
        unfold subA setN
        rw [Nat.pow_zero, Nat.mod_one]
        cases b
        · simpa using mkN_nv h.1
        · simpa using mkN_nv h.1
      rw [e]
      exact Ev.now _
  | r + 1, i, a, h, hr => by
    have hW := szA_le a.f0
    have hi : (i : Int) < ((szA a.f0 : Nat) : Int) := by omega
    have hnl := h.nvlt
    by_cases hb : ((nv a / 2 ^ r) % 2 == 1) = b
    · have ih := with_ev b r (i + 1) a h (by omega)
      have e : subA a r b = subA a (r + 1) b := by
        unfold subA
        rw [← setN_flip, flipN, if_pos hb]
      rw [e] at ih
      refine Ev.step (fun k => ?_) ih
      rw [intrusionref06_with.l0, width_eq]
      rw [Option.bind_some]
      rw [if_pos hi, bit_eq h r i hr]
      rw [Option.bind_some]
      rw [if_pos (by rw [hb]; exact beq_self_eq_true b), show wrap64 ((i : Int) + 1) = ((i + 1 : Nat) : Int) from r_up (by omega)]
    · have hx : nv a ^^^ 2 ^ r < 2 ^ szA a.f0 := Nat.xor_lt_two_pow hnl (Nat.pow_lt_pow_right (by decide) (by omega))
      have ih := with_ev b r (i + 1) (mkN a.f0 (nv a ^^^ 2 ^ r)) (mkN_af hx) (by rw [mkN_f0]; omega)
      have e : subA (mkN a.f0 (nv a ^^^ 2 ^ r)) r b = subA a (r + 1) b := by
        unfold subA
        rw [nv_mkN, mkN_f0, ← setN_flip, flipN, if_neg hb]
      rw [e] at ih
      exact Ev.step (with_flip h hr hb) ih
def restN (a : Ad) (b : Int) : Nat := szA a.f0 - b.toNat
theorem withf_ev {a : Ad} (h : AF a) {b : Int} (h0 : 0 ≤ b) (h1 : b ≤ szA a.f0) (o : Bool) : Ev (fun k => intrusionref06_with.f k a.f0 a.f1 a.f2 b o) ((subA a (restN a b) o).f0, (subA a (restN a b) o).f1, (subA a (restN a b) o).f2) := by
  have := with_ev o (restN a b) b.toNat a h (by unfold restN; omega)
  rw [show ((b.toNat : Nat) : Int) = b from by omega] at this
  exact this
end Go.Proofs.YtlgfinnldhjgeaaDoor.Q
end

section
namespace Go.Proofs.YtlgfinnldhjgeaaDoor.Q
open Go.RowKit Go.Proofs.YtlgfinnldhjgeaaDoorW.PrintWords Go.Proofs.YtlgfinnldhjgeaaDoorW.PrintLast Go.Proofs.YtlgfinnldhjgeaaDoorW.PrintMore
attribute [local go_sem] max2_int min2_int max_two min_two max_three min_three max_four min_four
set_option linter.unusedVariables false
set_option linter.unusedSimpArgs false
def intrusionref06_Number.l0 : Nat → Int → ByteArray → Option (ByteArray)
  | 0, _, _ => none
  | k + 1, x0, x3 => if x0 > 9 then ((some (([(wrap64 (48 + (Int.tmod x0 10))) % 256] : List Int) : List Int)).bind fun y426 => (if (strOfNums y426).size + x3.size ≤ 9223372036854775807 then (intrusionref06_Number.l0 k (wrap64 (Int.tdiv x0 10)) ((strOfNums y426) ++ x3)) else (none))) else ((some (([(wrap64 (48 + x0)) % 256] : List Int) : List Int)).bind fun y429 => (if (strOfNums y429).size + x3.size ≤ 9223372036854775807 then (some ((strOfNums y429) ++ x3)) else (none)))
def intrusionref06_Number.f (k : Nat) (a0 : Int) : Option (ByteArray) := intrusionref06_Number.l0 k a0 (⟨#[]⟩ : ByteArray)
theorem intrusionref06_Number.mono_l : ∀ k, (∀ y0 y1, LeO (intrusionref06_Number.l0 k y0 y1) (intrusionref06_Number.l0 (k + 1) y0 y1))
  | 0 => fun _ _ r h => by simp [intrusionref06_Number.l0] at h
  | k + 1 => by
    have ih0 := intrusionref06_Number.mono_l k
    · intro y0 y1
      unfold intrusionref06_Number.l0
      repeat' first
      | (with_reducible exact ih0 _ _)
      | (with_reducible exact LeO.refl _)
      | (with_reducible exact LeO.none _)
      | (with_reducible refine LeO.ite ?_ ?_)
      | (with_reducible refine LeO.bind ?_ (fun _ => ?_))
      | exact ih0 _ _
      | exact LeO.none _
      | refine LeO.ite ?_ ?_
      | refine LeO.bind ?_ (fun _ => ?_)
theorem intrusionref06_Number.mono : ∀ a0 k, LeO (intrusionref06_Number.f k a0) (intrusionref06_Number.f (k + 1) a0) := by
  intro a0 k
  have ih0 := intrusionref06_Number.mono_l k
  unfold intrusionref06_Number.f
  repeat' first
      | (with_reducible exact ih0 _ _)
      | (with_reducible exact LeO.refl _)
      | (with_reducible exact LeO.none _)
      | (with_reducible refine LeO.ite ?_ ?_)
      | (with_reducible refine LeO.bind ?_ (fun _ => ?_))
      | exact ih0 _ _
      | exact LeO.none _
      | refine LeO.ite ?_ ?_
      | refine LeO.bind ?_ (fun _ => ?_)
end Go.Proofs.YtlgfinnldhjgeaaDoor.Q
end

section
namespace Go.Proofs.YtlgfinnldhjgeaaDoor.Q
open Go.RowKit Go.Proofs.YtlgfinnldhjgeaaDoorW.PrintWords Go.Proofs.YtlgfinnldhjgeaaDoorW.PrintLast Go.Proofs.YtlgfinnldhjgeaaDoorW.PrintMore
attribute [local go_sem] max2_int min2_int max_two min_two max_three min_three max_four min_four
set_option linter.unusedVariables false
set_option linter.unusedSimpArgs false
mutual
def intrusionref06_Groups.l0 : Nat → List Int → Int → Bool → Int → Int → Option (List Int)
  | 0, _, _, _, _, _ => none
  | k + 1, x3, x4, x433000, x433001, x433002 => if x4 ≥ 0 then (if 0 ≤ (IntKind.u64.wrap (wrap64 (16 * x4))) then (if x3.length < 17592186044416 then (intrusionref06_Groups.l0 k (x3 ++ [wrap64 (Go.bits .and .u64 (shr .u64 x433001 (IntKind.u64.wrap (wrap64 (16 * x4)))) 65535)]) (wrap64 (x4 - 1)) x433000 x433001 x433002) else (none)) else (none)) else (intrusionref06_Groups.l1 k x3 3 x433000 x433001 x433002)
def intrusionref06_Groups.l1 : Nat → List Int → Int → Bool → Int → Int → Option (List Int)
  | 0, _, _, _, _, _ => none
  | k + 1, x3, x5, x433000, x433001, x433002 => if x5 ≥ 0 then (if 0 ≤ (IntKind.u64.wrap (wrap64 (16 * x5))) then (if x3.length < 17592186044416 then (intrusionref06_Groups.l1 k (x3 ++ [wrap64 (Go.bits .and .u64 (shr .u64 x433002 (IntKind.u64.wrap (wrap64 (16 * x5)))) 65535)]) (wrap64 (x5 - 1)) x433000 x433001 x433002) else (none)) else (none)) else (some x3)
end
def intrusionref06_Groups.f (k : Nat) (a0_0 : Bool) (a0_1 : Int) (a0_2 : Int) : Option (List Int) := intrusionref06_Groups.l0 k ([] : List Int) 3 a0_0 a0_1 a0_2
theorem intrusionref06_Groups.mono_l : ∀ k, (∀ y0 y1 y2 y3 y4, LeO (intrusionref06_Groups.l0 k y0 y1 y2 y3 y4) (intrusionref06_Groups.l0 (k + 1) y0 y1 y2 y3 y4)) ∧ (∀ y0 y1 y2 y3 y4, LeO (intrusionref06_Groups.l1 k y0 y1 y2 y3 y4) (intrusionref06_Groups.l1 (k + 1) y0 y1 y2 y3 y4))
  | 0 => ⟨fun _ _ _ _ _ r h => by simp [intrusionref06_Groups.l0] at h, fun _ _ _ _ _ r h => by simp [intrusionref06_Groups.l1] at h⟩
  | k + 1 => by
    obtain ⟨ih0, ih1⟩ := intrusionref06_Groups.mono_l k
    refine ⟨?_, ?_⟩
    · intro y0 y1 y2 y3 y4
      unfold intrusionref06_Groups.l0
      repeat' first
      | (with_reducible exact ih0 _ _ _ _ _)
      | (with_reducible exact ih1 _ _ _ _ _)
      | (with_reducible exact LeO.refl _)
      | (with_reducible exact LeO.none _)
      | (with_reducible refine LeO.ite ?_ ?_)
      | (with_reducible refine LeO.bind ?_ (fun _ => ?_))
      | exact ih0 _ _ _ _ _
      | exact ih1 _ _ _ _ _
      | exact LeO.none _
      | refine LeO.ite ?_ ?_
      | refine LeO.bind ?_ (fun _ => ?_)
    · intro y0 y1 y2 y3 y4
      unfold intrusionref06_Groups.l1
      repeat' first
      | (with_reducible exact ih0 _ _ _ _ _)
      | (with_reducible exact ih1 _ _ _ _ _)
      | (with_reducible exact LeO.refl _)
      | (with_reducible exact LeO.none _)
      | (with_reducible refine LeO.ite ?_ ?_)
      | (with_reducible refine LeO.bind ?_ (fun _ => ?_))
      | exact ih0 _ _ _ _ _
      | exact ih1 _ _ _ _ _
      | exact LeO.none _
      | refine LeO.ite ?_ ?_
      | refine LeO.bind ?_ (fun _ => ?_)
theorem intrusionref06_Groups.mono : ∀ a0 a1 a2 k, LeO (intrusionref06_Groups.f k a0 a1 a2) (intrusionref06_Groups.f (k + 1) a0 a1 a2) := by
  intro a0 a1 a2 k
  obtain ⟨ih0, ih1⟩ := intrusionref06_Groups.mono_l k
  unfold intrusionref06_Groups.f
  repeat' first
      | (with_reducible exact ih0 _ _ _ _ _)
      | (with_reducible exact ih1 _ _ _ _ _)
      | (with_reducible exact LeO.refl _)
      | (with_reducible exact LeO.none _)
      | (with_reducible refine LeO.ite ?_ ?_)
      | (with_reducible refine LeO.bind ?_ (fun _ => ?_))
      | exact ih0 _ _ _ _ _
      | exact ih1 _ _ _ _ _
      | exact LeO.none _
      | refine LeO.ite ?_ ?_
      | refine LeO.bind ?_ (fun _ => ?_)
end Go.Proofs.YtlgfinnldhjgeaaDoor.Q
end

section
namespace Go.Proofs.YtlgfinnldhjgeaaDoor.Q
open Go.RowKit Go.Proofs.YtlgfinnldhjgeaaDoorW.PrintWords Go.Proofs.YtlgfinnldhjgeaaDoorW.PrintLast Go.Proofs.YtlgfinnldhjgeaaDoorW.PrintMore
attribute [local go_sem] max2_int min2_int max_two min_two max_three min_three max_four min_four
set_option linter.unusedVariables false
set_option linter.unusedSimpArgs false
def intrusionref06_run.l0 : Nat → List Int → Int → Int → Option (Int)
  | 0, _, _, _ => none
  | k + 1, x0, x1, x5 => if (wrap64 (x1 + x5)) < (x0.length : Int) then (if 0 ≤ (wrap64 (x1 + x5)) then (if (rd x0 (wrap64 (x1 + x5))) = 0 then (intrusionref06_run.l0 k x0 x1 (wrap64 (x5 + 1))) else (some x5)) else (none)) else (some x5)
def intrusionref06_run.f (k : Nat) (l0 : List Int) (a1 : Int) : Option (Int) := intrusionref06_run.l0 k l0 a1 0
theorem intrusionref06_run.mono_l : ∀ k, (∀ y0 y1 y2, LeO (intrusionref06_run.l0 k y0 y1 y2) (intrusionref06_run.l0 (k + 1) y0 y1 y2))
  | 0 => fun _ _ _ r h => by simp [intrusionref06_run.l0] at h
  | k + 1 => by
    have ih0 := intrusionref06_run.mono_l k
    · intro y0 y1 y2
      unfold intrusionref06_run.l0
      repeat' first
      | (with_reducible exact ih0 _ _ _)
      | (with_reducible exact LeO.refl _)
      | (with_reducible exact LeO.none _)
      | (with_reducible refine LeO.ite ?_ ?_)
      | (with_reducible refine LeO.bind ?_ (fun _ => ?_))
      | exact ih0 _ _ _
      | exact LeO.none _
      | refine LeO.ite ?_ ?_
      | refine LeO.bind ?_ (fun _ => ?_)
theorem intrusionref06_run.mono : ∀ a0 a1 k, LeO (intrusionref06_run.f k a0 a1) (intrusionref06_run.f (k + 1) a0 a1) := by
  intro a0 a1 k
  have ih0 := intrusionref06_run.mono_l k
  unfold intrusionref06_run.f
  repeat' first
      | (with_reducible exact ih0 _ _ _)
      | (with_reducible exact LeO.refl _)
      | (with_reducible exact LeO.none _)
      | (with_reducible refine LeO.ite ?_ ?_)
      | (with_reducible refine LeO.bind ?_ (fun _ => ?_))
      | exact ih0 _ _ _
      | exact LeO.none _
      | refine LeO.ite ?_ ?_
      | refine LeO.bind ?_ (fun _ => ?_)
end Go.Proofs.YtlgfinnldhjgeaaDoor.Q
end

section
namespace Go.Proofs.YtlgfinnldhjgeaaDoor.Q
open Go.RowKit Go.Proofs.YtlgfinnldhjgeaaDoorW.PrintWords Go.Proofs.YtlgfinnldhjgeaaDoorW.PrintLast Go.Proofs.YtlgfinnldhjgeaaDoorW.PrintMore
attribute [local go_sem] max2_int min2_int max_two min_two max_three min_three max_four min_four
set_option linter.unusedVariables false
set_option linter.unusedSimpArgs false
def intrusionref06_hex.l0 : Nat → Int → ByteArray → Option (ByteArray)
  | 0, _, _ => none
  | k + 1, x0, x3 => if x0 > 15 then (if 0 ≤ (Int.tmod x0 16) then (if (Int.tmod x0 16) ≤ (wrap64 ((Int.tmod x0 16) + 1)) then (if (wrap64 ((Int.tmod x0 16) + 1)) ≤ 16 then (if ((⟨#[48, 49, 50, 51, 52, 53, 54, 55, 56, 57, 97, 98, 99, 100, 101, 102]⟩ : ByteArray).extract ((Int.tmod x0 16) : Int).toNat ((wrap64 ((Int.tmod x0 16) + 1)) : Int).toNat).size + x3.size ≤ 9223372036854775807 then (intrusionref06_hex.l0 k (wrap64 (Int.tdiv x0 16)) (((⟨#[48, 49, 50, 51, 52, 53, 54, 55, 56, 57, 97, 98, 99, 100, 101, 102]⟩ : ByteArray).extract ((Int.tmod x0 16) : Int).toNat ((wrap64 ((Int.tmod x0 16) + 1)) : Int).toNat) ++ x3)) else (none)) else (none)) else (none)) else (none)) else (if 0 ≤ x0 then (if x0 ≤ (wrap64 (x0 + 1)) then (if (wrap64 (x0 + 1)) ≤ 16 then (if ((⟨#[48, 49, 50, 51, 52, 53, 54, 55, 56, 57, 97, 98, 99, 100, 101, 102]⟩ : ByteArray).extract (x0 : Int).toNat ((wrap64 (x0 + 1)) : Int).toNat).size + x3.size ≤ 9223372036854775807 then (some (((⟨#[48, 49, 50, 51, 52, 53, 54, 55, 56, 57, 97, 98, 99, 100, 101, 102]⟩ : ByteArray).extract (x0 : Int).toNat ((wrap64 (x0 + 1)) : Int).toNat) ++ x3)) else (none)) else (none)) else (none)) else (none))
def intrusionref06_hex.f (k : Nat) (a0 : Int) : Option (ByteArray) := intrusionref06_hex.l0 k a0 (⟨#[]⟩ : ByteArray)
theorem intrusionref06_hex.mono_l : ∀ k, (∀ y0 y1, LeO (intrusionref06_hex.l0 k y0 y1) (intrusionref06_hex.l0 (k + 1) y0 y1))
  | 0 => fun _ _ r h => by simp [intrusionref06_hex.l0] at h
  | k + 1 => by
    have ih0 := intrusionref06_hex.mono_l k
    · intro y0 y1
      unfold intrusionref06_hex.l0
      repeat' first
      | (with_reducible exact ih0 _ _)
      | (with_reducible exact LeO.refl _)
      | (with_reducible exact LeO.none _)
      | (with_reducible refine LeO.ite ?_ ?_)
      | (with_reducible refine LeO.bind ?_ (fun _ => ?_))
      | exact ih0 _ _
      | exact LeO.none _
      | refine LeO.ite ?_ ?_
      | refine LeO.bind ?_ (fun _ => ?_)
theorem intrusionref06_hex.mono : ∀ a0 k, LeO (intrusionref06_hex.f k a0) (intrusionref06_hex.f (k + 1) a0) := by
  intro a0 k
  have ih0 := intrusionref06_hex.mono_l k
  unfold intrusionref06_hex.f
  repeat' first
      | (with_reducible exact ih0 _ _)
      | (with_reducible exact LeO.refl _)
      | (with_reducible exact LeO.none _)
      | (with_reducible refine LeO.ite ?_ ?_)
      | (with_reducible refine LeO.bind ?_ (fun _ => ?_))
      | exact ih0 _ _
      | exact LeO.none _
      | refine LeO.ite ?_ ?_
      | refine LeO.bind ?_ (fun _ => ?_)
end Go.Proofs.YtlgfinnldhjgeaaDoor.Q
end

section
namespace Go.Proofs.YtlgfinnldhjgeaaDoor.Q
open Go.RowKit Go.Proofs.YtlgfinnldhjgeaaDoorW.PrintWords Go.Proofs.YtlgfinnldhjgeaaDoorW.PrintLast Go.Proofs.YtlgfinnldhjgeaaDoorW.PrintMore
attribute [local go_sem] max2_int min2_int max_two min_two max_three min_three max_four min_four
set_option linter.unusedVariables false
set_option linter.unusedSimpArgs false
mutual
def intrusionref06_Format.l0 : Nat → List Int → Int → Int → Int → Option (ByteArray)
  | 0, _, _, _, _ => none
  | k + 1, x3, x4, x5, x6 => if x6 < 8 then ((intrusionref06_run.f k x3 x6).bind fun t448 => (if t448 > x5 then ((intrusionref06_run.f k x3 x6).bind fun t449 => (intrusionref06_Format.l0 k x3 x6 t449 (wrap64 (x6 + 1)))) else (intrusionref06_Format.l0 k x3 x4 x5 (wrap64 (x6 + 1))))) else (intrusionref06_Format.l1 k x3 x4 x5 (⟨#[]⟩ : ByteArray) 0)
def intrusionref06_Format.l1 : Nat → List Int → Int → Int → ByteArray → Int → Option (ByteArray)
  | 0, _, _, _, _, _ => none
  | k + 1, x3, x4, x5, x7, x8 => if x8 < 8 then (if x8 = x4 then (if x7.size + 2 ≤ 9223372036854775807 then (intrusionref06_Format.l1 k x3 x4 x5 (x7 ++ (⟨#[58, 58]⟩ : ByteArray)) (wrap64 ((wrap64 (x8 + (wrap64 (x5 - 1)))) + 1))) else (none)) else (if x7.toList = ([] : List UInt8) then (if 0 ≤ x8 then (if x8 < (x3.length : Int) then ((intrusionref06_hex.f k (rd x3 x8)).bind fun t451 => (if x7.size + t451.size ≤ 9223372036854775807 then (intrusionref06_Format.l1 k x3 x4 x5 (x7 ++ t451) (wrap64 (x8 + 1))) else (none))) else (none)) else (none)) else (if 0 ≤ (wrap64 ((x7.size : Int) - 1)) then (if (wrap64 ((x7.size : Int) - 1)) < (x7.size : Int) then (if (bt x7 (wrap64 ((x7.size : Int) - 1))) = 58 then (if 0 ≤ x8 then (if x8 < (x3.length : Int) then ((intrusionref06_hex.f k (rd x3 x8)).bind fun t453 => (if x7.size + t453.size ≤ 9223372036854775807 then (intrusionref06_Format.l1 k x3 x4 x5 (x7 ++ t453) (wrap64 (x8 + 1))) else (none))) else (none)) else (none)) else (if x7.size + 1 ≤ 9223372036854775807 then (if 0 ≤ x8 then (if x8 < (x3.length : Int) then ((intrusionref06_hex.f k (rd x3 x8)).bind fun t455 => (if (x7 ++ (⟨#[58]⟩ : ByteArray)).size + t455.size ≤ 9223372036854775807 then (intrusionref06_Format.l1 k x3 x4 x5 ((x7 ++ (⟨#[58]⟩ : ByteArray)) ++ t455) (wrap64 (x8 + 1))) else (none))) else (none)) else (none)) else (none))) else (none)) else (none)))) else (some x7)
end
def intrusionref06_Format.f (k : Nat) (a0_0 : Bool) (a0_1 : Int) (a0_2 : Int) : Option (ByteArray) := if a0_0 = true then ((intrusionref06_Groups.f k a0_0 a0_1 a0_2).bind fun t445 => (intrusionref06_Format.l0 k t445 (-1) 1 0)) else ((intrusionref06_Number.f k (wrap64 (Go.bits .and .u64 (a0_2 / 16777216) 255))).bind fun t441 => (if t441.size + 1 ≤ 9223372036854775807 then ((intrusionref06_Number.f k (wrap64 (Go.bits .and .u64 (a0_2 / 65536) 255))).bind fun t442 => (if (t441 ++ (⟨#[46]⟩ : ByteArray)).size + t442.size ≤ 9223372036854775807 then (if ((t441 ++ (⟨#[46]⟩ : ByteArray)) ++ t442).size + 1 ≤ 9223372036854775807 then ((intrusionref06_Number.f k (wrap64 (Go.bits .and .u64 (a0_2 / 256) 255))).bind fun t443 => (if (((t441 ++ (⟨#[46]⟩ : ByteArray)) ++ t442) ++ (⟨#[46]⟩ : ByteArray)).size + t443.size ≤ 9223372036854775807 then (if ((((t441 ++ (⟨#[46]⟩ : ByteArray)) ++ t442) ++ (⟨#[46]⟩ : ByteArray)) ++ t443).size + 1 ≤ 9223372036854775807 then ((intrusionref06_Number.f k (wrap64 (Go.bits .and .u64 a0_2 255))).bind fun t444 => (if (((((t441 ++ (⟨#[46]⟩ : ByteArray)) ++ t442) ++ (⟨#[46]⟩ : ByteArray)) ++ t443) ++ (⟨#[46]⟩ : ByteArray)).size + t444.size ≤ 9223372036854775807 then (some ((((((t441 ++ (⟨#[46]⟩ : ByteArray)) ++ t442) ++ (⟨#[46]⟩ : ByteArray)) ++ t443) ++ (⟨#[46]⟩ : ByteArray)) ++ t444)) else (none))) else (none)) else (none))) else (none)) else (none))) else (none)))
theorem intrusionref06_Format.mono_l : ∀ k, (∀ y0 y1 y2 y3, LeO (intrusionref06_Format.l0 k y0 y1 y2 y3) (intrusionref06_Format.l0 (k + 1) y0 y1 y2 y3)) ∧ (∀ y0 y1 y2 y3 y4, LeO (intrusionref06_Format.l1 k y0 y1 y2 y3 y4) (intrusionref06_Format.l1 (k + 1) y0 y1 y2 y3 y4))
  | 0 => ⟨fun _ _ _ _ r h => by simp [intrusionref06_Format.l0] at h, fun _ _ _ _ _ r h => by simp [intrusionref06_Format.l1] at h⟩
  | k + 1 => by
    obtain ⟨ih0, ih1⟩ := intrusionref06_Format.mono_l k
    refine ⟨?_, ?_⟩
    · intro y0 y1 y2 y3
      unfold intrusionref06_Format.l0
      repeat' first
      | (with_reducible exact ih0 _ _ _ _)
      | (with_reducible exact ih1 _ _ _ _ _)
      | (with_reducible exact intrusionref06_Groups.mono _ _ _ _)
      | (with_reducible exact intrusionref06_Number.mono _ _)
      | (with_reducible exact intrusionref06_hex.mono _ _)
      | (with_reducible exact intrusionref06_run.mono _ _ _)
      | (with_reducible exact LeO.refl _)
      | (with_reducible exact LeO.none _)
      | (with_reducible refine LeO.ite ?_ ?_)
      | (with_reducible refine LeO.bind ?_ (fun _ => ?_))
      | exact ih0 _ _ _ _
      | exact ih1 _ _ _ _ _
      | exact intrusionref06_Groups.mono _ _ _ _
      | exact intrusionref06_Number.mono _ _
      | exact intrusionref06_hex.mono _ _
      | exact intrusionref06_run.mono _ _ _
      | exact LeO.none _
      | refine LeO.ite ?_ ?_
      | refine LeO.bind ?_ (fun _ => ?_)
    · intro y0 y1 y2 y3 y4
      unfold intrusionref06_Format.l1
      repeat' first
      | (with_reducible exact ih0 _ _ _ _)
      | (with_reducible exact ih1 _ _ _ _ _)
      | (with_reducible exact intrusionref06_Groups.mono _ _ _ _)
      | (with_reducible exact intrusionref06_Number.mono _ _)
      | (with_reducible exact intrusionref06_hex.mono _ _)
      | (with_reducible exact intrusionref06_run.mono _ _ _)
      | (with_reducible exact LeO.refl _)
      | (with_reducible exact LeO.none _)
      | (with_reducible refine LeO.ite ?_ ?_)
      | (with_reducible refine LeO.bind ?_ (fun _ => ?_))
      | exact ih0 _ _ _ _
      | exact ih1 _ _ _ _ _
      | exact intrusionref06_Groups.mono _ _ _ _
      | exact intrusionref06_Number.mono _ _
      | exact intrusionref06_hex.mono _ _
      | exact intrusionref06_run.mono _ _ _
      | exact LeO.none _
      | refine LeO.ite ?_ ?_
      | refine LeO.bind ?_ (fun _ => ?_)
theorem intrusionref06_Format.mono : ∀ a0 a1 a2 k, LeO (intrusionref06_Format.f k a0 a1 a2) (intrusionref06_Format.f (k + 1) a0 a1 a2) := by
  intro a0 a1 a2 k
  obtain ⟨ih0, ih1⟩ := intrusionref06_Format.mono_l k
  unfold intrusionref06_Format.f
  repeat' first
      | (with_reducible exact ih0 _ _ _ _)
      | (with_reducible exact ih1 _ _ _ _ _)
      | (with_reducible exact intrusionref06_Groups.mono _ _ _ _)
      | (with_reducible exact intrusionref06_Number.mono _ _)
      | (with_reducible exact intrusionref06_hex.mono _ _)
      | (with_reducible exact intrusionref06_run.mono _ _ _)
      | (with_reducible exact LeO.refl _)
      | (with_reducible exact LeO.none _)
      | (with_reducible refine LeO.ite ?_ ?_)
      | (with_reducible refine LeO.bind ?_ (fun _ => ?_))
      | exact ih0 _ _ _ _
      | exact ih1 _ _ _ _ _
      | exact intrusionref06_Groups.mono _ _ _ _
      | exact intrusionref06_Number.mono _ _
      | exact intrusionref06_hex.mono _ _
      | exact intrusionref06_run.mono _ _ _
      | exact LeO.none _
      | refine LeO.ite ?_ ?_
      | refine LeO.bind ?_ (fun _ => ?_)
end Go.Proofs.YtlgfinnldhjgeaaDoor.Q
end

section
namespace Go.Proofs.YtlgfinnldhjgeaaDoor.Q
open Go.RowKit Go.Proofs.YtlgfinnldhjgeaaDoorW.PrintWords Go.Proofs.YtlgfinnldhjgeaaDoorW.PrintLast Go.Proofs.YtlgfinnldhjgeaaDoorW.PrintMore
attribute [local go_sem] max2_int min2_int max_two min_two max_three min_three max_four min_four
set_option linter.unusedVariables false
set_option linter.unusedSimpArgs false
def address_FormatPrefix.f (a0_0 : Bool) (a0_1 : Int) (a0_2 : Int) (a0_3 : Int) : Option (ByteArray) := (address_Format.f a0_0 a0_1 a0_2).bind fun t467 => (if t467.size + 1 ≤ 9223372036854775807 then ((strconv_Itoa.f a0_3).bind fun t468 => (if (t467 ++ (⟨#[47]⟩ : ByteArray)).size + t468.size ≤ 9223372036854775807 then (some ((t467 ++ (⟨#[47]⟩ : ByteArray)) ++ t468)) else (none))) else (none))
end Go.Proofs.YtlgfinnldhjgeaaDoor.Q
end

section
namespace Go.Proofs.YtlgfinnldhjgeaaDoor.Q
open Go.RowKit Go.Proofs.YtlgfinnldhjgeaaDoorW.PrintWords Go.Proofs.YtlgfinnldhjgeaaDoorW.PrintLast Go.Proofs.YtlgfinnldhjgeaaDoorW.PrintMore
attribute [local go_sem] max2_int min2_int max_two min_two max_three min_three max_four min_four
set_option linter.unusedVariables false
set_option linter.unusedSimpArgs false
def intrusionref06_FormatPrefix.f (k : Nat) (a0_0 : Bool) (a0_1 : Int) (a0_2 : Int) (a0_3 : Int) : Option (ByteArray) := (intrusionref06_Format.f k a0_0 a0_1 a0_2).bind fun t470 => (if t470.size + 1 ≤ 9223372036854775807 then ((intrusionref06_Number.f k a0_3).bind fun t471 => (if (t470 ++ (⟨#[47]⟩ : ByteArray)).size + t471.size ≤ 9223372036854775807 then (some ((t470 ++ (⟨#[47]⟩ : ByteArray)) ++ t471)) else (none))) else (none))
theorem intrusionref06_FormatPrefix.mono : ∀ a0 a1 a2 a3 k, LeO (intrusionref06_FormatPrefix.f k a0 a1 a2 a3) (intrusionref06_FormatPrefix.f (k + 1) a0 a1 a2 a3) := by
  intro a0 a1 a2 a3 k
  unfold intrusionref06_FormatPrefix.f
  repeat' first
      | (with_reducible exact intrusionref06_Format.mono _ _ _ _)
      | (with_reducible exact intrusionref06_Number.mono _ _)
      | (with_reducible exact LeO.refl _)
      | (with_reducible exact LeO.none _)
      | (with_reducible refine LeO.ite ?_ ?_)
      | (with_reducible refine LeO.bind ?_ (fun _ => ?_))
      | exact intrusionref06_Format.mono _ _ _ _
      | exact intrusionref06_Number.mono _ _
      | exact LeO.none _
      | refine LeO.ite ?_ ?_
      | refine LeO.bind ?_ (fun _ => ?_)
end Go.Proofs.YtlgfinnldhjgeaaDoor.Q
end

section
set_option linter.unusedVariables false
set_option linter.unusedSimpArgs false
namespace Go.Proofs.YtlgfinnldhjgeaaDoor.Q
open Go.RowKit Go.Proofs.YtlgfinnldhjgeaaDoorW.PrintWords Go.Proofs.YtlgfinnldhjgeaaDoorW.PrintLast Go.Proofs.YtlgfinnldhjgeaaDoorW.PrintMore
theorem and_zero (x n : Nat) (hx : x < 18446744073709551616) (hn : n ≤ 64) : Go.bits .and .u64 (x : Int) ((2 ^ n - 1 : Nat) : Int) = 0 ↔ setN x n false = x := by
  rw [bits_and x n hx hn]
  have := Nat.mod_le x (2 ^ n)
  unfold setN
  simp only [Bool.false_eq_true, if_false]
  omega
theorem low_iff {a : Ad} (h : AW a) {k : Nat} (hk : k ≤ 128) : (Go.bits .and .u64 a.f1 (hiM k) = 0 ∧ Go.bits .and .u64 a.f2 (loM k) = 0) ↔ subA a k false = a := by
  rw [subA_eq h hk]
  obtain ⟨h1, h2, h3, h4⟩ := h
  obtain ⟨a0, a1, a2⟩ := a
  simp only at h1 h2 h3 h4 ⊢
  have e1 := and_zero a1.toNat (k - 64) (by omega) (by omega)
  have e2 := and_zero a2.toNat (min k 64) (by omega) (by omega)
  rw [show ((a1.toNat : Nat) : Int) = a1 from by omega] at e1
  rw [show ((a2.toNat : Nat) : Int) = a2 from by omega] at e2
  unfold hiM loM
  rw [e1, e2]
  simp only [Ad, S25.mk.injEq, true_and]
  omega
def vpB (a : Ad) (b : Int) : Bool := fineB a && (decide (0 ≤ b ∧ b ≤ szA a.f0) && decide (subA a (restN a b) false = a))
theorem vp_eq {a : Ad} (h : AW a) (b : Int) : address_ValidPrefix.f a.f0 a.f1 a.f2 b = some (vpB a b) := by
  have hs := szA_le a.f0
  unfold address_ValidPrefix.f vpB
  rw [fine_eq, Option.bind_some]
  cases hf : fineB a
  · rfl
  · rw [if_pos rfl, Bool.true_and]
    by_cases h0 : b < 0
    · rw [if_pos h0, decide_eq_false (by omega)]; rfl
    · rw [if_neg h0, size_eq, Option.bind_some]
      by_cases h1 : b > ((szA a.f0 : Nat) : Int)
      · rw [if_pos h1, decide_eq_false (by omega)]; rfl
      · have hk : restN a b ≤ 128 := by unfold restN; omega
        have hl := low_iff h hk
        rw [if_neg h1, mask_eq a b (restN a b) (by unfold restN; omega) (by omega) (by omega), Option.bind_some, decide_eq_true (show 0 ≤ b ∧ b ≤ ((szA a.f0 : Nat) : Int) from by omega), Bool.true_and]
        by_cases c : Go.bits .and .u64 a.f1 (hiM (restN a b)) = 0
        · rw [if_pos c]
          congr 1
          rw [Bool.eq_iff_iff, beq_iff_eq, decide_eq_true_eq, ← hl]
          exact ⟨fun h => ⟨c, h⟩, fun h => h.2⟩
        · rw [if_neg c, decide_eq_false (fun e => c (hl.2 e).1)]
theorem rvp_ev {a : Ad} (h : AW a) (b : Int) : Ev (fun k => intrusionref06_ValidPrefix.f k a.f0 a.f1 a.f2 b) (vpB a b) := by
  unfold intrusionref06_ValidPrefix.f vpB
  rw [rfine_eq]
  cases hf : fineB a
  · exact Ev.now _
  · have ha := (fine_iff h).1 hf
    by_cases h0 : b ≥ 0
    · by_cases h1 : b ≤ ((szA a.f0 : Nat) : Int)
      · refine Ev.congr (f := fun k => (intrusionref06_with.f k a.f0 a.f1 a.f2 b false).bind fun t => some (t.1 == a.f0 && (t.2.1 == a.f1 && (t.2.2 == a.f2)))) (fun k => ?_) ?_
        · rw [Option.bind_some, if_pos rfl, if_pos h0, width_eq, Option.bind_some, if_pos h1]
        · rw [decide_eq_true (show 0 ≤ b ∧ b ≤ ((szA a.f0 : Nat) : Int) from by omega), Bool.true_and, Bool.true_and, ← ends_eq]
          exact Ev.bind (withf_ev ha h0 h1 false) (Ev.now _)
      · rw [decide_eq_false (show ¬ (0 ≤ b ∧ b ≤ ((szA a.f0 : Nat) : Int)) from by omega)]
        refine Ev.congr (f := fun _ => some false) (fun k => ?_) (Ev.now _)
        rw [Option.bind_some, if_pos rfl, if_pos h0, width_eq, Option.bind_some, if_neg h1]
    · rw [decide_eq_false (show ¬ (0 ≤ b ∧ b ≤ ((szA a.f0 : Nat) : Int)) from by omega)]
      refine Ev.congr (f := fun _ => some false) (fun k => ?_) (Ev.now _)
      rw [Option.bind_some, if_pos rfl, if_neg h0]
end Go.Proofs.YtlgfinnldhjgeaaDoor.Q
end
